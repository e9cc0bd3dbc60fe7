import Derived.Shelf.SlicesG.CompactI
import Derived.Shelf.SlicesG.Clone
import Derived.Shelf.SortG.Plain
import Derived.Shelf.SlSortCmp.WholeK
import Derived.Ground.SlgnProg
import Derived.Ground.SlsfProg
import Derived.Test.YtfondhcppjkchaaGreatProg
import Derived.Test.YtfondhcppjkchaaGreatC21
import Derived.Test.YtfondhcppjkchaaGreatC5
import Derived.Deep.RegionHeld3
import Derived.Handy
set_option maxHeartbeats 40000000
set_option maxRecDepth 100000
set_option linter.unusedVariables false
set_option linter.unusedSimpArgs false
namespace Go.Proofs
open Go.Shelf
def Tryz.laysSortJobs_ren : Go.Shelf.Ren := ⟨fun | 6 => 62 | 15 => 100 | 14 => 99 | 28 => 138 | 29 => 139 | 20 => 130 | 21 => 131 | 22 => 132 | 23 => 133 | 24 => 134 | 25 => 135 | 26 => 136 | 27 => 137 | 46 => 150 | 47 => 151 | 48 => 152 | 49 => 153 | 50 => 154 | 57 => 174 | n => n, fun | 22 => 52 | 24 => 56 | 25 => 122 | 3 => 3 | 39 => 162 | 0 => 0 | 53 => 193 | 55 => 136 | 4 => 4 | 46 => 186 | 45 => 185 | 50 => 190 | 5 => 5 | 9 => 9 | 66 => 207 | 70 => 211 | 76 => 226 | 77 => 227 | n => n, fun | n => n⟩
theorem Tryz.laysSortJobs : Go.Proofs.SlLaysF0.n6 Tryz.prog Tryz.laysSortJobs_ren := {
 mixed := by kernel_rfl
 f6 := ⟨Tryz.f62.name, by decide, Tryz.func62.trans (congrArg some (by kernel_rfl))⟩
 f14 := ⟨Tryz.f99.name, by decide, Tryz.func99.trans (congrArg some (by kernel_rfl))⟩
 f15 := Tryz.func100.trans (congrArg some (by kernel_rfl))
 f20 := ⟨Tryz.f130.name, by decide, Tryz.func130.trans (congrArg some (by kernel_rfl))⟩
 f21 := ⟨Tryz.f131.name, by decide, Tryz.func131.trans (congrArg some (by kernel_rfl))⟩
 f22 := ⟨Tryz.f132.name, by decide, Tryz.func132.trans (congrArg some (by kernel_rfl))⟩
 f23 := ⟨Tryz.f133.name, by decide, Tryz.func133.trans (congrArg some (by kernel_rfl))⟩
 f24 := ⟨Tryz.f134.name, by decide, Tryz.func134.trans (congrArg some (by kernel_rfl))⟩
 f25 := ⟨Tryz.f135.name, by decide, Tryz.func135.trans (congrArg some (by kernel_rfl))⟩
 f26 := ⟨Tryz.f136.name, by decide, Tryz.func136.trans (congrArg some (by kernel_rfl))⟩
 f27 := ⟨Tryz.f137.name, by decide, Tryz.func137.trans (congrArg some (by kernel_rfl))⟩
 f28 := Tryz.func138.trans (congrArg some (by kernel_rfl))
 f29 := Tryz.func139.trans (congrArg some (by kernel_rfl))
 f46 := ⟨Tryz.f150.name, by decide, Tryz.func150.trans (congrArg some (by kernel_rfl))⟩
 f47 := Tryz.func151.trans (congrArg some (by kernel_rfl))
 f48 := Tryz.func152.trans (congrArg some (by kernel_rfl))
 f49 := ⟨Tryz.f153.name, by decide, Tryz.func153.trans (congrArg some (by kernel_rfl))⟩
 f50 := ⟨Tryz.f154.name, by decide, Tryz.func154.trans (congrArg some (by kernel_rfl))⟩
 f57 := ⟨Tryz.f174.name, by decide, Tryz.func174.trans (congrArg some (by kernel_rfl))⟩
 t0 := Tryz.underlying0
 a0 := Tryz.isAgg0
 z0 := Tryz.sizeOf0
 v0 := Tryz.zeroValue0
 t3 := Tryz.underlying3
 a3 := Tryz.isAgg3
 z3 := Tryz.sizeOf3
 v3 := Tryz.zeroValue3
 t4 := Tryz.underlying4
 a4 := Tryz.isAgg4
 z4 := Tryz.sizeOf4
 v4 := Tryz.zeroValue4
 t5 := Tryz.underlying5
 a5 := Tryz.isAgg5
 z5 := Tryz.sizeOf5
 v5 := Tryz.zeroValue5
 t9 := Tryz.underlying9
 a9 := Tryz.isAgg9
 z9 := Tryz.sizeOf9
 v9 := Tryz.zeroValue9
 t22 := Tryz.underlying52
 a22 := Tryz.isAgg52
 z22 := Tryz.sizeOf52
 v22 := Tryz.zeroValue52
 t25 := Tryz.underlying122
 a25 := Tryz.isAgg122
 z25 := Tryz.sizeOf122
 v25 := Tryz.zeroValue122
 t39 := Tryz.underlying162
 a39 := Tryz.isAgg162
 z39 := Tryz.sizeOf162
 v39 := Tryz.zeroValue162
 t45 := Tryz.underlying185
 a45 := Tryz.isAgg185
 z45 := Tryz.sizeOf185
 v45 := Tryz.zeroValue185
 t46 := Tryz.underlying186
 a46 := Tryz.isAgg186
 z46 := Tryz.sizeOf186
 v46 := Tryz.zeroValue186
 t50 := Tryz.underlying190
 a50 := Tryz.isAgg190
 z50 := Tryz.sizeOf190
 v50 := Tryz.zeroValue190
 t53 := Tryz.underlying193
 a53 := Tryz.isAgg193
 z53 := Tryz.sizeOf193
 v53 := Tryz.zeroValue193
 t55 := Tryz.underlying136
 a55 := Tryz.isAgg136
 z55 := Tryz.sizeOf136
 v55 := Tryz.zeroValue136
 t66 := Tryz.underlying207
 a66 := Tryz.isAgg207
 z66 := Tryz.sizeOf207
 v66 := Tryz.zeroValue207
 t70 := Tryz.underlying211
 a70 := Tryz.isAgg211
 z70 := Tryz.sizeOf211
 v70 := Tryz.zeroValue211
 t76 := Tryz.underlying226
 a76 := Tryz.isAgg226
 z76 := Tryz.sizeOf226
 v76 := Tryz.zeroValue226
 t77 := Tryz.underlying227
 a77 := Tryz.isAgg227
 z77 := Tryz.sizeOf227
 v77 := Tryz.zeroValue227 }
def Tryz.laysSortFunc_ren : Go.Shelf.Ren := ⟨fun | 6 => 106 | 15 => 100 | 14 => 142 | 28 => 138 | 29 => 139 | 20 => 155 | 21 => 156 | 22 => 157 | 23 => 158 | 24 => 159 | 25 => 160 | 26 => 161 | 27 => 162 | 46 => 175 | 47 => 151 | 48 => 152 | 49 => 176 | 50 => 177 | 57 => 181 | n => n, fun | 22 => 34 | 24 => 61 | 25 => 127 | 3 => 3 | 39 => 162 | 0 => 0 | 53 => 193 | 55 => 136 | 4 => 4 | 46 => 186 | 45 => 185 | 50 => 190 | 5 => 5 | 9 => 9 | 66 => 207 | 70 => 211 | 76 => 226 | 77 => 227 | n => n, fun | n => n⟩
theorem Tryz.laysSortFunc : Go.Proofs.SlLaysF0.n6 Tryz.prog Tryz.laysSortFunc_ren := {
 mixed := by kernel_rfl
 f6 := ⟨Tryz.f106.name, by decide, Tryz.func106.trans (congrArg some (by kernel_rfl))⟩
 f14 := ⟨Tryz.f142.name, by decide, Tryz.func142.trans (congrArg some (by kernel_rfl))⟩
 f15 := Tryz.func100.trans (congrArg some (by kernel_rfl))
 f20 := ⟨Tryz.f155.name, by decide, Tryz.func155.trans (congrArg some (by kernel_rfl))⟩
 f21 := ⟨Tryz.f156.name, by decide, Tryz.func156.trans (congrArg some (by kernel_rfl))⟩
 f22 := ⟨Tryz.f157.name, by decide, Tryz.func157.trans (congrArg some (by kernel_rfl))⟩
 f23 := ⟨Tryz.f158.name, by decide, Tryz.func158.trans (congrArg some (by kernel_rfl))⟩
 f24 := ⟨Tryz.f159.name, by decide, Tryz.func159.trans (congrArg some (by kernel_rfl))⟩
 f25 := ⟨Tryz.f160.name, by decide, Tryz.func160.trans (congrArg some (by kernel_rfl))⟩
 f26 := ⟨Tryz.f161.name, by decide, Tryz.func161.trans (congrArg some (by kernel_rfl))⟩
 f27 := ⟨Tryz.f162.name, by decide, Tryz.func162.trans (congrArg some (by kernel_rfl))⟩
 f28 := Tryz.func138.trans (congrArg some (by kernel_rfl))
 f29 := Tryz.func139.trans (congrArg some (by kernel_rfl))
 f46 := ⟨Tryz.f175.name, by decide, Tryz.func175.trans (congrArg some (by kernel_rfl))⟩
 f47 := Tryz.func151.trans (congrArg some (by kernel_rfl))
 f48 := Tryz.func152.trans (congrArg some (by kernel_rfl))
 f49 := ⟨Tryz.f176.name, by decide, Tryz.func176.trans (congrArg some (by kernel_rfl))⟩
 f50 := ⟨Tryz.f177.name, by decide, Tryz.func177.trans (congrArg some (by kernel_rfl))⟩
 f57 := ⟨Tryz.f181.name, by decide, Tryz.func181.trans (congrArg some (by kernel_rfl))⟩
 t0 := Tryz.underlying0
 a0 := Tryz.isAgg0
 z0 := Tryz.sizeOf0
 v0 := Tryz.zeroValue0
 t3 := Tryz.underlying3
 a3 := Tryz.isAgg3
 z3 := Tryz.sizeOf3
 v3 := Tryz.zeroValue3
 t4 := Tryz.underlying4
 a4 := Tryz.isAgg4
 z4 := Tryz.sizeOf4
 v4 := Tryz.zeroValue4
 t5 := Tryz.underlying5
 a5 := Tryz.isAgg5
 z5 := Tryz.sizeOf5
 v5 := Tryz.zeroValue5
 t9 := Tryz.underlying9
 a9 := Tryz.isAgg9
 z9 := Tryz.sizeOf9
 v9 := Tryz.zeroValue9
 t22 := Tryz.underlying34
 a22 := Tryz.isAgg34
 z22 := Tryz.sizeOf34
 v22 := Tryz.zeroValue34
 t25 := Tryz.underlying127
 a25 := Tryz.isAgg127
 z25 := Tryz.sizeOf127
 v25 := Tryz.zeroValue127
 t39 := Tryz.underlying162
 a39 := Tryz.isAgg162
 z39 := Tryz.sizeOf162
 v39 := Tryz.zeroValue162
 t45 := Tryz.underlying185
 a45 := Tryz.isAgg185
 z45 := Tryz.sizeOf185
 v45 := Tryz.zeroValue185
 t46 := Tryz.underlying186
 a46 := Tryz.isAgg186
 z46 := Tryz.sizeOf186
 v46 := Tryz.zeroValue186
 t50 := Tryz.underlying190
 a50 := Tryz.isAgg190
 z50 := Tryz.sizeOf190
 v50 := Tryz.zeroValue190
 t53 := Tryz.underlying193
 a53 := Tryz.isAgg193
 z53 := Tryz.sizeOf193
 v53 := Tryz.zeroValue193
 t55 := Tryz.underlying136
 a55 := Tryz.isAgg136
 z55 := Tryz.sizeOf136
 v55 := Tryz.zeroValue136
 t66 := Tryz.underlying207
 a66 := Tryz.isAgg207
 z66 := Tryz.sizeOf207
 v66 := Tryz.zeroValue207
 t70 := Tryz.underlying211
 a70 := Tryz.isAgg211
 z70 := Tryz.sizeOf211
 v70 := Tryz.zeroValue211
 t76 := Tryz.underlying226
 a76 := Tryz.isAgg226
 z76 := Tryz.sizeOf226
 v76 := Tryz.zeroValue226
 t77 := Tryz.underlying227
 a77 := Tryz.isAgg227
 z77 := Tryz.sizeOf227
 v77 := Tryz.zeroValue227 }
def Tryz.laysSort_ren : Go.Shelf.Ren := ⟨fun | 53 => 108 | 64 => 100 | 63 => 143 | 78 => 138 | 79 => 139 | 70 => 163 | 71 => 164 | 72 => 165 | 73 => 166 | 74 => 167 | 75 => 168 | 59 => 169 | 76 => 170 | 77 => 171 | 88 => 178 | 89 => 151 | 90 => 152 | 91 => 179 | 92 => 180 | 68 => 101 | 96 => 182 | n => n, fun | 22 => 24 | 23 => 2 | 3 => 3 | 51 => 162 | 0 => 0 | 67 => 193 | 69 => 136 | 4 => 4 | 61 => 186 | 60 => 185 | 44 => 190 | 5 => 5 | 9 => 9 | 75 => 207 | 79 => 211 | 83 => 226 | 84 => 227 | n => n, fun | n => n⟩
theorem Tryz.laysSort : Go.Proofs.SlLaysN.n53 Tryz.prog Tryz.laysSort_ren := {
 mixed := by kernel_rfl
 f53 := ⟨Tryz.f108.name, by decide, Tryz.func108.trans (congrArg some (by kernel_rfl))⟩
 f59 := ⟨Tryz.f169.name, by decide, Tryz.func169.trans (congrArg some (by kernel_rfl))⟩
 f63 := ⟨Tryz.f143.name, by decide, Tryz.func143.trans (congrArg some (by kernel_rfl))⟩
 f64 := Tryz.func100.trans (congrArg some (by kernel_rfl))
 f68 := ⟨Tryz.f101.name, by decide, Tryz.func101.trans (congrArg some (by kernel_rfl))⟩
 f70 := ⟨Tryz.f163.name, by decide, Tryz.func163.trans (congrArg some (by kernel_rfl))⟩
 f71 := ⟨Tryz.f164.name, by decide, Tryz.func164.trans (congrArg some (by kernel_rfl))⟩
 f72 := ⟨Tryz.f165.name, by decide, Tryz.func165.trans (congrArg some (by kernel_rfl))⟩
 f73 := ⟨Tryz.f166.name, by decide, Tryz.func166.trans (congrArg some (by kernel_rfl))⟩
 f74 := ⟨Tryz.f167.name, by decide, Tryz.func167.trans (congrArg some (by kernel_rfl))⟩
 f75 := ⟨Tryz.f168.name, by decide, Tryz.func168.trans (congrArg some (by kernel_rfl))⟩
 f76 := ⟨Tryz.f170.name, by decide, Tryz.func170.trans (congrArg some (by kernel_rfl))⟩
 f77 := ⟨Tryz.f171.name, by decide, Tryz.func171.trans (congrArg some (by kernel_rfl))⟩
 f78 := Tryz.func138.trans (congrArg some (by kernel_rfl))
 f79 := Tryz.func139.trans (congrArg some (by kernel_rfl))
 f88 := ⟨Tryz.f178.name, by decide, Tryz.func178.trans (congrArg some (by kernel_rfl))⟩
 f89 := Tryz.func151.trans (congrArg some (by kernel_rfl))
 f90 := Tryz.func152.trans (congrArg some (by kernel_rfl))
 f91 := ⟨Tryz.f179.name, by decide, Tryz.func179.trans (congrArg some (by kernel_rfl))⟩
 f92 := ⟨Tryz.f180.name, by decide, Tryz.func180.trans (congrArg some (by kernel_rfl))⟩
 f96 := ⟨Tryz.f182.name, by decide, Tryz.func182.trans (congrArg some (by kernel_rfl))⟩
 t0 := Tryz.underlying0
 a0 := Tryz.isAgg0
 z0 := Tryz.sizeOf0
 v0 := Tryz.zeroValue0
 t3 := Tryz.underlying3
 a3 := Tryz.isAgg3
 z3 := Tryz.sizeOf3
 v3 := Tryz.zeroValue3
 t4 := Tryz.underlying4
 a4 := Tryz.isAgg4
 z4 := Tryz.sizeOf4
 v4 := Tryz.zeroValue4
 t5 := Tryz.underlying5
 a5 := Tryz.isAgg5
 z5 := Tryz.sizeOf5
 v5 := Tryz.zeroValue5
 t9 := Tryz.underlying9
 a9 := Tryz.isAgg9
 z9 := Tryz.sizeOf9
 v9 := Tryz.zeroValue9
 t22 := Tryz.underlying24
 a22 := Tryz.isAgg24
 z22 := Tryz.sizeOf24
 v22 := Tryz.zeroValue24
 t23 := Tryz.underlying2
 a23 := Tryz.isAgg2
 z23 := Tryz.sizeOf2
 v23 := Tryz.zeroValue2
 t44 := Tryz.underlying190
 a44 := Tryz.isAgg190
 z44 := Tryz.sizeOf190
 v44 := Tryz.zeroValue190
 t51 := Tryz.underlying162
 a51 := Tryz.isAgg162
 z51 := Tryz.sizeOf162
 v51 := Tryz.zeroValue162
 t60 := Tryz.underlying185
 a60 := Tryz.isAgg185
 z60 := Tryz.sizeOf185
 v60 := Tryz.zeroValue185
 t61 := Tryz.underlying186
 a61 := Tryz.isAgg186
 z61 := Tryz.sizeOf186
 v61 := Tryz.zeroValue186
 t67 := Tryz.underlying193
 a67 := Tryz.isAgg193
 z67 := Tryz.sizeOf193
 v67 := Tryz.zeroValue193
 t69 := Tryz.underlying136
 a69 := Tryz.isAgg136
 z69 := Tryz.sizeOf136
 v69 := Tryz.zeroValue136
 t75 := Tryz.underlying207
 a75 := Tryz.isAgg207
 z75 := Tryz.sizeOf207
 v75 := Tryz.zeroValue207
 t79 := Tryz.underlying211
 a79 := Tryz.isAgg211
 z79 := Tryz.sizeOf211
 v79 := Tryz.zeroValue211
 t83 := Tryz.underlying226
 a83 := Tryz.isAgg226
 z83 := Tryz.sizeOf226
 v83 := Tryz.zeroValue226
 t84 := Tryz.underlying227
 a84 := Tryz.isAgg227
 z84 := Tryz.sizeOf227
 v84 := Tryz.zeroValue227 }
def Tryz.laysCompact_ren : Go.Shelf.Ren := ⟨fun | 43 => 109 | n => n, fun | 22 => 24 | 23 => 2 | 3 => 3 | 4 => 4 | 0 => 0 | n => n, fun | n => n⟩
theorem Tryz.laysCompact : Go.Proofs.SlLaysN.n43 Tryz.prog Tryz.laysCompact_ren := {
 mixed := by kernel_rfl
 f43 := ⟨Tryz.f109.name, by decide, Tryz.func109.trans (congrArg some (by kernel_rfl))⟩
 t0 := Tryz.underlying0
 a0 := Tryz.isAgg0
 z0 := Tryz.sizeOf0
 v0 := Tryz.zeroValue0
 t3 := Tryz.underlying3
 a3 := Tryz.isAgg3
 z3 := Tryz.sizeOf3
 v3 := Tryz.zeroValue3
 t4 := Tryz.underlying4
 a4 := Tryz.isAgg4
 z4 := Tryz.sizeOf4
 v4 := Tryz.zeroValue4
 t22 := Tryz.underlying24
 a22 := Tryz.isAgg24
 z22 := Tryz.sizeOf24
 v22 := Tryz.zeroValue24
 t23 := Tryz.underlying2
 a23 := Tryz.isAgg2
 z23 := Tryz.sizeOf2
 v23 := Tryz.zeroValue2
 i23 := by kernel_rfl }
end Go.Proofs
namespace Go.Proofs.YtfondhcppjkchaaGreat.Q
open Go.Sort hiding Below
open Go.RowKit Go.Proofs.YtfondhcppjkchaaGreatW.PrintWords Go.Proofs.YtfondhcppjkchaaGreatW.PrintLast
open Go.Proofs.YtfondhcppjkchaaGreatW.PrintMore
theorem cmp64 (a b : Int) : cmp_Compare_int64.f a b = some (Lib.compareInt a b) := by
 unfold cmp_Compare_int64.f cmp_isNaN_int64.f Lib.compareInt
 simp only [bne_self_eq_false, Option.bind_some, Bool.false_eq_true, if_false]
 by_cases h1 : a < b
 ·simp [h1]
 ·by_cases h2 : a > b
  ·simp [h1, h2]
  ·simp [h1, h2]
theorem cmpI (a b : Int) : cmp_Compare_int.f a b = some (Lib.compareInt a b) := by
 unfold cmp_Compare_int.f cmp_isNaN_int.f Lib.compareInt
 simp only [bne_self_eq_false, Option.bind_some, Bool.false_eq_true, if_false]
 by_cases h1 : a < b
 ·simp [h1]
 ·by_cases h2 : a > b
  ·simp [h1, h2]
  ·simp [h1, h2]
def cmpJob (x y : S56) : Int := if Lib.compareInt x.f2 y.f2 = 0 then Lib.compareInt x.f0 y.f0 else Lib.compareInt x.f2 y.f2
theorem orF (p q : Int) : cmp_Or_int.f 3 [p, q] = some (if p = 0 then q else p) := by
 have e0 : Go.Proofs.YtfondhcppjkchaaGreatW.PrintWords.rd [p, q] 0 = p := rfl
 have e1 : Go.Proofs.YtfondhcppjkchaaGreatW.PrintWords.rd [p, q] 1 = q := rfl
 unfold cmp_Or_int.f
 simp [cmp_Or_int.l0, wrap64, e0, e1]
 by_cases h : p = 0
 ·rw [if_pos h, if_pos h]
  by_cases h2 : q = 0
  ·rw [if_pos h2, h2]
  ·rw [if_neg h2]
 ·rw [if_neg h, if_neg h]
def Gr (w W : World) : Prop := ∃ q os', W = grow (w.drewN q) os'
theorem Gr.refl (w : World) : Gr w w := ⟨0, #[], by rw [grow_empty]; rfl⟩
theorem Gr.alloc {w W : World} (h : Gr w W) (o : Obj) : Gr w (W.alloc o) := by
 obtain ⟨q, os, rfl⟩ := h
 exact ⟨q, os ++ #[o], by rw [alloc_eq_grow, grow_grow]⟩
theorem Gr.drewN {w W : World} (h : Gr w W) (m : Nat) : Gr w (W.drewN m) := by
 obtain ⟨q, os, rfl⟩ := h
 exact ⟨q + m, os, by rw [← World.drewN_drewN]; rfl⟩
theorem Gr.drew {w W : World} (h : Gr w W) : Gr w W.drew := h.drewN 1
theorem Gr.drawn {w W W' : World} (h : Gr w W) (hd : Drawn0 W W') : Gr w W' := by
 obtain ⟨q, rfl⟩ := hd
 exact h.drewN q
theorem Gr.trans {a b c : World} (h : Gr a b) (k : Gr b c) : Gr a c := by
 obtain ⟨q, os, rfl⟩ := h
 obtain ⟨q2, os2, rfl⟩ := k
 exact ⟨q + q2, os ++ os2, by rw [← World.drewN_drewN, ← grow_grow]; rfl⟩
theorem Gr.below {w W : World} (h : Gr w W) : Below w.heap.size w W := by
 obtain ⟨q, os, rfl⟩ := h
 refine ⟨rfl, rfl, rfl, by simp [grow], fun k hk => heap_grow_old _ _ (by simpa using hk)⟩
theorem wp_exN {P : Program} {c : Code} {Q : Exit → Act → World → Prop} {a : Act} {w : World} (A : Nat → Act) (I : World → Prop) (h : c.wp P (fun e a w => match e with | .normal => ∃ n, a = A n ∧ I w | _ => False) a w) (hq : ∀ n W, I W → Q .normal (A n) W) : c.wp P Q a w :=
 Code.wp_mono (fun e a w q => by
  cases e with
  | normal => obtain ⟨n, rfl, q⟩ := q; exact hq _ _ q
  | _ => exact q.elim) h
theorem lit2 (W : World) (p q : Int) : Kd.C (Kd.int .i64) (W.alloc (.cells #[.int .i64 p, .int .i64 q] 3)) (some ⟨W.heap.size, 0, none⟩) 2 [p, q] := by
 have h := own_lit_of (enc := Value.int .i64) W 0 3 [p, q] (Nat.zero_le _) (by simp)
 exact (Kd.R_reads' (Kd.zmb (h1 := fun _ => rfl) h (ok := fun _ => True) (fun _ _ => trivial))).2.2
theorem closure63 (x y : S56) (w : World) : Calls Tryz.prog 63 #[.agg #[.int .i64 x.f0, .int .i64 x.f1, .int .i64 x.f2, .int .i64 x.f3], .agg #[.int .i64 y.f0, .int .i64 y.f1, .int .i64 y.f2, .int .i64 y.f3]] w fun e w' => e = .returned (.int .i64 (cmpJob x y)) ∧ Gr w w' := by
 have h5 := Lib.hid (fun W => cmp_Compare_int64.calls x.f2 y.f2 _ W (cmp64 _ _))
 have h6 := Lib.hid (fun W => cmp_Compare_int.calls x.f0 y.f0 _ W (cmpI _ _))
 have h4 := Lib.hid (fun (A0 : Option Addr) (c0 : Nat) (W : World) (hr : Kd.C (Kd.int .i64) W A0 2 [Lib.compareInt x.f2 y.f2, Lib.compareInt x.f0 y.f0]) (hc : 2 ≤ c0) => (show Calls Tryz.prog 64 #[.slice A0 2 c0] W _ from cmp_Or_int.calls 3 A0 c0 [Lib.compareInt x.f2 y.f2, Lib.compareInt x.f0 y.f0] _ W hr hc (orF _ _)))
 have hcj : cmpJob x y = if Lib.compareInt x.f2 y.f2 = 0 then Lib.compareInt x.f0 y.f0 else Lib.compareInt x.f2 y.f2 := rfl
 rw [hcj]
 clear hcj
 generalize Lib.compareInt x.f2 y.f2 = p at h5 h4 ⊢
 generalize Lib.compareInt x.f0 y.f0 = q at h6 h4 ⊢
 generalize (if p = 0 then q else p) = r at h4 ⊢
 go_enter Tryz.func63, Tryz.ntmps63
 go_wp2_with fail
 have hG := ((Gr.refl w).alloc (.cells #[.int .i64 x.f0, .int .i64 x.f1, .int .i64 x.f2, .int .i64 x.f3] 56)).alloc (.cells #[.int .i64 y.f0, .int .i64 y.f1, .int .i64 y.f2, .int .i64 y.f3] 56)
 have hk0 : ((w.alloc (.cells #[.int .i64 x.f0, .int .i64 x.f1, .int .i64 x.f2, .int .i64 x.f3] 56)).alloc (.cells #[.int .i64 y.f0, .int .i64 y.f1, .int .i64 y.f2, .int .i64 y.f3] 56)).cell? ⟨w.heap.size, 0, none⟩ = some (.int .i64 x.f0) := keepc ((Below.refl (w.alloc (.cells #[.int .i64 x.f0, .int .i64 x.f1, .int .i64 x.f2, .int .i64 x.f3] 56)).heap.size _).alloc (Nat.le_refl _) (.cells #[.int .i64 y.f0, .int .i64 y.f1, .int .i64 y.f2, .int .i64 y.f3] 56)) ((zg (zwa w (.cells #[.int .i64 x.f0, .int .i64 x.f1, .int .i64 x.f2, .int .i64 x.f3] 56)) 0).trans rfl)
 have hk2 : ((w.alloc (.cells #[.int .i64 x.f0, .int .i64 x.f1, .int .i64 x.f2, .int .i64 x.f3] 56)).alloc (.cells #[.int .i64 y.f0, .int .i64 y.f1, .int .i64 y.f2, .int .i64 y.f3] 56)).cell? ⟨w.heap.size, 2, none⟩ = some (.int .i64 x.f2) := keepc ((Below.refl (w.alloc (.cells #[.int .i64 x.f0, .int .i64 x.f1, .int .i64 x.f2, .int .i64 x.f3] 56)).heap.size _).alloc (Nat.le_refl _) (.cells #[.int .i64 y.f0, .int .i64 y.f1, .int .i64 y.f2, .int .i64 y.f3] 56)) ((zg (zwa w (.cells #[.int .i64 x.f0, .int .i64 x.f1, .int .i64 x.f2, .int .i64 x.f3] 56)) 2).trans rfl)
 have hl0 : ((w.alloc (.cells #[.int .i64 x.f0, .int .i64 x.f1, .int .i64 x.f2, .int .i64 x.f3] 56)).alloc (.cells #[.int .i64 y.f0, .int .i64 y.f1, .int .i64 y.f2, .int .i64 y.f3] 56)).cell? ⟨w.heap.size + 1, 0, none⟩ = some (.int .i64 y.f0) := by
  simp
 have hl2 : ((w.alloc (.cells #[.int .i64 x.f0, .int .i64 x.f1, .int .i64 x.f2, .int .i64 x.f3] 56)).alloc (.cells #[.int .i64 y.f0, .int .i64 y.f1, .int .i64 y.f2, .int .i64 y.f3] 56)).cell? ⟨w.heap.size + 1, 2, none⟩ = some (.int .i64 y.f2) := by
  simp
 generalize (w.alloc (.cells #[.int .i64 x.f0, .int .i64 x.f1, .int .i64 x.f2, .int .i64 x.f3] 56)).alloc (.cells #[.int .i64 y.f0, .int .i64 y.f1, .int .i64 y.f2, .int .i64 y.f3] 56) = W2 at hG hk0 hk2 hl0 hl2 ⊢
 generalize w.heap.size = S9 at hk0 hk2 hl0 hl2 ⊢
 have HG := Lib.hid hG
 have HI := Lib.hid (Gr.drew (Gr.refl W2))
 clear hG
 apply wp_exN (I := fun W6 => Gr W2 W6)
 ·go_region_held3 (fun w' => w'.cell? ⟨S9, 0, none⟩ = some (.int .i64 x.f0) ∧ w'.cell? ⟨S9, 2, none⟩ = some (.int .i64 x.f2) ∧ w'.cell? ⟨S9 + 1, 0, none⟩ = some (.int .i64 y.f0) ∧ w'.cell? ⟨S9 + 1, 2, none⟩ = some (.int .i64 y.f2))
   (first | exact ⟨keepc HI.out.below hk0, keepc HI.out.below hk2, keepc HI.out.below hl0, keepc HI.out.below hl2⟩ | go_keep)
   (first | (go_at_call 65; with_reducible refine (h5.out _).mono ?_; rintro e w6 ⟨rfl, hb6⟩; have HI := Lib.hid (HI.out.drawn hb6); clear hb6; dsimp only) | (go_at_call 66; with_reducible refine (h6.out _).mono ?_; rintro e w6 ⟨rfl, hb6⟩; have HI := Lib.hid (HI.out.drawn hb6); clear hb6; dsimp only) | (go_at_call 64; with_reducible refine (h4.out _ _ _ ?_ ?_).mono ?_; (focus exact lit2 _ _ _); (focus exact Nat.le_refl _); rintro e w7 ⟨rfl, hb7⟩; have HI := Lib.hid ((HI.out.alloc _).drawn hb7); clear hb7; dsimp only))
  all_goals (generalize w6.heap.size = n9; exact ⟨n9, rfl, HI.out⟩)
 intro n6 W6 hb6
 go_wp2
 go_ret
 exact ⟨rfl, HG.out.trans hb6⟩
section
variable {α : Type} [Inhabited α] {enc : α → Value}
theorem holdsG {w : World} {g : Nat} {cur : Array Value} {e : TypeId} {ss : List α} (hb : w.heap[g]? = some (.cells cur e (0, 0))) (ht : cur.toList.take ss.length = ss.map enc) : Holds enc w g 0 ss.toArray := by
 intro j hj
 have hj' : j < ss.length := by simpa using hj
 refine ⟨?_, by simp [World.frozen?, hb]⟩
 have h1 : (cur.toList.take ss.length)[j]? = (ss.map enc)[j]? := by rw [ht]
 rw [List.getElem?_take_of_lt hj'] at h1
 simp only [World.cell?, hb, Nat.zero_add]
 simp only [Option.isSome_none, Bool.false_eq_true, if_false]
 rw [← Array.getElem?_toList, h1]
 simp [hj']
theorem heapG {w : World} {g n : Nat} {os : Array Obj} {cur : Array Value} {e : TypeId} {fr : Nat × Nat} (d : Array α) (hb : w.heap[g]? = some (.cells cur e fr)) :
  (grow (putRow enc (Sort.ahead w n) g 0 d) os).heap[g]? = some (.cells (putCells enc 0 d cur) e fr) := by
 have hg : g < w.heap.size := (Array.getElem?_eq_some_iff.1 hb).1
 rw [heap_grow_old _ _ (by simpa using hg)]
 simp [putRow, mapBlock, Sort.ahead, Array.getElem?_modify, hb, onCells]
theorem grownG {w : World} {g n : Nat} {os : Array Obj} (d : Array α) : w.grownBy (grow (putRow enc (Sort.ahead w n) g 0 d) os) (some g) := by
 refine ⟨rfl, rfl, rfl, by simp, fun k hk hne => ?_⟩
 rw [heap_grow_old _ _ (by simpa using hk)]
 have : g ≠ k := fun e => hne (by rw [e])
 simp [putRow, mapBlock, Sort.ahead, Array.getElem?_modify, this]
theorem takeG (cur : Array Value) (ts : List α) (h : ts.length ≤ cur.size) : (putCells enc 0 ts.toArray cur).toList.take ts.length = ts.map enc := by
 apply List.ext_getElem?
 intro j
 by_cases hj : j < ts.length
 ·rw [List.getElem?_take_of_lt hj, Array.getElem?_toList]
  simp [putCells, hj, show j < cur.size by omega]
 ·rw [List.getElem?_take_eq_none (by omega), List.getElem?_eq_none (by simp; omega)]
theorem ownsG {w : World} {base g cap n m size : Nat} {e : TypeId} {os : Array Obj} {cur : Array Value} {ts : List α} (xs : List Value) (hbase : base ≤ g) (hb : w.heap[g]? = some (.cells cur e (0, 0)))
  (h1 : n ≤ cap) (h2 : cap ≤ maxLen) (h3 : cur.size = cap * size) (hl : ts.length ≤ cur.size) (hn : xs.length = n * size) (hx : (ts.map enc).take (n * size) = xs) (hle : n * size ≤ ts.length) :
  (grow (putRow enc (Sort.ahead w m) g 0 ts.toArray) os).ownsRow base e size (.slice (some ⟨g, 0, none⟩) n cap) n xs :=
 ⟨hn, .inr ⟨g, cap, _, rfl, hbase, heapG _ hb, h1, h2, by simp [putCells, h3], by
  rw [← hx, ← takeG (enc := enc) cur ts hl, List.take_take, Nat.min_eq_left hle]⟩⟩
end
instance : Inhabited S56 := ⟨⟨0, 0, 0, 0⟩⟩
abbrev enc4 (x : S56) : List Value := [.int .i64 x.f0, .int .i64 x.f1, .int .i64 x.f2, .int .i64 x.f3]
def cellsJ (l : List S56) : List Value := l.flatMap enc4
theorem cellsJ_len (l : List S56) : (cellsJ l).length = l.length * 4 := by
 induction l with
 | nil => rfl
 | cons x l ih => simp [cellsJ] at ih ⊢; omega
theorem cellsJ_at : ∀ (l : List S56) (t : Nat), t < l.length * 4 → (cellsJ l)[t]? = some ((enc4 (l[t / 4]!))[t % 4]!)
 | [], t, h => by simp at h
 | x :: l, t, h => by
  match t, h with
  | 0, _ => rfl
  | 1, _ => rfl
  | 2, _ => rfl
  | 3, _ => rfl
  | t + 4, h =>
   have ih := cellsJ_at l t (by simp at h; omega)
   have e1 : (t + 4) / 4 = t / 4 + 1 := by omega
   have e2 : (t + 4) % 4 = t % 4 := by omega
   rw [e1, e2]
   simpa [cellsJ] using ih
theorem flatJ_eq (l : List S56) : flatK enc4 4 l.toArray = (cellsJ l).toArray := by
 apply Array.ext'
 apply List.ext_getElem?
 intro t
 unfold flatK
 by_cases h : t < l.length * 4
 ·rw [List.toList_toArray, cellsJ_at l t h]
  simp [h]
 ·rw [List.toList_toArray]
  have h1 := cellsJ_len l
  rw [List.getElem?_eq_none (l := cellsJ l) (by omega), List.getElem?_eq_none (by simp; omega)]
theorem repsJ (W : World) (base : Nat) (ok : Nat → Prop) : ∀ l : List S56, Reps (Kd.M k56 W base ok) 4 l (cellsJ l)
 | [] => Reps.none _ _
 | x :: l => Reps.c4 (k56_mkM W base ok x) (repsJ W base ok l)
theorem repsJ_eq {W : World} {base : Nat} {ok : Nat → Prop} : ∀ {l : List S56} {cs : List Value}, Reps (Kd.M k56 W base ok) 4 l cs → cs = cellsJ l := by
 intro l cs ⟨hl, h⟩
 apply List.ext_getElem?
 intro t
 by_cases ht : t < l.length * 4
 ·rw [cellsJ_at l t ht]
  have hj : t / 4 < l.length := by omega
  have h1 := k56_openM (h (t / 4) l[t / 4] (List.getElem?_eq_getElem hj))
  have h2 : ((cs.drop (t / 4 * 4)).take 4)[t % 4]? = (enc4 l[t / 4])[t % 4]? := by rw [h1]
  rw [List.getElem?_take_of_lt (by omega), List.getElem?_drop, show t / 4 * 4 + t % 4 = t by omega] at h2
  rw [h2]
  have hm : t % 4 < 4 := by omega
  rw [getElem!_pos l (t / 4) hj, List.getElem?_eq_getElem (by simpa using hm), getElem!_pos (enc4 l[t / 4]) (t % 4) (by simpa using hm)]
 ·have h1 := cellsJ_len l
  rw [List.getElem?_eq_none (by omega), List.getElem?_eq_none (by omega)]
theorem J_row {W : World} {base : Nat} {ok : Nat → Prop} {v : Value} {l : List S56} (h : Kd.R k56 56 W base ok v l) : W.ownsRow base 56 4 v l.length (cellsJ l) ∧ ∀ k, v.ownBlock = some k → ok k := by
 obtain ⟨h1, inner, ho, hr⟩ := h
 refine ⟨?_, h1⟩
 have e : inner = cellsJ l := repsJ_eq hr
 rwa [e] at ho
theorem J_R {W : World} {base : Nat} {ok : Nat → Prop} {v : Value} {l : List S56} (h : W.ownsRow base 56 4 v l.length (cellsJ l)) (hk : ∀ k, v.ownBlock = some k → ok k) : Kd.R k56 56 W base ok v l :=
 ⟨hk, _, h, repsJ _ _ _ _⟩
theorem keptJ_of {w w' : World} {g : Nat} {P0 : Nat → Prop} (hg : P0 g) (h : w.grownBy w' (some g)) : Kept w w' (fun k_ => P0 k_) :=
 ⟨h.size, fun i hi hp => h.block i hi (fun e => hp (by cases e; exact hg))⟩
theorem belowJ_of {w0 w w' : World} {g : Nat} (hB : Below w0.heap.size w0 w) (hg : w0.heap.size ≤ g) (h : w.grownBy w' (some g)) : Below w0.heap.size w0 w' :=
 hB.grown h hB.size (fun k e => by cases e; exact hg)
theorem cmpLays63 (blk off size : Nat) (w : World) : CmpLays Tryz.prog 63 #[] enc4 4 cmpJob blk off size w :=
 fun _ _ _ _ x y => (closure63 x y _).mono fun _ _ h => h
def ltJob (x y : S56) : Bool := decide (x.f2 < y.f2 ∨ (x.f2 = y.f2 ∧ x.f0 < y.f0))
theorem ltOfJ_eq : ltOf cmpJob = ltJob := by
 funext x y
 unfold ltOf cmpJob Lib.compareInt ltJob
 by_cases h1 : x.f2 < y.f2
 ·simp [h1]
 ·by_cases h2 : y.f2 < x.f2
  ·have : ¬ x.f2 = y.f2 := by omega
   simp [h1, h2, this]
  ·have e : x.f2 = y.f2 := by omega
   by_cases h3 : x.f0 < y.f0
   ·simp [e, h3]
   ·by_cases h4 : y.f0 < x.f0
    ·simp [e, h3, h4]
    ·simp [e, h3, h4]
theorem swoJob : SWO ltJob where
 irrefl x := by simp [ltJob]
 trans x y z h1 h2 := by simp [ltJob] at *; omega
 ntrans x y z h1 h2 := by simp [ltJob] at *; omega
theorem isAgg56 : ∀ w, (isAgg 56).run Tryz.prog w = .ok true w := fun _ => by kernel_rfl
theorem sizeOf56 : ∀ w, (Go.sizeOf 56).run Tryz.prog w = .ok 4 w := fun _ => by kernel_rfl
def sortJ (l : List S56) : List S56 := (Sort.pdq ltJob l.toArray 0 l.length (Lib.bitLen l.length) true true).toList
theorem getJ_list (d : Array S56) (i : Nat) (h : i < d.size) : d[i]! = d.toList[i]'(by simpa using h) := by simp [h]
theorem sortJ_spec (l : List S56) : (sortJ l).Perm l ∧ (sortJ l).Pairwise (fun x y => ltJob y x = false) := by
 obtain ⟨⟨hs, _, hp⟩, ho⟩ := pdq_sorts ltJob swoJob l.toArray 0 l.length (Lib.bitLen l.length) true true (Nat.zero_le _) (by simp) (Or.inl rfl)
 unfold sortJ
 generalize pdq ltJob l.toArray 0 l.length (Lib.bitLen l.length) true true = d at hs hp ho ⊢
 have hs' : d.size = l.length := by simpa using hs
 refine ⟨?_, ?_⟩
 ·have e : d.extract 0 l.length = d := by rw [← hs']; simp
  rw [e] at hp
  simpa using hp
 ·rw [List.pairwise_iff_getElem]
  intro i j hi hj hij
  have hj' : j < d.size := by simpa using hj
  have h := ho i j (Nat.zero_le _) hij (by omega)
  rw [getJ_list d j hj', getJ_list d i (by omega)] at h
  simpa using h
theorem sortJ_len (l : List S56) : (sortJ l).length = l.length := (sortJ_spec l).1.length_eq
theorem sortJ_nil : sortJ [] = [] := List.eq_nil_of_length_eq_zero (by simpa using sortJ_len [])
def sortJobs.f (l0 : List S56) : Option (List S56) := if l0.length ≤ 1073741824 then some (sortJ l0) else none
theorem insNone130 (fv : Value) (w : World) : Calls Tryz.prog 130 #[.slice none 0 0, .int .i64 0, .int .i64 0, fv] w fun e w' => e = .returned (.tuple #[]) ∧ w' = w := by
 go_enter Tryz.func130, Tryz.ntmps130
 go_wp2
 refine wp_loop_rounds 1 ?_
 rw [rounds_succ]
 go_wp2
 go_end0
 exact ⟨rfl, rfl⟩
theorem pdqNone99 (fv : Value) (lim : Int) (w : World) : Calls Tryz.prog 99 #[.slice none 0 0, .int .i64 0, .int .i64 0, .int .i64 lim, fv] w fun e w' => e = .returned (.tuple #[]) ∧ w' = w := by
 have hi := fun W => insNone130 fv W
 go_enter Tryz.func99, Tryz.ntmps99
 go_wp2
 refine wp_loop_rounds 1 ?_
 rw [rounds_succ]
 go_wp2_with (go_at_call 130; refine (hi _).mono ?_; rintro e w' ⟨rfl, rfl⟩)
 refine bodyPost_ret (results_none rfl _ _ _) rfl ?_
 exact ⟨rfl, rfl⟩
theorem sortNone62 (w : World) : Calls Tryz.prog 62 #[.slice none 0 0, .func (.func 63) #[] #[]] w fun e w' => e = .returned (.tuple #[]) ∧ w' = w := by
 have hp := fun lim W => pdqNone99 (.func (.func 63) #[] #[]) lim W
 have hl := fun W => Any.bits_Len (SlLaysF0.n15.bits (P := Tryz.prog) (ρ := Tryz.laysSortJobs_ren) { Tryz.laysSortJobs with }) 0 W (by omega) (by omega)
 change ∀ W, Calls Tryz.prog 100 _ _ _ at hl
 go_enter Tryz.func62, Tryz.ntmps62
 go_wp2_with (first | (go_at_call 100; refine (hl _).mono ?_; rintro e w' ⟨rfl, rfl⟩) | (go_at_call 99; refine (hp _ _).mono ?_; rintro e w' ⟨rfl, rfl⟩))
 go_end0
 exact ⟨rfl, rfl⟩
theorem sortJobs.calls (P0_ : Nat → Prop) (u9000_ : Value) (l0 r : List S56) (w0 w : World) (hB : Below w0.heap.size w0 w) (ho0 : Kd.R k56 56 w w0.heap.size P0_ u9000_ l0) (h : sortJobs.f l0 = some r) :
  Calls Tryz.prog 62 #[u9000_, .func (.func 63) #[] #[]] w fun e w' => e = .returned (.tuple #[]) ∧ Kd.R k56 56 w' w0.heap.size P0_ u9000_ r ∧ Below w0.heap.size w0 w' ∧ Kept w w' (fun k_ => P0_ k_) := by
 unfold sortJobs.f at h
 split at h
 case isFalse => cases h
 case isTrue hlen =>
  cases h
  obtain ⟨ho, hk⟩ := J_row ho0
  rcases ho.2 with ⟨rfl, hn⟩ | ⟨g, cap, cur, rfl, hbase, hb, hle, hcap, hsz, htk⟩
  ·have hl : l0 = [] := List.eq_nil_of_length_eq_zero hn
   subst hl
   refine (sortNone62 w).mono ?_
   rintro e w' ⟨rfl, rfl⟩
   exact ⟨rfl, by rw [sortJ_nil]; exact ho0, hB, Kept.refl _ _⟩
  ·have hl4 := cellsJ_len l0
   have hg : g < w.heap.size := (Array.getElem?_eq_some_iff.1 hb).1
   have hH : HoldsK enc4 4 w g 0 l0.toArray := by
    unfold HoldsK
    rw [flatJ_eq]
    exact holdsG (enc := id) hb (by rw [hl4, htk]; simp)
   have eg : ∀ args w, (callFunc 63 args).run Tryz.prog w = .ok (.enter 63 args) w := enters_of Tryz.func63 (by kernel_rfl) rfl
   have hcon := AnyQ.slices_SortFunc_eq Tryz.laysSortJobs 4 isAgg56 sizeOf56 enc4 (fun _ => rfl) (fun x v hv => by simp [enc4] at hv; rcases hv with rfl | rfl | rfl | rfl <;> rfl) cmpJob (by rw [ltOfJ_eq]; exact swoJob) 63 #[] g 0 cap l0.toArray w eg (cmpLays63 g 0 _ w) hH hg (by simp; omega)
   rw [ltOfJ_eq] at hcon
   change Calls Tryz.prog 62 _ _ _ at hcon
   have hsz' : l0.toArray.size = l0.length := by simp
   rw [hsz'] at hcon
   refine hcon.mono ?_
   rintro e w' ⟨he, n, os, hw⟩
   have e2 : flatK enc4 4 (pdq ltJob l0.toArray 0 l0.length (Lib.bitLen l0.length) true true) = (cellsJ (sortJ l0)).toArray := by
    rw [← flatJ_eq]; rfl
   have hw' : w' = grow (putRow id (Sort.ahead w n) g 0 (cellsJ (sortJ l0)).toArray) os := by rw [hw, ← e2]; rfl
   have hls : (cellsJ (sortJ l0)).length = l0.length * 4 := by rw [cellsJ_len, sortJ_len]
   have hG := grownG (enc := id) (w := w) (g := g) (n := n) (os := os) (cellsJ (sortJ l0)).toArray
   rw [hw']
   refine ⟨he, J_R ?_ hk, belowJ_of hB hbase hG, keptJ_of (hk g rfl) hG⟩
   rw [sortJ_len]
   exact ownsG (enc := id) (ts := cellsJ (sortJ l0)) _ hbase hb hle hcap hsz (by omega) hls (by rw [List.map_id, List.take_of_length_le (by omega)]) (by omega)
end Go.Proofs.YtfondhcppjkchaaGreat.Q
