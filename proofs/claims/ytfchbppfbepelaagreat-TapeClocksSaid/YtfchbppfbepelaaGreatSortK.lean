/- slices.SortFunc at the timers' keys: the shelf's laying at this program's numbers. Written by the shelf's own command, in its plain mode, and turned into a template. -/
import Derived.Test.YtfchbppfbepelaaGreatRows
import Derived.Shelf.SlSortCmp.WholeK
import Derived.Shelf.SlicesG.Cmp
import Derived.Ground.SlsfProg
import Derived.Ground.SlgcProg
namespace Go.Proofs.YtfchbppfbepelaaGreat
open Go.Shelf Go.Proofs
def laysSort_ren : Go.Shelf.Ren := ⟨fun | 6 => 213 | 15 => 303 | 14 => 302 | 28 => 336 | 29 => 337 | 20 => 328 | 21 => 329 | 22 => 330 | 23 => 331 | 24 => 332 | 25 => 333 | 26 => 334 | 27 => 335 | 46 => 354 | 47 => 355 | 48 => 356 | 49 => 357 | 50 => 358 | 57 => 362 | n => n, fun | 22 => 146 | 24 => 141 | 25 => 284 | 3 => 3 | 39 => 398 | 0 => 0 | 53 => 409 | 55 => 408 | 4 => 4 | 46 => 422 | 45 => 421 | 50 => 152 | 5 => 5 | 9 => 9 | 66 => 441 | 70 => 445 | 76 => 453 | 77 => 454 | n => n, fun | n => n⟩
theorem laysSort : Go.Proofs.SlLaysF0.n6 Tryz.prog laysSort_ren := {
  mixed := by kernel_rfl
  f6 := ⟨Tryz.f213.name, by decide, Tryz.func213.trans (congrArg some (by kernel_rfl))⟩
  f14 := ⟨Tryz.f302.name, by decide, Tryz.func302.trans (congrArg some (by kernel_rfl))⟩
  f15 := Tryz.func303.trans (congrArg some (by kernel_rfl))
  f20 := ⟨Tryz.f328.name, by decide, Tryz.func328.trans (congrArg some (by kernel_rfl))⟩
  f21 := ⟨Tryz.f329.name, by decide, Tryz.func329.trans (congrArg some (by kernel_rfl))⟩
  f22 := ⟨Tryz.f330.name, by decide, Tryz.func330.trans (congrArg some (by kernel_rfl))⟩
  f23 := ⟨Tryz.f331.name, by decide, Tryz.func331.trans (congrArg some (by kernel_rfl))⟩
  f24 := ⟨Tryz.f332.name, by decide, Tryz.func332.trans (congrArg some (by kernel_rfl))⟩
  f25 := ⟨Tryz.f333.name, by decide, Tryz.func333.trans (congrArg some (by kernel_rfl))⟩
  f26 := ⟨Tryz.f334.name, by decide, Tryz.func334.trans (congrArg some (by kernel_rfl))⟩
  f27 := ⟨Tryz.f335.name, by decide, Tryz.func335.trans (congrArg some (by kernel_rfl))⟩
  f28 := Tryz.func336.trans (congrArg some (by kernel_rfl))
  f29 := Tryz.func337.trans (congrArg some (by kernel_rfl))
  f46 := ⟨Tryz.f354.name, by decide, Tryz.func354.trans (congrArg some (by kernel_rfl))⟩
  f47 := Tryz.func355.trans (congrArg some (by kernel_rfl))
  f48 := Tryz.func356.trans (congrArg some (by kernel_rfl))
  f49 := ⟨Tryz.f357.name, by decide, Tryz.func357.trans (congrArg some (by kernel_rfl))⟩
  f50 := ⟨Tryz.f358.name, by decide, Tryz.func358.trans (congrArg some (by kernel_rfl))⟩
  f57 := ⟨Tryz.f362.name, by decide, Tryz.func362.trans (congrArg some (by kernel_rfl))⟩
  t0 := Tryz.underlying0
  a0 := Tryz.isAgg0
  z0 := Tryz.sizeOf0
  v0 := Tryz.zeroValue0
  t3 := Tryz.underlying3
  a3 := Tryz.isAgg3
  z3 := Tryz.sizeOf3
  v3 := Tryz.zeroValue3
  t4 := Tryz.underlying4
  a4 := Tryz.isAgg4
  z4 := Tryz.sizeOf4
  v4 := Tryz.zeroValue4
  t5 := Tryz.underlying5
  a5 := Tryz.isAgg5
  z5 := Tryz.sizeOf5
  v5 := Tryz.zeroValue5
  t9 := Tryz.underlying9
  a9 := Tryz.isAgg9
  z9 := Tryz.sizeOf9
  v9 := Tryz.zeroValue9
  t22 := Tryz.underlying146
  a22 := Tryz.isAgg146
  z22 := Tryz.sizeOf146
  v22 := Tryz.zeroValue146
  t25 := Tryz.underlying284
  a25 := Tryz.isAgg284
  z25 := Tryz.sizeOf284
  v25 := Tryz.zeroValue284
  t39 := Tryz.underlying398
  a39 := Tryz.isAgg398
  z39 := Tryz.sizeOf398
  v39 := Tryz.zeroValue398
  t45 := Tryz.underlying421
  a45 := Tryz.isAgg421
  z45 := Tryz.sizeOf421
  v45 := Tryz.zeroValue421
  t46 := Tryz.underlying422
  a46 := Tryz.isAgg422
  z46 := Tryz.sizeOf422
  v46 := Tryz.zeroValue422
  t50 := Tryz.underlying152
  a50 := Tryz.isAgg152
  z50 := Tryz.sizeOf152
  v50 := Tryz.zeroValue152
  t53 := Tryz.underlying409
  a53 := Tryz.isAgg409
  z53 := Tryz.sizeOf409
  v53 := Tryz.zeroValue409
  t55 := Tryz.underlying408
  a55 := Tryz.isAgg408
  z55 := Tryz.sizeOf408
  v55 := Tryz.zeroValue408
  t66 := Tryz.underlying441
  a66 := Tryz.isAgg441
  z66 := Tryz.sizeOf441
  v66 := Tryz.zeroValue441
  t70 := Tryz.underlying445
  a70 := Tryz.isAgg445
  z70 := Tryz.sizeOf445
  v70 := Tryz.zeroValue445
  t76 := Tryz.underlying453
  a76 := Tryz.isAgg453
  z76 := Tryz.sizeOf453
  v76 := Tryz.zeroValue453
  t77 := Tryz.underlying454
  a77 := Tryz.isAgg454
  z77 := Tryz.sizeOf454
  v77 := Tryz.zeroValue454 }
def laysCmp_ren : Go.Shelf.Ren := ⟨fun | 5 => 216 | 7 => 304 | n => n, fun | 22 => 3 | 3 => 3 | 4 => 4 | n => n, fun | n => n⟩
theorem laysCmp : Go.Proofs.SlLaysC2.n5 Tryz.prog laysCmp_ren := {
  mixed := by kernel_rfl
  f5 := ⟨Tryz.f216.name, by decide, Tryz.func216.trans (congrArg some (by kernel_rfl))⟩
  f7 := ⟨Tryz.f304.name, by decide, Tryz.func304.trans (congrArg some (by kernel_rfl))⟩
  t3 := Tryz.underlying3
  a3 := Tryz.isAgg3
  z3 := Tryz.sizeOf3
  v3 := Tryz.zeroValue3
  t4 := Tryz.underlying4
  a4 := Tryz.isAgg4
  z4 := Tryz.sizeOf4
  v4 := Tryz.zeroValue4
  t22 := Tryz.underlying3
  a22 := Tryz.isAgg3
  z22 := Tryz.sizeOf3
  v22 := Tryz.zeroValue3 }
end Go.Proofs.YtfchbppfbepelaaGreat
