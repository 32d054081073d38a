/- slices.SortFunc at a row of cells: what holds behind it. -/
import Derived.Test.YtleknidlgmmgbaaGreattsG13
import Derived.Shelf.SlSortCmp.WholeK
import Derived.Test.YtleknidlgmmgbaaGreattsW29
import Derived.Test.YtleknidlgmmgbaaGreattsCZ
set_option linter.all false
set_option maxRecDepth 100000
set_option maxHeartbeats 4000000
namespace Go.Proofs.YtleknidlgmmgbaaGreat

section
open Go.RowKit

def sfE_f (k : Nat) : Nat := match k with | 6 => 92 | 14 => 113 | 15 => 114 | 20 => 129 | 21 => 130 | 22 => 131 | 23 => 132 | 24 => 133 | 25 => 134 | 26 => 135 | 27 => 136 | 28 => 137 | 29 => 138 | 46 => 149 | 47 => 150 | 48 => 151 | 49 => 152 | 50 => 153 | 57 => 158 | _ => 0
def sfE_t (k : Nat) : Nat := match k with | 0 => 0 | 3 => 3 | 4 => 4 | 5 => 5 | 9 => 9 | 22 => 36 | 24 => 65 | 25 => 108 | 39 => 154 | 45 => 160 | 46 => 161 | 50 => 165 | 53 => 79 | 55 => 169 | 66 => 175 | 70 => 156 | 76 => 185 | 77 => 147 | _ => 0
def sfE_r : Go.Shelf.Ren := ⟨sfE_f, sfE_t, fun k => k⟩
theorem sfE_mixed : Tryz.prog.follows .mixedOrders = true := by kernel_rfl
theorem sfE_f6 : Bears Tryz.prog (sfE_r.f 6) (SlBodyF.n6 sfE_r) := ⟨Tryz.f92.name, by kernel_rfl, Tryz.func92.trans (congrArg some (by kernel_rfl))⟩
theorem sfE_f14 : Bears Tryz.prog (sfE_r.f 14) (SlBodyF.n14 sfE_r) := ⟨Tryz.f113.name, by kernel_rfl, Tryz.func113.trans (congrArg some (by kernel_rfl))⟩
theorem sfE_f15 : Tryz.prog.funcs[sfE_r.f 15]? = some (SlBodyF.n15 sfE_r) := Tryz.func114.trans (congrArg some (by kernel_rfl))
theorem sfE_f20 : Bears Tryz.prog (sfE_r.f 20) (SlBodyF.n20 sfE_r) := ⟨Tryz.f129.name, by kernel_rfl, Tryz.func129.trans (congrArg some (by kernel_rfl))⟩
theorem sfE_f21 : Bears Tryz.prog (sfE_r.f 21) (SlBodyF.n21 sfE_r) := ⟨Tryz.f130.name, by kernel_rfl, Tryz.func130.trans (congrArg some (by kernel_rfl))⟩
theorem sfE_f22 : Bears Tryz.prog (sfE_r.f 22) (SlBodyF.n22 sfE_r) := ⟨Tryz.f131.name, by kernel_rfl, Tryz.func131.trans (congrArg some (by kernel_rfl))⟩
theorem sfE_f23 : Bears Tryz.prog (sfE_r.f 23) (SlBodyF.n23 sfE_r) := ⟨Tryz.f132.name, by kernel_rfl, Tryz.func132.trans (congrArg some (by kernel_rfl))⟩
theorem sfE_f24 : Bears Tryz.prog (sfE_r.f 24) (SlBodyF.n24 sfE_r) := ⟨Tryz.f133.name, by kernel_rfl, Tryz.func133.trans (congrArg some (by kernel_rfl))⟩
theorem sfE_f25 : Bears Tryz.prog (sfE_r.f 25) (SlBodyF.n25 sfE_r) := ⟨Tryz.f134.name, by kernel_rfl, Tryz.func134.trans (congrArg some (by kernel_rfl))⟩
theorem sfE_f26 : Bears Tryz.prog (sfE_r.f 26) (SlBodyF.n26 sfE_r) := ⟨Tryz.f135.name, by kernel_rfl, Tryz.func135.trans (congrArg some (by kernel_rfl))⟩
theorem sfE_f27 : Bears Tryz.prog (sfE_r.f 27) (SlBodyF.n27 sfE_r) := ⟨Tryz.f136.name, by kernel_rfl, Tryz.func136.trans (congrArg some (by kernel_rfl))⟩
theorem sfE_f28 : Tryz.prog.funcs[sfE_r.f 28]? = some (SlBodyF.n28 sfE_r) := Tryz.func137.trans (congrArg some (by kernel_rfl))
theorem sfE_f29 : Tryz.prog.funcs[sfE_r.f 29]? = some (SlBodyF.n29 sfE_r) := Tryz.func138.trans (congrArg some (by kernel_rfl))
theorem sfE_f46 : Bears Tryz.prog (sfE_r.f 46) (SlBodyF.n46 sfE_r) := ⟨Tryz.f149.name, by kernel_rfl, Tryz.func149.trans (congrArg some (by kernel_rfl))⟩
theorem sfE_f47 : Tryz.prog.funcs[sfE_r.f 47]? = some (SlBodyF.n47 sfE_r) := Tryz.func150.trans (congrArg some (by kernel_rfl))
theorem sfE_f48 : Tryz.prog.funcs[sfE_r.f 48]? = some (SlBodyF.n48 sfE_r) := Tryz.func151.trans (congrArg some (by kernel_rfl))
theorem sfE_f49 : Bears Tryz.prog (sfE_r.f 49) (SlBodyF.n49 sfE_r) := ⟨Tryz.f152.name, by kernel_rfl, Tryz.func152.trans (congrArg some (by kernel_rfl))⟩
theorem sfE_f50 : Bears Tryz.prog (sfE_r.f 50) (SlBodyF.n50 sfE_r) := ⟨Tryz.f153.name, by kernel_rfl, Tryz.func153.trans (congrArg some (by kernel_rfl))⟩
theorem sfE_f57 : Bears Tryz.prog (sfE_r.f 57) (SlBodyF.n57 sfE_r) := ⟨Tryz.f158.name, by kernel_rfl, Tryz.func158.trans (congrArg some (by kernel_rfl))⟩
theorem sfE_t0 : Tryz.prog.underlying (sfE_r.t 0) = some (TypeDesc.tuple #[]) := by kernel_rfl
theorem sfE_a0 : ∀ w, (isAgg (sfE_r.t 0)).run Tryz.prog w = .ok false w := fun w => by kernel_rfl
theorem sfE_z0 : ∀ w, (Go.sizeOf (sfE_r.t 0)).run Tryz.prog w = .ok 1 w := fun w => by kernel_rfl
theorem sfE_v0 : ∀ w, (zeroValue (sfE_r.t 0)).run Tryz.prog w = .ok (Value.tuple #[]) w := fun w => by kernel_rfl
theorem sfE_t3 : Tryz.prog.underlying (sfE_r.t 3) = some (TypeDesc.int IntKind.i64) := by kernel_rfl
theorem sfE_a3 : ∀ w, (isAgg (sfE_r.t 3)).run Tryz.prog w = .ok false w := fun w => by kernel_rfl
theorem sfE_z3 : ∀ w, (Go.sizeOf (sfE_r.t 3)).run Tryz.prog w = .ok 1 w := fun w => by kernel_rfl
theorem sfE_v3 : ∀ w, (zeroValue (sfE_r.t 3)).run Tryz.prog w = .ok (Value.int IntKind.i64 0) w := fun w => by kernel_rfl
theorem sfE_t4 : Tryz.prog.underlying (sfE_r.t 4) = some (TypeDesc.bool) := by kernel_rfl
theorem sfE_a4 : ∀ w, (isAgg (sfE_r.t 4)).run Tryz.prog w = .ok false w := fun w => by kernel_rfl
theorem sfE_z4 : ∀ w, (Go.sizeOf (sfE_r.t 4)).run Tryz.prog w = .ok 1 w := fun w => by kernel_rfl
theorem sfE_v4 : ∀ w, (zeroValue (sfE_r.t 4)).run Tryz.prog w = .ok (Value.bool false) w := fun w => by kernel_rfl
theorem sfE_t5 : Tryz.prog.underlying (sfE_r.t 5) = some (TypeDesc.int IntKind.u8) := by kernel_rfl
theorem sfE_a5 : ∀ w, (isAgg (sfE_r.t 5)).run Tryz.prog w = .ok false w := fun w => by kernel_rfl
theorem sfE_z5 : ∀ w, (Go.sizeOf (sfE_r.t 5)).run Tryz.prog w = .ok 1 w := fun w => by kernel_rfl
theorem sfE_v5 : ∀ w, (zeroValue (sfE_r.t 5)).run Tryz.prog w = .ok (Value.int IntKind.u8 0) w := fun w => by kernel_rfl
theorem sfE_t9 : Tryz.prog.underlying (sfE_r.t 9) = some (TypeDesc.string) := by kernel_rfl
theorem sfE_a9 : ∀ w, (isAgg (sfE_r.t 9)).run Tryz.prog w = .ok false w := fun w => by kernel_rfl
theorem sfE_z9 : ∀ w, (Go.sizeOf (sfE_r.t 9)).run Tryz.prog w = .ok 1 w := fun w => by kernel_rfl
theorem sfE_v9 : ∀ w, (zeroValue (sfE_r.t 9)).run Tryz.prog w = .ok (Value.string { data := #[] }) w := fun w => by kernel_rfl
theorem sfE_t22 : Tryz.prog.underlying (sfE_r.t 22) = some (TypeDesc.slice (sfE_r.t 24)) := by kernel_rfl
theorem sfE_a22 : ∀ w, (isAgg (sfE_r.t 22)).run Tryz.prog w = .ok false w := fun w => by kernel_rfl
theorem sfE_z22 : ∀ w, (Go.sizeOf (sfE_r.t 22)).run Tryz.prog w = .ok 1 w := fun w => by kernel_rfl
theorem sfE_v22 : ∀ w, (zeroValue (sfE_r.t 22)).run Tryz.prog w = .ok (Value.slice none 0 0) w := fun w => by kernel_rfl
theorem sfE_t25 : Tryz.prog.underlying (sfE_r.t 25) = some (TypeDesc.func #[sfE_r.t 24, sfE_r.t 24] #[sfE_r.t 3] false) := by kernel_rfl
theorem sfE_a25 : ∀ w, (isAgg (sfE_r.t 25)).run Tryz.prog w = .ok false w := fun w => by kernel_rfl
theorem sfE_z25 : ∀ w, (Go.sizeOf (sfE_r.t 25)).run Tryz.prog w = .ok 1 w := fun w => by kernel_rfl
theorem sfE_v25 : ∀ w, (zeroValue (sfE_r.t 25)).run Tryz.prog w = .ok (Value.nilFunc) w := fun w => by kernel_rfl
theorem sfE_t39 : Tryz.prog.underlying (sfE_r.t 39) = some (TypeDesc.int IntKind.u64) := by kernel_rfl
theorem sfE_a39 : ∀ w, (isAgg (sfE_r.t 39)).run Tryz.prog w = .ok false w := fun w => by kernel_rfl
theorem sfE_z39 : ∀ w, (Go.sizeOf (sfE_r.t 39)).run Tryz.prog w = .ok 1 w := fun w => by kernel_rfl
theorem sfE_v39 : ∀ w, (zeroValue (sfE_r.t 39)).run Tryz.prog w = .ok (Value.int IntKind.u64 0) w := fun w => by kernel_rfl
theorem sfE_t45 : Tryz.prog.underlying (sfE_r.t 45) = some (TypeDesc.int IntKind.i64) := by kernel_rfl
theorem sfE_a45 : ∀ w, (isAgg (sfE_r.t 45)).run Tryz.prog w = .ok false w := fun w => by kernel_rfl
theorem sfE_z45 : ∀ w, (Go.sizeOf (sfE_r.t 45)).run Tryz.prog w = .ok 1 w := fun w => by kernel_rfl
theorem sfE_v45 : ∀ w, (zeroValue (sfE_r.t 45)).run Tryz.prog w = .ok (Value.int IntKind.i64 0) w := fun w => by kernel_rfl
theorem sfE_t46 : Tryz.prog.underlying (sfE_r.t 46) = some (TypeDesc.tuple #[sfE_r.t 3, sfE_r.t 45]) := by kernel_rfl
theorem sfE_a46 : ∀ w, (isAgg (sfE_r.t 46)).run Tryz.prog w = .ok false w := fun w => by kernel_rfl
theorem sfE_z46 : ∀ w, (Go.sizeOf (sfE_r.t 46)).run Tryz.prog w = .ok 1 w := fun w => by kernel_rfl
theorem sfE_v46 : ∀ w, (zeroValue (sfE_r.t 46)).run Tryz.prog w = .ok (Value.tuple #[Value.int IntKind.i64 0, Value.int IntKind.i64 0]) w := fun w => by kernel_rfl
theorem sfE_t50 : Tryz.prog.underlying (sfE_r.t 50) = some (TypeDesc.tuple #[sfE_r.t 3, sfE_r.t 4]) := by kernel_rfl
theorem sfE_a50 : ∀ w, (isAgg (sfE_r.t 50)).run Tryz.prog w = .ok false w := fun w => by kernel_rfl
theorem sfE_z50 : ∀ w, (Go.sizeOf (sfE_r.t 50)).run Tryz.prog w = .ok 1 w := fun w => by kernel_rfl
theorem sfE_v50 : ∀ w, (zeroValue (sfE_r.t 50)).run Tryz.prog w = .ok (Value.tuple #[Value.int IntKind.i64 0, Value.bool false]) w := fun w => by kernel_rfl
theorem sfE_t53 : Tryz.prog.underlying (sfE_r.t 53) = some (TypeDesc.int IntKind.u32) := by kernel_rfl
theorem sfE_a53 : ∀ w, (isAgg (sfE_r.t 53)).run Tryz.prog w = .ok false w := fun w => by kernel_rfl
theorem sfE_z53 : ∀ w, (Go.sizeOf (sfE_r.t 53)).run Tryz.prog w = .ok 1 w := fun w => by kernel_rfl
theorem sfE_v53 : ∀ w, (zeroValue (sfE_r.t 53)).run Tryz.prog w = .ok (Value.int IntKind.u32 0) w := fun w => by kernel_rfl
theorem sfE_t55 : Tryz.prog.underlying (sfE_r.t 55) = some (TypeDesc.int IntKind.u64) := by kernel_rfl
theorem sfE_a55 : ∀ w, (isAgg (sfE_r.t 55)).run Tryz.prog w = .ok false w := fun w => by kernel_rfl
theorem sfE_z55 : ∀ w, (Go.sizeOf (sfE_r.t 55)).run Tryz.prog w = .ok 1 w := fun w => by kernel_rfl
theorem sfE_v55 : ∀ w, (zeroValue (sfE_r.t 55)).run Tryz.prog w = .ok (Value.int IntKind.u64 0) w := fun w => by kernel_rfl
theorem sfE_t66 : Tryz.prog.underlying (sfE_r.t 66) = some (TypeDesc.int IntKind.u64) := by kernel_rfl
theorem sfE_a66 : ∀ w, (isAgg (sfE_r.t 66)).run Tryz.prog w = .ok false w := fun w => by kernel_rfl
theorem sfE_z66 : ∀ w, (Go.sizeOf (sfE_r.t 66)).run Tryz.prog w = .ok 1 w := fun w => by kernel_rfl
theorem sfE_v66 : ∀ w, (zeroValue (sfE_r.t 66)).run Tryz.prog w = .ok (Value.int IntKind.u64 0) w := fun w => by kernel_rfl
theorem sfE_t70 : Tryz.prog.underlying (sfE_r.t 70) = some (TypeDesc.pointer (sfE_r.t 3)) := by kernel_rfl
theorem sfE_a70 : ∀ w, (isAgg (sfE_r.t 70)).run Tryz.prog w = .ok false w := fun w => by kernel_rfl
theorem sfE_z70 : ∀ w, (Go.sizeOf (sfE_r.t 70)).run Tryz.prog w = .ok 1 w := fun w => by kernel_rfl
theorem sfE_v70 : ∀ w, (zeroValue (sfE_r.t 70)).run Tryz.prog w = .ok (Value.pointer none) w := fun w => by kernel_rfl
theorem sfE_t76 : Tryz.prog.underlying (sfE_r.t 76) = some (TypeDesc.pointer (sfE_r.t 66)) := by kernel_rfl
theorem sfE_a76 : ∀ w, (isAgg (sfE_r.t 76)).run Tryz.prog w = .ok false w := fun w => by kernel_rfl
theorem sfE_z76 : ∀ w, (Go.sizeOf (sfE_r.t 76)).run Tryz.prog w = .ok 1 w := fun w => by kernel_rfl
theorem sfE_v76 : ∀ w, (zeroValue (sfE_r.t 76)).run Tryz.prog w = .ok (Value.pointer none) w := fun w => by kernel_rfl
theorem sfE_t77 : Tryz.prog.underlying (sfE_r.t 77) = some (TypeDesc.tuple #[sfE_r.t 3, sfE_r.t 3]) := by kernel_rfl
theorem sfE_a77 : ∀ w, (isAgg (sfE_r.t 77)).run Tryz.prog w = .ok false w := fun w => by kernel_rfl
theorem sfE_z77 : ∀ w, (Go.sizeOf (sfE_r.t 77)).run Tryz.prog w = .ok 1 w := fun w => by kernel_rfl
theorem sfE_v77 : ∀ w, (zeroValue (sfE_r.t 77)).run Tryz.prog w = .ok (Value.tuple #[Value.int IntKind.i64 0, Value.int IntKind.i64 0]) w := fun w => by kernel_rfl
theorem sfE_lay : SlLaysF0.n6 Tryz.prog sfE_r := { mixed := sfE_mixed, f6 := sfE_f6, f14 := sfE_f14, f15 := sfE_f15, f20 := sfE_f20, f21 := sfE_f21, f22 := sfE_f22, f23 := sfE_f23, f24 := sfE_f24, f25 := sfE_f25, f26 := sfE_f26, f27 := sfE_f27, f28 := sfE_f28, f29 := sfE_f29, f46 := sfE_f46, f47 := sfE_f47, f48 := sfE_f48, f49 := sfE_f49, f50 := sfE_f50, f57 := sfE_f57, t0 := sfE_t0, a0 := sfE_a0, z0 := sfE_z0, v0 := sfE_v0, t3 := sfE_t3, a3 := sfE_a3, z3 := sfE_z3, v3 := sfE_v3, t4 := sfE_t4, a4 := sfE_a4, z4 := sfE_z4, v4 := sfE_v4, t5 := sfE_t5, a5 := sfE_a5, z5 := sfE_z5, v5 := sfE_v5, t9 := sfE_t9, a9 := sfE_a9, z9 := sfE_z9, v9 := sfE_v9, t22 := sfE_t22, a22 := sfE_a22, z22 := sfE_z22, v22 := sfE_v22, t25 := sfE_t25, a25 := sfE_a25, z25 := sfE_z25, v25 := sfE_v25, t39 := sfE_t39, a39 := sfE_a39, z39 := sfE_z39, v39 := sfE_v39, t45 := sfE_t45, a45 := sfE_a45, z45 := sfE_z45, v45 := sfE_v45, t46 := sfE_t46, a46 := sfE_a46, z46 := sfE_z46, v46 := sfE_v46, t50 := sfE_t50, a50 := sfE_a50, z50 := sfE_z50, v50 := sfE_v50, t53 := sfE_t53, a53 := sfE_a53, z53 := sfE_z53, v53 := sfE_v53, t55 := sfE_t55, a55 := sfE_a55, z55 := sfE_z55, v55 := sfE_v55, t66 := sfE_t66, a66 := sfE_a66, z66 := sfE_z66, v66 := sfE_v66, t70 := sfE_t70, a70 := sfE_a70, z70 := sfE_z70, v70 := sfE_v70, t76 := sfE_t76, a76 := sfE_a76, z76 := sfE_z76, v76 := sfE_v76, t77 := sfE_t77, a77 := sfE_a77, z77 := sfE_z77, v77 := sfE_v77 }

def sfU_f (k : Nat) : Nat := match k with | 6 => 97 | 14 => 116 | 15 => 114 | 20 => 139 | 21 => 140 | 22 => 141 | 23 => 142 | 24 => 143 | 25 => 144 | 26 => 145 | 27 => 146 | 28 => 137 | 29 => 138 | 46 => 154 | 47 => 150 | 48 => 151 | 49 => 155 | 50 => 156 | 57 => 159 | _ => 0
def sfU_t (k : Nat) : Nat := match k with | 0 => 0 | 3 => 3 | 4 => 4 | 5 => 5 | 9 => 9 | 22 => 40 | 24 => 69 | 25 => 114 | 39 => 154 | 45 => 160 | 46 => 161 | 50 => 165 | 53 => 79 | 55 => 169 | 66 => 175 | 70 => 156 | 76 => 185 | 77 => 147 | _ => 0
def sfU_r : Go.Shelf.Ren := ⟨sfU_f, sfU_t, fun k => k⟩
theorem sfU_mixed : Tryz.prog.follows .mixedOrders = true := by kernel_rfl
theorem sfU_f6 : Bears Tryz.prog (sfU_r.f 6) (SlBodyF.n6 sfU_r) := ⟨Tryz.f97.name, by kernel_rfl, Tryz.func97.trans (congrArg some (by kernel_rfl))⟩
theorem sfU_f14 : Bears Tryz.prog (sfU_r.f 14) (SlBodyF.n14 sfU_r) := ⟨Tryz.f116.name, by kernel_rfl, Tryz.func116.trans (congrArg some (by kernel_rfl))⟩
theorem sfU_f15 : Tryz.prog.funcs[sfU_r.f 15]? = some (SlBodyF.n15 sfU_r) := Tryz.func114.trans (congrArg some (by kernel_rfl))
theorem sfU_f20 : Bears Tryz.prog (sfU_r.f 20) (SlBodyF.n20 sfU_r) := ⟨Tryz.f139.name, by kernel_rfl, Tryz.func139.trans (congrArg some (by kernel_rfl))⟩
theorem sfU_f21 : Bears Tryz.prog (sfU_r.f 21) (SlBodyF.n21 sfU_r) := ⟨Tryz.f140.name, by kernel_rfl, Tryz.func140.trans (congrArg some (by kernel_rfl))⟩
theorem sfU_f22 : Bears Tryz.prog (sfU_r.f 22) (SlBodyF.n22 sfU_r) := ⟨Tryz.f141.name, by kernel_rfl, Tryz.func141.trans (congrArg some (by kernel_rfl))⟩
theorem sfU_f23 : Bears Tryz.prog (sfU_r.f 23) (SlBodyF.n23 sfU_r) := ⟨Tryz.f142.name, by kernel_rfl, Tryz.func142.trans (congrArg some (by kernel_rfl))⟩
theorem sfU_f24 : Bears Tryz.prog (sfU_r.f 24) (SlBodyF.n24 sfU_r) := ⟨Tryz.f143.name, by kernel_rfl, Tryz.func143.trans (congrArg some (by kernel_rfl))⟩
theorem sfU_f25 : Bears Tryz.prog (sfU_r.f 25) (SlBodyF.n25 sfU_r) := ⟨Tryz.f144.name, by kernel_rfl, Tryz.func144.trans (congrArg some (by kernel_rfl))⟩
theorem sfU_f26 : Bears Tryz.prog (sfU_r.f 26) (SlBodyF.n26 sfU_r) := ⟨Tryz.f145.name, by kernel_rfl, Tryz.func145.trans (congrArg some (by kernel_rfl))⟩
theorem sfU_f27 : Bears Tryz.prog (sfU_r.f 27) (SlBodyF.n27 sfU_r) := ⟨Tryz.f146.name, by kernel_rfl, Tryz.func146.trans (congrArg some (by kernel_rfl))⟩
theorem sfU_f28 : Tryz.prog.funcs[sfU_r.f 28]? = some (SlBodyF.n28 sfU_r) := Tryz.func137.trans (congrArg some (by kernel_rfl))
theorem sfU_f29 : Tryz.prog.funcs[sfU_r.f 29]? = some (SlBodyF.n29 sfU_r) := Tryz.func138.trans (congrArg some (by kernel_rfl))
theorem sfU_f46 : Bears Tryz.prog (sfU_r.f 46) (SlBodyF.n46 sfU_r) := ⟨Tryz.f154.name, by kernel_rfl, Tryz.func154.trans (congrArg some (by kernel_rfl))⟩
theorem sfU_f47 : Tryz.prog.funcs[sfU_r.f 47]? = some (SlBodyF.n47 sfU_r) := Tryz.func150.trans (congrArg some (by kernel_rfl))
theorem sfU_f48 : Tryz.prog.funcs[sfU_r.f 48]? = some (SlBodyF.n48 sfU_r) := Tryz.func151.trans (congrArg some (by kernel_rfl))
theorem sfU_f49 : Bears Tryz.prog (sfU_r.f 49) (SlBodyF.n49 sfU_r) := ⟨Tryz.f155.name, by kernel_rfl, Tryz.func155.trans (congrArg some (by kernel_rfl))⟩
theorem sfU_f50 : Bears Tryz.prog (sfU_r.f 50) (SlBodyF.n50 sfU_r) := ⟨Tryz.f156.name, by kernel_rfl, Tryz.func156.trans (congrArg some (by kernel_rfl))⟩
theorem sfU_f57 : Bears Tryz.prog (sfU_r.f 57) (SlBodyF.n57 sfU_r) := ⟨Tryz.f159.name, by kernel_rfl, Tryz.func159.trans (congrArg some (by kernel_rfl))⟩
theorem sfU_t0 : Tryz.prog.underlying (sfU_r.t 0) = some (TypeDesc.tuple #[]) := by kernel_rfl
theorem sfU_a0 : ∀ w, (isAgg (sfU_r.t 0)).run Tryz.prog w = .ok false w := fun w => by kernel_rfl
theorem sfU_z0 : ∀ w, (Go.sizeOf (sfU_r.t 0)).run Tryz.prog w = .ok 1 w := fun w => by kernel_rfl
theorem sfU_v0 : ∀ w, (zeroValue (sfU_r.t 0)).run Tryz.prog w = .ok (Value.tuple #[]) w := fun w => by kernel_rfl
theorem sfU_t3 : Tryz.prog.underlying (sfU_r.t 3) = some (TypeDesc.int IntKind.i64) := by kernel_rfl
theorem sfU_a3 : ∀ w, (isAgg (sfU_r.t 3)).run Tryz.prog w = .ok false w := fun w => by kernel_rfl
theorem sfU_z3 : ∀ w, (Go.sizeOf (sfU_r.t 3)).run Tryz.prog w = .ok 1 w := fun w => by kernel_rfl
theorem sfU_v3 : ∀ w, (zeroValue (sfU_r.t 3)).run Tryz.prog w = .ok (Value.int IntKind.i64 0) w := fun w => by kernel_rfl
theorem sfU_t4 : Tryz.prog.underlying (sfU_r.t 4) = some (TypeDesc.bool) := by kernel_rfl
theorem sfU_a4 : ∀ w, (isAgg (sfU_r.t 4)).run Tryz.prog w = .ok false w := fun w => by kernel_rfl
theorem sfU_z4 : ∀ w, (Go.sizeOf (sfU_r.t 4)).run Tryz.prog w = .ok 1 w := fun w => by kernel_rfl
theorem sfU_v4 : ∀ w, (zeroValue (sfU_r.t 4)).run Tryz.prog w = .ok (Value.bool false) w := fun w => by kernel_rfl
theorem sfU_t5 : Tryz.prog.underlying (sfU_r.t 5) = some (TypeDesc.int IntKind.u8) := by kernel_rfl
theorem sfU_a5 : ∀ w, (isAgg (sfU_r.t 5)).run Tryz.prog w = .ok false w := fun w => by kernel_rfl
theorem sfU_z5 : ∀ w, (Go.sizeOf (sfU_r.t 5)).run Tryz.prog w = .ok 1 w := fun w => by kernel_rfl
theorem sfU_v5 : ∀ w, (zeroValue (sfU_r.t 5)).run Tryz.prog w = .ok (Value.int IntKind.u8 0) w := fun w => by kernel_rfl
theorem sfU_t9 : Tryz.prog.underlying (sfU_r.t 9) = some (TypeDesc.string) := by kernel_rfl
theorem sfU_a9 : ∀ w, (isAgg (sfU_r.t 9)).run Tryz.prog w = .ok false w := fun w => by kernel_rfl
theorem sfU_z9 : ∀ w, (Go.sizeOf (sfU_r.t 9)).run Tryz.prog w = .ok 1 w := fun w => by kernel_rfl
theorem sfU_v9 : ∀ w, (zeroValue (sfU_r.t 9)).run Tryz.prog w = .ok (Value.string { data := #[] }) w := fun w => by kernel_rfl
theorem sfU_t22 : Tryz.prog.underlying (sfU_r.t 22) = some (TypeDesc.slice (sfU_r.t 24)) := by kernel_rfl
theorem sfU_a22 : ∀ w, (isAgg (sfU_r.t 22)).run Tryz.prog w = .ok false w := fun w => by kernel_rfl
theorem sfU_z22 : ∀ w, (Go.sizeOf (sfU_r.t 22)).run Tryz.prog w = .ok 1 w := fun w => by kernel_rfl
theorem sfU_v22 : ∀ w, (zeroValue (sfU_r.t 22)).run Tryz.prog w = .ok (Value.slice none 0 0) w := fun w => by kernel_rfl
theorem sfU_t25 : Tryz.prog.underlying (sfU_r.t 25) = some (TypeDesc.func #[sfU_r.t 24, sfU_r.t 24] #[sfU_r.t 3] false) := by kernel_rfl
theorem sfU_a25 : ∀ w, (isAgg (sfU_r.t 25)).run Tryz.prog w = .ok false w := fun w => by kernel_rfl
theorem sfU_z25 : ∀ w, (Go.sizeOf (sfU_r.t 25)).run Tryz.prog w = .ok 1 w := fun w => by kernel_rfl
theorem sfU_v25 : ∀ w, (zeroValue (sfU_r.t 25)).run Tryz.prog w = .ok (Value.nilFunc) w := fun w => by kernel_rfl
theorem sfU_t39 : Tryz.prog.underlying (sfU_r.t 39) = some (TypeDesc.int IntKind.u64) := by kernel_rfl
theorem sfU_a39 : ∀ w, (isAgg (sfU_r.t 39)).run Tryz.prog w = .ok false w := fun w => by kernel_rfl
theorem sfU_z39 : ∀ w, (Go.sizeOf (sfU_r.t 39)).run Tryz.prog w = .ok 1 w := fun w => by kernel_rfl
theorem sfU_v39 : ∀ w, (zeroValue (sfU_r.t 39)).run Tryz.prog w = .ok (Value.int IntKind.u64 0) w := fun w => by kernel_rfl
theorem sfU_t45 : Tryz.prog.underlying (sfU_r.t 45) = some (TypeDesc.int IntKind.i64) := by kernel_rfl
theorem sfU_a45 : ∀ w, (isAgg (sfU_r.t 45)).run Tryz.prog w = .ok false w := fun w => by kernel_rfl
theorem sfU_z45 : ∀ w, (Go.sizeOf (sfU_r.t 45)).run Tryz.prog w = .ok 1 w := fun w => by kernel_rfl
theorem sfU_v45 : ∀ w, (zeroValue (sfU_r.t 45)).run Tryz.prog w = .ok (Value.int IntKind.i64 0) w := fun w => by kernel_rfl
theorem sfU_t46 : Tryz.prog.underlying (sfU_r.t 46) = some (TypeDesc.tuple #[sfU_r.t 3, sfU_r.t 45]) := by kernel_rfl
theorem sfU_a46 : ∀ w, (isAgg (sfU_r.t 46)).run Tryz.prog w = .ok false w := fun w => by kernel_rfl
theorem sfU_z46 : ∀ w, (Go.sizeOf (sfU_r.t 46)).run Tryz.prog w = .ok 1 w := fun w => by kernel_rfl
theorem sfU_v46 : ∀ w, (zeroValue (sfU_r.t 46)).run Tryz.prog w = .ok (Value.tuple #[Value.int IntKind.i64 0, Value.int IntKind.i64 0]) w := fun w => by kernel_rfl
theorem sfU_t50 : Tryz.prog.underlying (sfU_r.t 50) = some (TypeDesc.tuple #[sfU_r.t 3, sfU_r.t 4]) := by kernel_rfl
theorem sfU_a50 : ∀ w, (isAgg (sfU_r.t 50)).run Tryz.prog w = .ok false w := fun w => by kernel_rfl
theorem sfU_z50 : ∀ w, (Go.sizeOf (sfU_r.t 50)).run Tryz.prog w = .ok 1 w := fun w => by kernel_rfl
theorem sfU_v50 : ∀ w, (zeroValue (sfU_r.t 50)).run Tryz.prog w = .ok (Value.tuple #[Value.int IntKind.i64 0, Value.bool false]) w := fun w => by kernel_rfl
theorem sfU_t53 : Tryz.prog.underlying (sfU_r.t 53) = some (TypeDesc.int IntKind.u32) := by kernel_rfl
theorem sfU_a53 : ∀ w, (isAgg (sfU_r.t 53)).run Tryz.prog w = .ok false w := fun w => by kernel_rfl
theorem sfU_z53 : ∀ w, (Go.sizeOf (sfU_r.t 53)).run Tryz.prog w = .ok 1 w := fun w => by kernel_rfl
theorem sfU_v53 : ∀ w, (zeroValue (sfU_r.t 53)).run Tryz.prog w = .ok (Value.int IntKind.u32 0) w := fun w => by kernel_rfl
theorem sfU_t55 : Tryz.prog.underlying (sfU_r.t 55) = some (TypeDesc.int IntKind.u64) := by kernel_rfl
theorem sfU_a55 : ∀ w, (isAgg (sfU_r.t 55)).run Tryz.prog w = .ok false w := fun w => by kernel_rfl
theorem sfU_z55 : ∀ w, (Go.sizeOf (sfU_r.t 55)).run Tryz.prog w = .ok 1 w := fun w => by kernel_rfl
theorem sfU_v55 : ∀ w, (zeroValue (sfU_r.t 55)).run Tryz.prog w = .ok (Value.int IntKind.u64 0) w := fun w => by kernel_rfl
theorem sfU_t66 : Tryz.prog.underlying (sfU_r.t 66) = some (TypeDesc.int IntKind.u64) := by kernel_rfl
theorem sfU_a66 : ∀ w, (isAgg (sfU_r.t 66)).run Tryz.prog w = .ok false w := fun w => by kernel_rfl
theorem sfU_z66 : ∀ w, (Go.sizeOf (sfU_r.t 66)).run Tryz.prog w = .ok 1 w := fun w => by kernel_rfl
theorem sfU_v66 : ∀ w, (zeroValue (sfU_r.t 66)).run Tryz.prog w = .ok (Value.int IntKind.u64 0) w := fun w => by kernel_rfl
theorem sfU_t70 : Tryz.prog.underlying (sfU_r.t 70) = some (TypeDesc.pointer (sfU_r.t 3)) := by kernel_rfl
theorem sfU_a70 : ∀ w, (isAgg (sfU_r.t 70)).run Tryz.prog w = .ok false w := fun w => by kernel_rfl
theorem sfU_z70 : ∀ w, (Go.sizeOf (sfU_r.t 70)).run Tryz.prog w = .ok 1 w := fun w => by kernel_rfl
theorem sfU_v70 : ∀ w, (zeroValue (sfU_r.t 70)).run Tryz.prog w = .ok (Value.pointer none) w := fun w => by kernel_rfl
theorem sfU_t76 : Tryz.prog.underlying (sfU_r.t 76) = some (TypeDesc.pointer (sfU_r.t 66)) := by kernel_rfl
theorem sfU_a76 : ∀ w, (isAgg (sfU_r.t 76)).run Tryz.prog w = .ok false w := fun w => by kernel_rfl
theorem sfU_z76 : ∀ w, (Go.sizeOf (sfU_r.t 76)).run Tryz.prog w = .ok 1 w := fun w => by kernel_rfl
theorem sfU_v76 : ∀ w, (zeroValue (sfU_r.t 76)).run Tryz.prog w = .ok (Value.pointer none) w := fun w => by kernel_rfl
theorem sfU_t77 : Tryz.prog.underlying (sfU_r.t 77) = some (TypeDesc.tuple #[sfU_r.t 3, sfU_r.t 3]) := by kernel_rfl
theorem sfU_a77 : ∀ w, (isAgg (sfU_r.t 77)).run Tryz.prog w = .ok false w := fun w => by kernel_rfl
theorem sfU_z77 : ∀ w, (Go.sizeOf (sfU_r.t 77)).run Tryz.prog w = .ok 1 w := fun w => by kernel_rfl
theorem sfU_v77 : ∀ w, (zeroValue (sfU_r.t 77)).run Tryz.prog w = .ok (Value.tuple #[Value.int IntKind.i64 0, Value.int IntKind.i64 0]) w := fun w => by kernel_rfl
theorem sfU_lay : SlLaysF0.n6 Tryz.prog sfU_r := { mixed := sfU_mixed, f6 := sfU_f6, f14 := sfU_f14, f15 := sfU_f15, f20 := sfU_f20, f21 := sfU_f21, f22 := sfU_f22, f23 := sfU_f23, f24 := sfU_f24, f25 := sfU_f25, f26 := sfU_f26, f27 := sfU_f27, f28 := sfU_f28, f29 := sfU_f29, f46 := sfU_f46, f47 := sfU_f47, f48 := sfU_f48, f49 := sfU_f49, f50 := sfU_f50, f57 := sfU_f57, t0 := sfU_t0, a0 := sfU_a0, z0 := sfU_z0, v0 := sfU_v0, t3 := sfU_t3, a3 := sfU_a3, z3 := sfU_z3, v3 := sfU_v3, t4 := sfU_t4, a4 := sfU_a4, z4 := sfU_z4, v4 := sfU_v4, t5 := sfU_t5, a5 := sfU_a5, z5 := sfU_z5, v5 := sfU_v5, t9 := sfU_t9, a9 := sfU_a9, z9 := sfU_z9, v9 := sfU_v9, t22 := sfU_t22, a22 := sfU_a22, z22 := sfU_z22, v22 := sfU_v22, t25 := sfU_t25, a25 := sfU_a25, z25 := sfU_z25, v25 := sfU_v25, t39 := sfU_t39, a39 := sfU_a39, z39 := sfU_z39, v39 := sfU_v39, t45 := sfU_t45, a45 := sfU_a45, z45 := sfU_z45, v45 := sfU_v45, t46 := sfU_t46, a46 := sfU_a46, z46 := sfU_z46, v46 := sfU_v46, t50 := sfU_t50, a50 := sfU_a50, z50 := sfU_z50, v50 := sfU_v50, t53 := sfU_t53, a53 := sfU_a53, z53 := sfU_z53, v53 := sfU_v53, t55 := sfU_t55, a55 := sfU_a55, z55 := sfU_z55, v55 := sfU_v55, t66 := sfU_t66, a66 := sfU_a66, z66 := sfU_z66, v66 := sfU_v66, t70 := sfU_t70, a70 := sfU_a70, z70 := sfU_z70, v70 := sfU_v70, t76 := sfU_t76, a76 := sfU_a76, z76 := sfU_z76, v76 := sfU_v76, t77 := sfU_t77, a77 := sfU_a77, z77 := sfU_z77, v77 := sfU_v77 }
end

section
open Go.RowKit

theorem cmpOr_s (a : Option Addr) (c : Nat) (l : List Int) (w : World) (hR : RdInts w a l) (hl : l.length ≤ 1000) :
    Calls Tryz.prog 94 #[.slice a l.length c] w (fun e w' => e = .returned (.int .i64 (orL l)) ∧ w = w') := by
 have HR := hid hR; clear hR; have hww : w = w := rfl
 refine enter_F Tryz.func94 rfl Tryz.ntmps94 (by simp) ?_
 intro s0 hs; have sl0 : s0 0 = .slice a l.length c := hs 0 (by simp); clear hs; have HB := hid (OldB.refl [] w)
 refine nr ?_; intros; refine pl ?_; refine lx [] ?_; clear sl0; intro _ sl0; refine lr ?_; intros; refine pl ?_; refine lx [3] ?_; clear sl0; intro _ sl0 sl3; refine lr ?_; intros
 refine P3 ?_
 clear sl0; refine lx [6,7,8] ?_; clear sl3; intro s3 sl3 sl6 sl7 sl8; refine ln ?_; intros
 have hc0_3 := hid sl3; have hc0_6 := hid sl6; have hc0_7 := hid sl7; refine loop_F (n := 18) (fun kJ sJ wJ => ∃ (i : Nat), kJ = l.length - i ∧ sJ 8 = .int .i64 (i : Int) ∧ sJ 3 = s3 3 ∧ sJ 6 = s3 6 ∧ sJ 7 = s3 7 ∧ OldB [] w wJ ∧ i ≤ l.length ∧ Hid (w = wJ) ∧ (Hid (∀ j, (hj : j < l.length) → j < i → l[j] = 0))) ⟨0, rfl, (by first | exact sl8 | (rw [sl8]; go_num) | (rw [sl8]; rfl)), rfl, rfl, rfl, OldB.refl _ _, Nat.zero_le _, hid rfl, hid (fun j hj h => by omega)⟩ ?_; clear sl8; rintro kJ s4 w5 ⟨i, rfl, sl8, e3, e6, e7, hb, hil, hww, Hz⟩; replace sl3 := e3.trans sl3; clear e3; replace sl6 := e6.trans sl6; clear e6; replace sl7 := e7.trans sl7; clear e7; have hoJ := hb; replace HB := mO HB hb; clear hb; have HoJ := hid hoJ; clear hoJ; have HL7 := HoJ; clear HoJ
 refine nr ?_; intros; refine pl ?_; refine lx [9] ?_; clear sl3 sl6 sl7 sl8; intro _ sl3 sl6 sl7 sl8 sl9; refine ln ?_; intros
 refine cond_E sl9 (by decide) ?_ ?_ <;> (clear sl9; intro h9 sl9)
 ·skip
  have hi : i < l.length := by simpa using h9
  have hii : (i : Int) < l.length := by omega
  obtain ⟨bx, ox, hax, hbx, cx⟩ := RdInts.ne (Rd.oldB HR.out HB.out (by simp)) hi; subst hax; obtain ⟨y, hy⟩ : ∃ y, l[i] = y := ⟨_, rfl⟩; rw [hy] at cx; have Hy := hid hy; clear hy
  refine nr ?_; intros
  refine P3 ?_
  clear sl9; refine lx [5] ?_; clear sl3 sl6 sl7 sl8; intro _ sl3 sl6 sl7 sl8 sl5; refine lr ?_; intros
  refine P3 ?_
  refine lx [14] ?_; clear sl3 sl5 sl6 sl7 sl8; intro _ sl3 sl5 sl6 sl7 sl8 sl14; refine ln ?_; intros
  refine cond_E sl14 (by decide) ?_ ?_ <;> (clear sl14; intro h14 sl14)
  ·skip
   have hy0 : ¬ y = 0 := by simpa using h14
   have Hr := hid (show orL l = y by rw [orL_found hi Hz.out (by rw [Hy.out]; exact hy0), Hy.out])
   refine nr ?_; intros; refine P2 ?_; clear sl3 sl5 sl6 sl7 sl8 sl14; refine lx [2] ?_; intro _ sl2; refine ln ?_; intros
   refine ret_F _ (res_t Tryz.results94 ((getD_F (by decide)).trans sl2)) ?_; exact ⟨by rw [Hr.out], hww.out⟩
  ·skip
   have hy0 : y = 0 := by simpa using h14
   have Hy0 := hid hy0; clear hy0 h14
   refine nr ?_; intros; refine P2 ?_; clear sl8 sl5 sl14; refine lx [8] ?_; clear sl3 sl6 sl7; intro _ sl3 sl6 sl7 sl8; refine ln ?_; intros
   refine ⟨_, _, rfl, ?_, i + 1, rfl, (rL sl8), (sl3.trans hc0_3.out.symm), (sl6.trans hc0_6.out.symm), (sl7.trans hc0_7.out.symm), HL7.out, by omega, hww, hid (fun j hj h => by rcases Nat.lt_or_ge j i with h3 | h3 <;> first | exact Hz.out j hj h3 | (have e : j = i := (by omega); subst e; rw [Hy.out]; exact Hy0.out))⟩
   omega
 ·skip
  have hi : i = l.length := by have h := h9; simp at h; omega
  have Hr := hid (orL_zero (l := l) (fun j hj => Hz.out j hj (by omega)))
  refine zx ?_; intros
  clear HL7; clear hc0_3 hc0_6 hc0_7; refine region_F ?_; refine P2 ?_; clear sl3 sl6 sl7 sl8 sl9; refine lx [2] ?_; intro _ sl2; refine ln ?_; intros
  refine ret_F _ (res_t Tryz.results94 ((getD_F (by decide)).trans sl2)) ?_; exact ⟨by rw [Hr.out], hww.out⟩

theorem tfirst_s (a : Option Addr) (c : Nat) (l : List Int) (w : World) (hR : RdInts w a l) (hl : l.length ≤ 1000) :
    Calls Tryz.prog 60 #[.slice a l.length c] w (fun e w' => e = .returned (.int .i64 (orL l)) ∧ w = w') := by
 have HR := hid hR; clear hR
 refine enter_F Tryz.func60 rfl Tryz.ntmps60 (by simp) ?_
 intro s0 hs; have sl0 : s0 0 = .slice a l.length c := hs 0 (by simp); clear hs; have HB := hid (OldB.refl [] w)
 refine nr ?_; intros; refine pl ?_; refine lx [] ?_; clear sl0; intro _ sl0; refine lr ?_; intros; refine pl ?_; refine cal (cmpOr_s a c l _ HR.out hl) ?_; rintro e w' ⟨rfl, rfl⟩; refine ⟨_, rfl, ?_⟩; refine pl ?_; clear sl0; refine lx [2] ?_; intro _ sl2; refine ln ?_; intros
 refine ret_F _ (res_t Tryz.results60 ((getD_F (by decide)).trans sl2)) ?_; exact ⟨rfl, rfl⟩


/-- what Merge asks of an entry's numbers -/
def EntB (x : Ent) : Prop := (1 ≤ x.num ∧ x.num ≤ 1000000) ∧ (1 ≤ x.mach ∧ x.mach ≤ 2) ∧ (0 ≤ x.day ∧ x.day ≤ 40000)
theorem cmpE_or (x y : Ent) : cmpE x y = orL [x.day - y.day, x.mach - y.mach, x.num - y.num] := by
  unfold cmpE orL orL orL orL
  by_cases h1 : x.day - y.day = 0 <;> by_cases h2 : x.mach - y.mach = 0 <;> by_cases h3 : x.num - y.num = 0 <;> simp [h1, h2, h3]
theorem merge2_ex (x y : Ent) (hx : EntB x) (hy : EntB y) (W : World) : Calls Tryz.prog 59 #[.agg #[.int .i64 x.num, .int .i64 x.mach, .int .i64 x.day, .string x.unit], .agg #[.int .i64 y.num, .int .i64 y.mach, .int .i64 y.day, .string y.unit]] W fun e w' => e = .returned (.int .i64 (cmpE x y)) ∧ ∃ q os', w' = Go.Sort.grow (W.drewN q) os' := by
  obtain ⟨⟨a1, a2⟩, ⟨a3, a4⟩, a5, a6⟩ := hx; obtain ⟨⟨b1, b2⟩, ⟨b3, b4⟩, b5, b6⟩ := hy; have w1 : IntKind.i64.wrap (x.day - y.day) = x.day - y.day := IntWalk.i64_in _ (by omega); have w2 : IntKind.i64.wrap (x.mach - y.mach) = x.mach - y.mach := IntWalk.i64_in _ (by omega); have w3 : IntKind.i64.wrap (x.num - y.num) = x.num - y.num := IntWalk.i64_in _ (by omega)
  have hcon : ∀ (B : Nat) (T : TypeId) (W' : World), B = W'.heap.size → Calls Tryz.prog 60 #[.slice (some ⟨B, 0, none⟩) 3 3] (W'.alloc (.cells #[.int .i64 (x.day - y.day), .int .i64 (x.mach - y.mach), .int .i64 (x.num - y.num)] T)) fun e w' => e = .returned (.int .i64 (cmpE x y)) ∧ W'.alloc (.cells #[.int .i64 (x.day - y.day), .int .i64 (x.mach - y.mach), .int .i64 (x.num - y.num)] T) = w' := by
    intro B T W' hB; subst hB; rw [cmpE_or]; exact tfirst_s (some ⟨W'.heap.size, 0, none⟩) 3 [x.day - y.day, x.mach - y.mach, x.num - y.num] _ (Cells.rd (f := int1) (m := 1) (fun _ => rfl) (Cells.newL (l := [.int .i64 (x.day - y.day), .int .i64 (x.mach - y.mach), .int .i64 (x.num - y.num)]))) (by simp)
  clear a1 a2 a3 a4 a5 a6 b1 b2 b3 b4 b5 b6
  generalize cmpE x y = r at hcon ⊢
  go_enter Tryz.func59, Tryz.ntmps59
  go_wp2_with (go_at_call 60; refine (hcon _ _ _ (by simp)).mono ?_; rintro e w' ⟨rfl, rfl⟩)
  go_ret
  exact ⟨rfl, 0, _, by rw [Go.Sort.alloc_eq_grow, Go.Sort.alloc_eq_grow, Go.Sort.alloc_eq_grow, Go.Sort.grow_grow, Go.Sort.grow_grow]; rfl⟩
/-- what Suspects asks of a unit's number -/
def UntB (x : Unt) : Prop := 1 ≤ x.mach ∧ x.mach ≤ 2
def cmpU (x y : Unt) : Int := orL [x.mach - y.mach, cmpS x.unit y.unit]

theorem XW37d {A : Prop} (e : A := by intro K' hK; unfold opF; go_simp; exact hK) : A := e
theorem XW37b {A : Prop} (e : A := by
 rintro sJ wJ hbJ hunJ hdJ
 have sv2 := (hunJ 2 (by decide) (un_of (by kernel_rfl))).trans sl2; rw [if_pos (by rfl)]; exact opD_val XW37d) : A := e
theorem XW37c {A : Prop} (e : A := by
 rintro sJ wJ hbJ hunJ hdJ
 have sv3 := (hunJ 3 (by decide) (un_of (by kernel_rfl))).trans sl3; rw [if_pos (by rfl)]; exact opD_val XW37d) : A := e
theorem susp1_ex (x y : Unt) (w : World) (hx : UntB x) (hy : UntB y) :
    Calls Tryz.prog 64 #[.agg #[.int .i64 x.mach, .string x.unit], .agg #[.int .i64 y.mach, .string y.unit]] w (fun e w' => e = .returned (.int .i64 (cmpU x y)) ∧ ∃ q os', w' = Go.Sort.grow (w.drewN q) os') := by
 obtain ⟨a1, a2⟩ := hx; obtain ⟨b1, b2⟩ := hy; have w1 : IntKind.i64.wrap (x.mach - y.mach) = x.mach - y.mach := IntWalk.i64_in _ (by omega); have hd : w.drawn ≤ w.drawn := Nat.le_refl _
 refine enter_F Tryz.func64 rfl Tryz.ntmps64 (by simp) ?_
 intro s0 hs; have sl0 : s0 0 = .agg #[.int .i64 x.mach, .string x.unit] := hs 0 (by simp); have sl1 : s0 1 = .agg #[.int .i64 y.mach, .string y.unit] := hs 1 (by simp); clear hs; have HB := hid (OldB.refl [] w)
 refine nr ?_; intros; obtain ⟨B2, hB⟩ : ∃ b, b = w.heap.size := ⟨_, rfl⟩; have gb2' := HB.out.gB hB; refine listF_step rfl (fun K' hK => ?_); unfold opF; go_simp; refine hK _ _ ?_; clear hK K'; refine listF_absw ?_; intro w1 hw'
 have hb : Below w.heap.size w w1 := by rw [hw']; exact below_alloc1 _ _
 replace hd : w.drawn ≤ w1.drawn := by rw [hw']; exact hd
 have kb2' : Cells w1 B2 [.int .i64 x.mach, .string x.unit] := by rw [hw', hB]; exact Cells.newL (l := [.int .i64 x.mach, .string x.unit])
 rw [← hB]; clear hw' hB; replace HB := bE HB hb; clear hb; have kb2 := kb2'; clear kb2'; have qb2 := kb2.1; obtain ⟨B3, hB⟩ : ∃ b, b = w1.heap.size := ⟨_, rfl⟩; have gb3' := HB.out.gB hB; refine listF_step rfl (fun K' hK => ?_); unfold opF; go_simp; refine hK _ _ ?_; clear hK K'; refine listF_absw ?_; intro w3 hw'
 have hb : Below w1.heap.size w1 w3 := by rw [hw']; exact below_alloc1 _ _
 replace hd : w.drawn ≤ w3.drawn := by rw [hw']; exact hd
 have kb3' : Cells w3 B3 [.int .i64 y.mach, .string y.unit] := by rw [hw', hB]; exact Cells.newL (l := [.int .i64 y.mach, .string y.unit])
 rw [← hB]; clear hw' hB; clear qb2; revert HB; revert kb2; refine uA hb ?_; clear hb; intro kb2 qb2 HB; have kb3 := kb3'; clear kb3'; have qb3 := kb3.1; refine pl ?_; clear sl0 sl1; refine lx [2,3] ?_; intro _ sl2 sl3; refine ln ?_; intros
 refine regD 10 [fun v _ _ _ => v = .pointer (some ⟨B2, 0, none⟩), fun v _ _ _ => v = .int .i64 x.mach, fun v _ _ _ => v = .pointer (some ⟨B3, 0, none⟩), fun v _ _ _ => v = .int .i64 y.mach, fun v _ _ _ => v = .int .i64 (x.mach - y.mach), fun v _ _ _ => v = .pointer (some ⟨B2, 1, none⟩), fun v _ _ _ => v = .string x.unit, fun v _ _ _ => v = .pointer (some ⟨B3, 1, none⟩), fun v _ _ _ => v = .string y.unit, fun v _ _ _ => v = .int .i64 (cmpS x.unit y.unit)] (by kernel_rfl) (by kernel_rfl) (by kernel_rfl) (by kernel_rfl) ⟨fun _ _ _ _ _ h _ => h, fun _ _ _ _ _ h _ => h, fun _ _ _ _ _ h _ => h, fun _ _ _ _ _ h _ => h, fun _ _ _ _ _ h _ => h, fun _ _ _ _ _ h _ => h, fun _ _ _ _ _ h _ => h, fun _ _ _ _ _ h _ => h, fun _ _ _ _ _ h _ => h, fun _ _ _ _ _ h _ => h, trivial⟩ ⟨?_, ?_, ?_, ?_, ?_, ?_, ?_, ?_, ?_, ?_, trivial⟩ ?_
 · exact XW37b
 · rintro sJ wJ hbJ hunJ hdJ
   have sv5 : sJ 5 = .pointer (some ⟨B2, 0, none⟩) := (hdJ 0 (by kernel_rfl) 5 rfl).elim fun _ h => h.elim fun _ h => h.2.2
   have kJ := kb2.at hbJ; have qJ := kJ.1; have cJ_0 := kJ.cell 0 rfl; rw [if_pos (by rfl)]; exact opD_val XW37d
 · exact XW37c
 · rintro sJ wJ hbJ hunJ hdJ
   have sv7 : sJ 7 = .pointer (some ⟨B3, 0, none⟩) := (hdJ 2 (by kernel_rfl) 7 rfl).elim fun _ h => h.elim fun _ h => h.2.2
   have kJ := kb3.at hbJ; have qJ := kJ.1; have cJ_0 := kJ.cell 0 rfl; rw [if_pos (by rfl)]; exact opD_val XW37d
 · rintro sJ wJ hbJ hunJ hdJ
   have sv6 : sJ 6 = .int .i64 x.mach := (hdJ 1 (by kernel_rfl) 6 rfl).elim fun _ h => h.elim fun _ h => h.2.2
   have sv8 : sJ 8 = .int .i64 y.mach := (hdJ 3 (by kernel_rfl) 8 rfl).elim fun _ h => h.elim fun _ h => h.2.2
   rw [if_pos (by rfl)]; exact opD_val XW37d
 · exact XW37b
 · rintro sJ wJ hbJ hunJ hdJ
   have sv10 : sJ 10 = .pointer (some ⟨B2, 1, none⟩) := (hdJ 5 (by kernel_rfl) 10 rfl).elim fun _ h => h.elim fun _ h => h.2.2
   have kJ := kb2.at hbJ; have qJ := kJ.1; have cJ_1 := kJ.cell 1 rfl; rw [if_pos (by rfl)]; exact opD_val XW37d
 · exact XW37c
 · rintro sJ wJ hbJ hunJ hdJ
   have sv12 : sJ 12 = .pointer (some ⟨B3, 1, none⟩) := (hdJ 7 (by kernel_rfl) 12 rfl).elim fun _ h => h.elim fun _ h => h.2.2
   have kJ := kb3.at hbJ; have qJ := kJ.1; have cJ_1 := kJ.cell 1 rfl; rw [if_pos (by rfl)]; exact opD_val XW37d
 · rintro sJ wJ hbJ hunJ hdJ
   have sv11 : sJ 11 = .string x.unit := (hdJ 6 (by kernel_rfl) 11 rfl).elim fun _ h => h.elim fun _ h => h.2.2
   have sv13 : sJ 13 = .string y.unit := (hdJ 8 (by kernel_rfl) 13 rfl).elim fun _ h => h.elim fun _ h => h.2.2
   rw [if_pos (by rfl)]; unfold opF; go_simp; refine (cmpS_any x.unit y.unit _).mono ?_; rintro e wN ⟨rfl, rfl⟩; exact ⟨_, rfl, rfl, Below.refl _ _, Nat.le_refl _⟩
 intro s8 w6 aJ bJ hb hdr hunJ hvJ hapJ; clear sl2 sl3; have sl9 : s8 9 = .int .i64 (x.mach - y.mach) := (hvJ 4 (by decide)).2.2.2 9 rfl; have sl14 : s8 14 = .int .i64 (cmpS x.unit y.unit) := (hvJ 9 (by decide)).2.2.2 14 rfl; clear hunJ hvJ hapJ; have gS := HB.out.size; replace hd := Nat.le_trans hd hdr; clear hdr; clear qb2 qb3; revert HB; revert kb3; revert kb2; refine uA hb ?_; clear hb; intro kb2 qb2 kb3 qb3 HB; obtain ⟨B15, hB⟩ : ∃ b, b = w6.heap.size := ⟨_, rfl⟩; have gb15' := HB.out.gB hB; refine listF_step rfl (fun K' hK => ?_); unfold opF; go_simp; refine hK _ _ ?_; clear hK K'; refine listF_absw ?_; intro w9 hw'
 have hb : Below w6.heap.size w6 w9 := by rw [hw']; exact below_alloc1 _ _
 replace hd : w.drawn ≤ w9.drawn := by rw [hw']; exact hd
 have kb15' : Cells w9 B15 [.int .i64 (x.mach - y.mach), .int .i64 (cmpS x.unit y.unit)] := by rw [hw', hB]; exact Cells.newL (l := [.int .i64 (x.mach - y.mach), .int .i64 (cmpS x.unit y.unit)])
 rw [← hB]; clear hw' hB; clear qb2 qb3; revert HB; revert kb3; revert kb2; refine uA hb ?_; clear hb; intro kb2 qb2 kb3 qb3 HB; have kb15 := kb15'; clear kb15'; have qb15 := kb15.1; refine cal (tfirst_s (some ⟨B15, 0, none⟩) 2 [x.mach - y.mach, cmpS x.unit y.unit] _ (Cells.rd (f := int1) (m := 1) (l := [x.mach - y.mach, cmpS x.unit y.unit]) (fun _ => rfl) kb15) (by simp)) ?_; rintro e w' ⟨rfl, rfl⟩; refine ⟨_, rfl, ?_⟩; refine pl ?_; clear sl9 sl14; refine lx [4] ?_; intro _ sl4; refine ln ?_; intros
 refine ret_F _ (res_t Tryz.results64 ((getD_F (by decide)).trans sl4)) ?_; exact ⟨rfl, ex_grow HB.out.toBelow hd⟩
end

section
open Go.RowKit

theorem idx_div {k j n : Nat} (h : j < n * k) : j / k < n ∧ j % k < k ∧ j / k * k + j % k = j := by
  have hk : 0 < k := by rcases Nat.eq_zero_or_pos k with e | e; subst e; simp at h; exact e
  refine ⟨(Nat.div_lt_iff_lt_mul hk).2 h, Nat.mod_lt _ hk, ?_⟩
  rw [Nat.mul_comm]; exact Nat.div_add_mod j k
theorem flat_inv {β : Type} {f : β → List Value} {k : Nat} (hk : ∀ x, (f x).length = k) : ∀ (l : List β) (t : Nat) (v : Value), (l.flatMap f)[t]? = some v → t < l.length * k
  | [], t, v, h => by simp at h
  | x :: l, t, v, h => by
    rw [List.flatMap_cons] at h
    by_cases ht : t < k
    · rw [List.length_cons, Nat.add_mul, Nat.one_mul]; omega
    · rw [List.getElem?_append_right (by rw [hk]; omega), hk] at h
      have := flat_inv hk l _ _ h
      rw [List.length_cons, Nat.add_mul, Nat.one_mul]; omega
theorem flat_at {β : Type} [Inhabited β] {f : β → List Value} {k : Nat} (hk : ∀ x, (f x).length = k) (l : List β) {t : Nat} (h : t < l.length * k) : (l.flatMap f)[t]? = some (f l.toArray[t / k]!)[t % k]! := by
  obtain ⟨h1, h2, h3⟩ := idx_div h
  have e1 : l.toArray[t / k]! = l[t / k] := by simp [h1]
  have := flat_get f k hk l (t / k) l[t / k] (List.getElem?_eq_getElem h1) (t % k) (f l[t / k])[t % k]! (by rw [getElem!_pos _ _ (by rw [hk]; exact h2)]; exact List.getElem?_eq_getElem _)
  rw [h3] at this
  rw [this, e1]
theorem holds_of_cells {β : Type} [Inhabited β] {f : β → List Value} {k : Nat} (hk : ∀ x, (f x).length = k) {w : World} {b : Nat} {l : List β} (h : Cells w b (l.flatMap f)) : Go.Sort.HoldsK f k w b 0 l.toArray := by
  intro t ht
  rw [Go.Sort.size_flatK] at ht
  have ht' : t < l.length * k := by simpa using ht
  rw [Nat.zero_add]
  refine ⟨?_, h.2.2 t⟩
  rw [h.2.1 t _ (flat_at hk l ht'), Go.Sort.get_flatK _ _ _ _ ht]; rfl
theorem cells_of_holds {β : Type} [Inhabited β] {f : β → List Value} {k : Nat} (hk : ∀ x, (f x).length = k) {w : World} {b : Nat} {d : Array β} (hb : b < w.heap.size) (hf : ∀ o, w.frozen? ⟨b, o, none⟩ = false) (h : Go.Sort.HoldsK f k w b 0 d) : Cells w b (d.toList.flatMap f) := by
  refine ⟨hb, fun t v hv => ?_, hf⟩
  have ht := flat_inv hk _ _ _ hv
  have ht' : t < (Go.Sort.flatK f k d).size := by rw [Go.Sort.size_flatK]; simpa using ht
  have h1 := (h t ht').1
  rw [Nat.zero_add, Go.Sort.get_flatK _ _ _ _ (by simpa using ht)] at h1
  rw [flat_at hk _ ht] at hv
  rw [h1, ← hv]; rfl
theorem sortW_old {β : Type} [Inhabited β] (f : β → List Value) (k : Nat) (w : World) (b n : Nat) (d : Array β) (os : Array Obj) : OldB [b] w (sortWorldK f k w b 0 n d os) ∧ (b < w.heap.size → (∀ o, w.frozen? ⟨b, o, none⟩ = false) → ∀ o, (sortWorldK f k w b 0 n d os).frozen? ⟨b, o, none⟩ = false) := by
  have hsz : (Go.Sort.putRowK f k (Go.Sort.ahead w n) b 0 d).heap.size = w.heap.size := by
    show (Go.Sort.putRow id (Go.Sort.ahead w n) b 0 _).heap.size = _
    rw [Go.Sort.size_putRow]; rfl
  refine ⟨⟨rfl, rfl, rfl, ?_, fun c hc hn => ?_⟩, fun hb hf o => ?_⟩
  · show w.heap.size ≤ ((Go.Sort.putRowK f k (Go.Sort.ahead w n) b 0 d).heap ++ os).size
    rw [Array.size_append, hsz]; omega
  · show ((Go.Sort.putRowK f k (Go.Sort.ahead w n) b 0 d).heap ++ os)[c]? = _
    rw [Array.getElem?_append, if_pos (by rw [hsz]; exact hc)]
    show (w.heap.modify b _)[c]? = _
    rw [Array.getElem?_modify, if_neg (fun e => hn (by simp [e]))]
  · have h1 : (Go.Sort.grow (Go.Sort.putRowK f k (Go.Sort.ahead w n) b 0 d) os).frozen? ⟨b, o, none⟩ = (Go.Sort.putRowK f k (Go.Sort.ahead w n) b 0 d).frozen? ⟨b, o, none⟩ := by
      refine frozBk ?_
      show ((Go.Sort.putRowK f k (Go.Sort.ahead w n) b 0 d).heap ++ os)[b]? = _
      rw [Array.getElem?_append, if_pos (by rw [hsz]; exact hb)]
    show (Go.Sort.grow (Go.Sort.putRowK f k (Go.Sort.ahead w n) b 0 d) os).frozen? ⟨b, o, none⟩ = false
    rw [h1]
    show (Go.Sort.putRow id (Go.Sort.ahead w n) b 0 _).frozen? ⟨b, o, none⟩ = false
    rw [Go.Sort.frozen?_putRow]; exact hf o
theorem perm_of {β : Type} [Inhabited β] {d d' : Array β} (h : Go.Sort.PermIn 0 d.size d d') : d'.toList.Perm d.toList := by
  have h3 := h.2.2
  have e1 : d'.extract 0 d.size = d' := by rw [← h.1]; simp
  have e2 : d.extract 0 d.size = d := by simp
  rwa [e1, e2] at h3
theorem pair_of {β : Type} [Inhabited β] {lt : β → β → Bool} {d : Array β} {n : Nat} (hn : n = d.size) (h : Go.Sort.SortedIn lt 0 n d) : d.toList.Pairwise (fun x y => lt y x = false) := by
  rw [List.pairwise_iff_getElem]
  intro i j hi hj hij
  have := h i j (Nat.zero_le _) hij (by rw [hn]; simpa using hj)
  rw [getElem!_pos d j (by simpa using hj), getElem!_pos d i (by simpa using hi)] at this
  simpa using this
/-- slices.SortFunc, over cells -/
theorem sort_row {P : Program} {ρ : Go.Shelf.Ren} {β : Type} [Inhabited β] (L : SlLaysF0.n6 P ρ) (k : Nat) (aE : ∀ w, (isAgg (ρ.t 24)).run P w = .ok true w) (zE : ∀ w, (Go.sizeOf (ρ.t 24)).run P w = .ok k w) (f : β → List Value) (hk : ∀ x, (f x).length = k) (h1 : ∀ x, ∀ v ∈ f x, v.oneCell' = true) (cf : β → β → Int) (hO : Go.Sort.SWO (ltOf cf)) (g : Nat) (cb : Array Value)
    (eg : ∀ args w, (callFunc g args).run P w = .ok (.enter g args) w) (hcmp : ∀ x y W, Calls P g (#[.agg (f x).toArray, .agg (f y).toArray] ++ cb) W fun e w' => e = .returned (.int .i64 (cf x y)) ∧ ∃ q os', w' = Go.Sort.grow (W.drewN q) os') (b cap : Nat) (l : List β) (w : World) (hC : Cells w b (l.flatMap f)) (hsz : l.length < 4611686018427387904) :
    Calls P (ρ.f 6) #[.slice (some ⟨b, 0, none⟩) l.length cap, .func (.func g) #[] cb] w fun e w' => e = .returned (.tuple #[]) ∧ ∃ m : List β, m.Perm l ∧ m.Pairwise (fun x y => ltOf cf y x = false) ∧ Cells w' b (m.flatMap f) ∧ OldB [b] w w' := by
  have hH := holds_of_cells hk hC
  have hb := hC.1
  have := AnyQ.slices_SortFunc L k aE zE f hk h1 cf hO g cb b 0 cap l.toArray w eg (fun _ _ _ _ x y => hcmp x y _) hH hb (by simpa using hsz)
  rw [List.size_toArray] at this
  refine this.mono ?_
  rintro e w' ⟨rfl, d', n, os, hp, hs, rfl⟩
  have hp' : Go.Sort.PermIn 0 l.toArray.size l.toArray d' := by rw [List.size_toArray]; exact hp
  have hsd : d'.size = l.toArray.size := hp.1
  obtain ⟨ho, hfz⟩ := sortW_old f k w b n d' os
  refine ⟨rfl, d'.toList, perm_of hp', pair_of (by rw [hsd, List.size_toArray]) hs, ?_, ho⟩
  refine cells_of_holds hk (Nat.lt_of_lt_of_le hb ho.size) (hfz hb hC.2.2) ?_
  exact SWK.holds ⟨n, os, rfl⟩ hb hH hsd
end


end Go.Proofs.YtleknidlgmmgbaaGreat
