/-
  The types of this seat's program, as a table, and that it tells no lie; that each function is entered where it is called. Printed by gen_base.py off the translation.
-/
import Derived.Test.YtkgjfcjciigcgaaProg
import Derived.Test.YtkgjfcjciigcgaaSlEq
import Derived.KernelRfl
namespace Go.Proofs.Ytkgjfcjciigcgaa
open Go.Proofs.Ytkgjfcjciigcgaa.Sl Go.RowKit
set_option maxRecDepth 100000

theorem tyOk_mk {P : Program} {t : TypeId} {k : TyK} {s b : Nat} {z : Value} {zl : List Value} (hk : k.fits (P.underlying t)) (hi : (P.info? t).map (fun i => (i.size, i.bytes, i.zero)) = some (s, b, some z)) (hz : z.cells = zl.toArray) : TyOk P t ⟨k, s, b, zl⟩ := by
  refine ⟨hk, ?_⟩
  cases h : P.info? t with
  | none => rw [h] at hi; cases hi
  | some i =>
    rw [h] at hi
    simp at hi
    exact ⟨i, z, rfl, hi.1, hi.2.1, hi.2.2, hz⟩
def AllOk (P : Program) : Nat → Tab → Prop
  | _, [] => True
  | i, x :: r => (∀ d, x = some d → TyOk P i d) ∧ AllOk P (i + 1) r
theorem allOk_none {P : Program} {i : Nat} {r : Tab} (h : AllOk P (i + 1) r) : AllOk P i (none :: r) := ⟨fun _ h => (by cases h), h⟩
theorem allOk_some {P : Program} {i : Nat} {d : TyD} {r : Tab} (hd : TyOk P i d) (h : AllOk P (i + 1) r) : AllOk P i (some d :: r) := ⟨fun _ h => (by cases h; exact hd), h⟩
theorem AllOk.get {P : Program} : ∀ {l : Tab} {i : Nat}, AllOk P i l → ∀ t d, nth l t = some (some d) → TyOk P (i + t) d
  | [], i, _, t, d, h => by simp [nth] at h
  | x :: r, i, ha, t, d, h => by
    rw [nth_eq] at h
    cases t with
    | zero => simp at h; exact ha.1 d h
    | succ t => have := AllOk.get ha.2 t d (by rw [nth_eq]; simpa using h); rwa [show i + 1 + t = i + (t + 1) by omega] at this

theorem ty1 : TyOk Try.prog 1 ⟨.func, 1, 8, [.nilFunc]⟩ := tyOk_mk (z := .nilFunc) ⟨_, _, _, Try.underlying1⟩ (by kernel_rfl) rfl
theorem ty2 : TyOk Try.prog 2 ⟨.int .i64, 1, 8, [.int .i64 0]⟩ := tyOk_mk (z := .int .i64 0) Try.underlying2 (by kernel_rfl) rfl
theorem ty3 : TyOk Try.prog 3 ⟨.int .i64, 1, 8, [.int .i64 0]⟩ := tyOk_mk (z := .int .i64 0) Try.underlying3 (by kernel_rfl) rfl
theorem ty4 : TyOk Try.prog 4 ⟨.bool, 1, 1, [.bool false]⟩ := tyOk_mk (z := .bool false) Try.underlying4 (by kernel_rfl) rfl
theorem ty5 : TyOk Try.prog 5 ⟨.int .u8, 1, 1, [.int .u8 0]⟩ := tyOk_mk (z := .int .u8 0) Try.underlying5 (by kernel_rfl) rfl
theorem ty6 : TyOk Try.prog 6 ⟨.int .u8, 1, 1, [.int .u8 0]⟩ := tyOk_mk (z := .int .u8 0) Try.underlying6 (by kernel_rfl) rfl
theorem ty7 : TyOk Try.prog 7 ⟨.struct [(2, 0), (3, 1), (4, 2), (6, 3)], 4, 24, [.int .i64 0, .int .i64 0, .bool false, .int .u8 0]⟩ := tyOk_mk (z := .agg #[.int .i64 0, .int .i64 0, .bool false, .int .u8 0]) ⟨_, Try.underlying7, rfl⟩ (by kernel_rfl) rfl
theorem ty8 : TyOk Try.prog 8 ⟨.struct [(2, 0), (3, 1), (4, 2), (6, 3)], 4, 24, [.int .i64 0, .int .i64 0, .bool false, .int .u8 0]⟩ := tyOk_mk (z := .agg #[.int .i64 0, .int .i64 0, .bool false, .int .u8 0]) ⟨_, Try.underlying8, rfl⟩ (by kernel_rfl) rfl
theorem ty9 : TyOk Try.prog 9 ⟨.string, 1, 16, [.string ByteArray.empty]⟩ := tyOk_mk (z := .string ByteArray.empty) Try.underlying9 (by kernel_rfl) rfl
theorem ty10 : TyOk Try.prog 10 ⟨.string, 1, 16, [.string ByteArray.empty]⟩ := tyOk_mk (z := .string ByteArray.empty) Try.underlying10 (by kernel_rfl) rfl
theorem ty11 : TyOk Try.prog 11 ⟨.string, 1, 16, [.string ByteArray.empty]⟩ := tyOk_mk (z := .string ByteArray.empty) Try.underlying11 (by kernel_rfl) rfl
theorem ty12 : TyOk Try.prog 12 ⟨.int .u64, 1, 8, [.int .u64 0]⟩ := tyOk_mk (z := .int .u64 0) Try.underlying12 (by kernel_rfl) rfl
theorem ty13 : TyOk Try.prog 13 ⟨.struct [(9, 0), (12, 1)], 2, 24, [.string ByteArray.empty, .int .u64 0]⟩ := tyOk_mk (z := .agg #[.string ByteArray.empty, .int .u64 0]) ⟨_, Try.underlying13, rfl⟩ (by kernel_rfl) rfl
theorem ty14 : TyOk Try.prog 14 ⟨.struct [(9, 0), (12, 1)], 2, 24, [.string ByteArray.empty, .int .u64 0]⟩ := tyOk_mk (z := .agg #[.string ByteArray.empty, .int .u64 0]) ⟨_, Try.underlying14, rfl⟩ (by kernel_rfl) rfl
theorem ty15 : TyOk Try.prog 15 ⟨.ptr 280, 1, 8, [.pointer none]⟩ := tyOk_mk (z := .pointer none) Try.underlying15 (by kernel_rfl) rfl
theorem ty16 : TyOk Try.prog 16 ⟨.ptr 283, 1, 8, [.pointer none]⟩ := tyOk_mk (z := .pointer none) Try.underlying16 (by kernel_rfl) rfl
theorem ty17 : TyOk Try.prog 17 ⟨.ptr 291, 1, 8, [.pointer none]⟩ := tyOk_mk (z := .pointer none) Try.underlying17 (by kernel_rfl) rfl
theorem ty18 : TyOk Try.prog 18 ⟨.struct [(17, 0)], 1, 8, [.pointer none]⟩ := tyOk_mk (z := .agg #[.pointer none]) ⟨_, Try.underlying18, rfl⟩ (by kernel_rfl) rfl
theorem ty19 : TyOk Try.prog 19 ⟨.struct [(17, 0)], 1, 8, [.pointer none]⟩ := tyOk_mk (z := .agg #[.pointer none]) ⟨_, Try.underlying19, rfl⟩ (by kernel_rfl) rfl
theorem ty21 : TyOk Try.prog 21 ⟨.int .i32, 1, 4, [.int .i32 0]⟩ := tyOk_mk (z := .int .i32 0) Try.underlying21 (by kernel_rfl) rfl
theorem ty22 : TyOk Try.prog 22 ⟨.struct [(3, 0), (3, 1), (9, 2)], 3, 32, [.int .i64 0, .int .i64 0, .string ByteArray.empty]⟩ := tyOk_mk (z := .agg #[.int .i64 0, .int .i64 0, .string ByteArray.empty]) ⟨_, Try.underlying22, rfl⟩ (by kernel_rfl) rfl
theorem ty23 : TyOk Try.prog 23 ⟨.struct [(3, 0), (3, 1), (9, 2)], 3, 32, [.int .i64 0, .int .i64 0, .string ByteArray.empty]⟩ := tyOk_mk (z := .agg #[.int .i64 0, .int .i64 0, .string ByteArray.empty]) ⟨_, Try.underlying23, rfl⟩ (by kernel_rfl) rfl
theorem ty24 : TyOk Try.prog 24 ⟨.struct [(9, 0), (3, 1), (3, 2)], 3, 32, [.string ByteArray.empty, .int .i64 0, .int .i64 0]⟩ := tyOk_mk (z := .agg #[.string ByteArray.empty, .int .i64 0, .int .i64 0]) ⟨_, Try.underlying24, rfl⟩ (by kernel_rfl) rfl
theorem ty25 : TyOk Try.prog 25 ⟨.struct [(9, 0), (3, 1), (3, 2)], 3, 32, [.string ByteArray.empty, .int .i64 0, .int .i64 0]⟩ := tyOk_mk (z := .agg #[.string ByteArray.empty, .int .i64 0, .int .i64 0]) ⟨_, Try.underlying25, rfl⟩ (by kernel_rfl) rfl
theorem ty26 : TyOk Try.prog 26 ⟨.slice 28, 1, 24, [.slice none 0 0]⟩ := tyOk_mk (z := .slice none 0 0) Try.underlying26 (by kernel_rfl) rfl
theorem ty27 : TyOk Try.prog 27 ⟨.struct [(3, 0), (9, 1), (9, 2), (23, 3), (25, 6), (25, 9), (26, 12)], 13, 160, [.int .i64 0, .string ByteArray.empty, .string ByteArray.empty, .int .i64 0, .int .i64 0, .string ByteArray.empty, .string ByteArray.empty, .int .i64 0, .int .i64 0, .string ByteArray.empty, .int .i64 0, .int .i64 0, .slice none 0 0]⟩ := tyOk_mk (z := .agg #[.int .i64 0, .string ByteArray.empty, .string ByteArray.empty, .int .i64 0, .int .i64 0, .string ByteArray.empty, .string ByteArray.empty, .int .i64 0, .int .i64 0, .string ByteArray.empty, .int .i64 0, .int .i64 0, .slice none 0 0]) ⟨_, Try.underlying27, rfl⟩ (by kernel_rfl) rfl
theorem ty28 : TyOk Try.prog 28 ⟨.struct [(3, 0), (9, 1), (9, 2), (23, 3), (25, 6), (25, 9), (26, 12)], 13, 160, [.int .i64 0, .string ByteArray.empty, .string ByteArray.empty, .int .i64 0, .int .i64 0, .string ByteArray.empty, .string ByteArray.empty, .int .i64 0, .int .i64 0, .string ByteArray.empty, .int .i64 0, .int .i64 0, .slice none 0 0]⟩ := tyOk_mk (z := .agg #[.int .i64 0, .string ByteArray.empty, .string ByteArray.empty, .int .i64 0, .int .i64 0, .string ByteArray.empty, .string ByteArray.empty, .int .i64 0, .int .i64 0, .string ByteArray.empty, .int .i64 0, .int .i64 0, .slice none 0 0]) ⟨_, Try.underlying28, rfl⟩ (by kernel_rfl) rfl
theorem ty29 : TyOk Try.prog 29 ⟨.func, 1, 8, [.nilFunc]⟩ := tyOk_mk (z := .nilFunc) ⟨_, _, _, Try.underlying29⟩ (by kernel_rfl) rfl
theorem ty30 : TyOk Try.prog 30 ⟨.func, 1, 8, [.nilFunc]⟩ := tyOk_mk (z := .nilFunc) ⟨_, _, _, Try.underlying30⟩ (by kernel_rfl) rfl
theorem ty31 : TyOk Try.prog 31 ⟨.func, 1, 8, [.nilFunc]⟩ := tyOk_mk (z := .nilFunc) ⟨_, _, _, Try.underlying31⟩ (by kernel_rfl) rfl
theorem ty32 : TyOk Try.prog 32 ⟨.func, 1, 8, [.nilFunc]⟩ := tyOk_mk (z := .nilFunc) ⟨_, _, _, Try.underlying32⟩ (by kernel_rfl) rfl
theorem ty33 : TyOk Try.prog 33 ⟨.func, 1, 8, [.nilFunc]⟩ := tyOk_mk (z := .nilFunc) ⟨_, _, _, Try.underlying33⟩ (by kernel_rfl) rfl
theorem ty34 : TyOk Try.prog 34 ⟨.func, 1, 8, [.nilFunc]⟩ := tyOk_mk (z := .nilFunc) ⟨_, _, _, Try.underlying34⟩ (by kernel_rfl) rfl
theorem ty35 : TyOk Try.prog 35 ⟨.func, 1, 8, [.nilFunc]⟩ := tyOk_mk (z := .nilFunc) ⟨_, _, _, Try.underlying35⟩ (by kernel_rfl) rfl
theorem ty36 : TyOk Try.prog 36 ⟨.func, 1, 8, [.nilFunc]⟩ := tyOk_mk (z := .nilFunc) ⟨_, _, _, Try.underlying36⟩ (by kernel_rfl) rfl
theorem ty37 : TyOk Try.prog 37 ⟨.struct [(3, 0), (3, 1), (3, 2)], 3, 24, [.int .i64 0, .int .i64 0, .int .i64 0]⟩ := tyOk_mk (z := .agg #[.int .i64 0, .int .i64 0, .int .i64 0]) ⟨_, Try.underlying37, rfl⟩ (by kernel_rfl) rfl
theorem ty38 : TyOk Try.prog 38 ⟨.struct [(3, 0), (3, 1), (3, 2)], 3, 24, [.int .i64 0, .int .i64 0, .int .i64 0]⟩ := tyOk_mk (z := .agg #[.int .i64 0, .int .i64 0, .int .i64 0]) ⟨_, Try.underlying38, rfl⟩ (by kernel_rfl) rfl
theorem ty39 : TyOk Try.prog 39 ⟨.func, 1, 8, [.nilFunc]⟩ := tyOk_mk (z := .nilFunc) ⟨_, _, _, Try.underlying39⟩ (by kernel_rfl) rfl
theorem ty40 : TyOk Try.prog 40 ⟨.func, 1, 8, [.nilFunc]⟩ := tyOk_mk (z := .nilFunc) ⟨_, _, _, Try.underlying40⟩ (by kernel_rfl) rfl
theorem ty41 : TyOk Try.prog 41 ⟨.slice 4, 1, 24, [.slice none 0 0]⟩ := tyOk_mk (z := .slice none 0 0) Try.underlying41 (by kernel_rfl) rfl
theorem ty42 : TyOk Try.prog 42 ⟨.func, 1, 8, [.nilFunc]⟩ := tyOk_mk (z := .nilFunc) ⟨_, _, _, Try.underlying42⟩ (by kernel_rfl) rfl
theorem ty43 : TyOk Try.prog 43 ⟨.func, 1, 8, [.nilFunc]⟩ := tyOk_mk (z := .nilFunc) ⟨_, _, _, Try.underlying43⟩ (by kernel_rfl) rfl
theorem ty44 : TyOk Try.prog 44 ⟨.slice 25, 1, 24, [.slice none 0 0]⟩ := tyOk_mk (z := .slice none 0 0) Try.underlying44 (by kernel_rfl) rfl
theorem ty45 : TyOk Try.prog 45 ⟨.int .u32, 1, 4, [.int .u32 0]⟩ := tyOk_mk (z := .int .u32 0) Try.underlying45 (by kernel_rfl) rfl
theorem ty46 : TyOk Try.prog 46 ⟨.func, 1, 8, [.nilFunc]⟩ := tyOk_mk (z := .nilFunc) ⟨_, _, _, Try.underlying46⟩ (by kernel_rfl) rfl
theorem ty47 : TyOk Try.prog 47 ⟨.func, 1, 8, [.nilFunc]⟩ := tyOk_mk (z := .nilFunc) ⟨_, _, _, Try.underlying47⟩ (by kernel_rfl) rfl
theorem ty48 : TyOk Try.prog 48 ⟨.func, 1, 8, [.nilFunc]⟩ := tyOk_mk (z := .nilFunc) ⟨_, _, _, Try.underlying48⟩ (by kernel_rfl) rfl
theorem ty49 : TyOk Try.prog 49 ⟨.func, 1, 8, [.nilFunc]⟩ := tyOk_mk (z := .nilFunc) ⟨_, _, _, Try.underlying49⟩ (by kernel_rfl) rfl
theorem ty50 : TyOk Try.prog 50 ⟨.func, 1, 8, [.nilFunc]⟩ := tyOk_mk (z := .nilFunc) ⟨_, _, _, Try.underlying50⟩ (by kernel_rfl) rfl
theorem ty51 : TyOk Try.prog 51 ⟨.func, 1, 8, [.nilFunc]⟩ := tyOk_mk (z := .nilFunc) ⟨_, _, _, Try.underlying51⟩ (by kernel_rfl) rfl
theorem ty52 : TyOk Try.prog 52 ⟨.func, 1, 8, [.nilFunc]⟩ := tyOk_mk (z := .nilFunc) ⟨_, _, _, Try.underlying52⟩ (by kernel_rfl) rfl
theorem ty53 : TyOk Try.prog 53 ⟨.ptr 59, 1, 8, [.pointer none]⟩ := tyOk_mk (z := .pointer none) Try.underlying53 (by kernel_rfl) rfl
theorem ty54 : TyOk Try.prog 54 ⟨.struct [(25, 0), (25, 3)], 6, 64, [.string ByteArray.empty, .int .i64 0, .int .i64 0, .string ByteArray.empty, .int .i64 0, .int .i64 0]⟩ := tyOk_mk (z := .agg #[.string ByteArray.empty, .int .i64 0, .int .i64 0, .string ByteArray.empty, .int .i64 0, .int .i64 0]) ⟨_, Try.underlying54, rfl⟩ (by kernel_rfl) rfl
theorem ty55 : TyOk Try.prog 55 ⟨.struct [(25, 0), (25, 3)], 6, 64, [.string ByteArray.empty, .int .i64 0, .int .i64 0, .string ByteArray.empty, .int .i64 0, .int .i64 0]⟩ := tyOk_mk (z := .agg #[.string ByteArray.empty, .int .i64 0, .int .i64 0, .string ByteArray.empty, .int .i64 0, .int .i64 0]) ⟨_, Try.underlying55, rfl⟩ (by kernel_rfl) rfl
theorem ty56 : TyOk Try.prog 56 ⟨.slice 120, 1, 24, [.slice none 0 0]⟩ := tyOk_mk (z := .slice none 0 0) Try.underlying56 (by kernel_rfl) rfl
theorem ty57 : TyOk Try.prog 57 ⟨.slice 65, 1, 24, [.slice none 0 0]⟩ := tyOk_mk (z := .slice none 0 0) Try.underlying57 (by kernel_rfl) rfl
theorem ty58 : TyOk Try.prog 58 ⟨.struct [(4, 0), (4, 1), (55, 2), (56, 8), (57, 9)], 10, 120, [.bool false, .bool false, .string ByteArray.empty, .int .i64 0, .int .i64 0, .string ByteArray.empty, .int .i64 0, .int .i64 0, .slice none 0 0, .slice none 0 0]⟩ := tyOk_mk (z := .agg #[.bool false, .bool false, .string ByteArray.empty, .int .i64 0, .int .i64 0, .string ByteArray.empty, .int .i64 0, .int .i64 0, .slice none 0 0, .slice none 0 0]) ⟨_, Try.underlying58, rfl⟩ (by kernel_rfl) rfl
theorem ty59 : TyOk Try.prog 59 ⟨.struct [(4, 0), (4, 1), (55, 2), (56, 8), (57, 9)], 10, 120, [.bool false, .bool false, .string ByteArray.empty, .int .i64 0, .int .i64 0, .string ByteArray.empty, .int .i64 0, .int .i64 0, .slice none 0 0, .slice none 0 0]⟩ := tyOk_mk (z := .agg #[.bool false, .bool false, .string ByteArray.empty, .int .i64 0, .int .i64 0, .string ByteArray.empty, .int .i64 0, .int .i64 0, .slice none 0 0, .slice none 0 0]) ⟨_, Try.underlying59, rfl⟩ (by kernel_rfl) rfl
theorem ty60 : TyOk Try.prog 60 ⟨.func, 1, 8, [.nilFunc]⟩ := tyOk_mk (z := .nilFunc) ⟨_, _, _, Try.underlying60⟩ (by kernel_rfl) rfl
theorem ty61 : TyOk Try.prog 61 ⟨.int .i64, 1, 8, [.int .i64 0]⟩ := tyOk_mk (z := .int .i64 0) Try.underlying61 (by kernel_rfl) rfl
theorem ty62 : TyOk Try.prog 62 ⟨.func, 1, 8, [.nilFunc]⟩ := tyOk_mk (z := .nilFunc) ⟨_, _, _, Try.underlying62⟩ (by kernel_rfl) rfl
theorem ty63 : TyOk Try.prog 63 ⟨.func, 1, 8, [.nilFunc]⟩ := tyOk_mk (z := .nilFunc) ⟨_, _, _, Try.underlying63⟩ (by kernel_rfl) rfl
theorem ty64 : TyOk Try.prog 64 ⟨.struct [(3, 0), (3, 1), (61, 2), (56, 3)], 4, 48, [.int .i64 0, .int .i64 0, .int .i64 0, .slice none 0 0]⟩ := tyOk_mk (z := .agg #[.int .i64 0, .int .i64 0, .int .i64 0, .slice none 0 0]) ⟨_, Try.underlying64, rfl⟩ (by kernel_rfl) rfl
theorem ty65 : TyOk Try.prog 65 ⟨.struct [(3, 0), (3, 1), (61, 2), (56, 3)], 4, 48, [.int .i64 0, .int .i64 0, .int .i64 0, .slice none 0 0]⟩ := tyOk_mk (z := .agg #[.int .i64 0, .int .i64 0, .int .i64 0, .slice none 0 0]) ⟨_, Try.underlying65, rfl⟩ (by kernel_rfl) rfl
theorem ty66 : TyOk Try.prog 66 ⟨.func, 1, 8, [.nilFunc]⟩ := tyOk_mk (z := .nilFunc) ⟨_, _, _, Try.underlying66⟩ (by kernel_rfl) rfl
theorem ty68 : TyOk Try.prog 68 ⟨.func, 1, 8, [.nilFunc]⟩ := tyOk_mk (z := .nilFunc) ⟨_, _, _, Try.underlying68⟩ (by kernel_rfl) rfl
theorem ty69 : TyOk Try.prog 69 ⟨.func, 1, 8, [.nilFunc]⟩ := tyOk_mk (z := .nilFunc) ⟨_, _, _, Try.underlying69⟩ (by kernel_rfl) rfl
theorem ty70 : TyOk Try.prog 70 ⟨.func, 1, 8, [.nilFunc]⟩ := tyOk_mk (z := .nilFunc) ⟨_, _, _, Try.underlying70⟩ (by kernel_rfl) rfl
theorem ty71 : TyOk Try.prog 71 ⟨.func, 1, 8, [.nilFunc]⟩ := tyOk_mk (z := .nilFunc) ⟨_, _, _, Try.underlying71⟩ (by kernel_rfl) rfl
theorem ty72 : TyOk Try.prog 72 ⟨.slice 77, 1, 24, [.slice none 0 0]⟩ := tyOk_mk (z := .slice none 0 0) Try.underlying72 (by kernel_rfl) rfl
theorem ty73 : TyOk Try.prog 73 ⟨.func, 1, 8, [.nilFunc]⟩ := tyOk_mk (z := .nilFunc) ⟨_, _, _, Try.underlying73⟩ (by kernel_rfl) rfl
theorem ty74 : TyOk Try.prog 74 ⟨.slice 75, 1, 24, [.slice none 0 0]⟩ := tyOk_mk (z := .slice none 0 0) Try.underlying74 (by kernel_rfl) rfl
theorem ty75 : TyOk Try.prog 75 ⟨.slice 81, 1, 24, [.slice none 0 0]⟩ := tyOk_mk (z := .slice none 0 0) Try.underlying75 (by kernel_rfl) rfl
theorem ty76 : TyOk Try.prog 76 ⟨.func, 1, 8, [.nilFunc]⟩ := tyOk_mk (z := .nilFunc) ⟨_, _, _, Try.underlying76⟩ (by kernel_rfl) rfl
theorem ty77 : TyOk Try.prog 77 ⟨.slice 82, 1, 24, [.slice none 0 0]⟩ := tyOk_mk (z := .slice none 0 0) Try.underlying77 (by kernel_rfl) rfl
theorem ty78 : TyOk Try.prog 78 ⟨.func, 1, 8, [.nilFunc]⟩ := tyOk_mk (z := .nilFunc) ⟨_, _, _, Try.underlying78⟩ (by kernel_rfl) rfl
theorem ty79 : TyOk Try.prog 79 ⟨.func, 1, 8, [.nilFunc]⟩ := tyOk_mk (z := .nilFunc) ⟨_, _, _, Try.underlying79⟩ (by kernel_rfl) rfl
theorem ty80 : TyOk Try.prog 80 ⟨.struct [(38, 0), (3, 3)], 4, 32, [.int .i64 0, .int .i64 0, .int .i64 0, .int .i64 0]⟩ := tyOk_mk (z := .agg #[.int .i64 0, .int .i64 0, .int .i64 0, .int .i64 0]) ⟨_, Try.underlying80, rfl⟩ (by kernel_rfl) rfl
theorem ty81 : TyOk Try.prog 81 ⟨.struct [(38, 0), (3, 3)], 4, 32, [.int .i64 0, .int .i64 0, .int .i64 0, .int .i64 0]⟩ := tyOk_mk (z := .agg #[.int .i64 0, .int .i64 0, .int .i64 0, .int .i64 0]) ⟨_, Try.underlying81, rfl⟩ (by kernel_rfl) rfl
theorem ty82 : TyOk Try.prog 82 ⟨.struct [(38, 0), (3, 3)], 4, 32, [.int .i64 0, .int .i64 0, .int .i64 0, .int .i64 0]⟩ := tyOk_mk (z := .agg #[.int .i64 0, .int .i64 0, .int .i64 0, .int .i64 0]) ⟨_, Try.underlying82, rfl⟩ (by kernel_rfl) rfl
theorem ty83 : TyOk Try.prog 83 ⟨.slice 3, 1, 24, [.slice none 0 0]⟩ := tyOk_mk (z := .slice none 0 0) Try.underlying83 (by kernel_rfl) rfl
theorem ty85 : TyOk Try.prog 85 ⟨.func, 1, 8, [.nilFunc]⟩ := tyOk_mk (z := .nilFunc) ⟨_, _, _, Try.underlying85⟩ (by kernel_rfl) rfl
theorem ty86 : TyOk Try.prog 86 ⟨.func, 1, 8, [.nilFunc]⟩ := tyOk_mk (z := .nilFunc) ⟨_, _, _, Try.underlying86⟩ (by kernel_rfl) rfl
theorem ty87 : TyOk Try.prog 87 ⟨.slice 95, 1, 24, [.slice none 0 0]⟩ := tyOk_mk (z := .slice none 0 0) Try.underlying87 (by kernel_rfl) rfl
theorem ty88 : TyOk Try.prog 88 ⟨.ptr 91, 1, 8, [.pointer none]⟩ := tyOk_mk (z := .pointer none) Try.underlying88 (by kernel_rfl) rfl
theorem ty89 : TyOk Try.prog 89 ⟨.map 38 3, 1, 8, [.map none]⟩ := tyOk_mk (z := .map none) Try.underlying89 (by kernel_rfl) rfl
theorem ty90 : TyOk Try.prog 90 ⟨.struct [(89, 0)], 1, 8, [.map none]⟩ := tyOk_mk (z := .agg #[.map none]) ⟨_, Try.underlying90, rfl⟩ (by kernel_rfl) rfl
theorem ty91 : TyOk Try.prog 91 ⟨.struct [(89, 0)], 1, 8, [.map none]⟩ := tyOk_mk (z := .agg #[.map none]) ⟨_, Try.underlying91, rfl⟩ (by kernel_rfl) rfl
theorem ty92 : TyOk Try.prog 92 ⟨.ptr 94, 1, 8, [.pointer none]⟩ := tyOk_mk (z := .pointer none) Try.underlying92 (by kernel_rfl) rfl
theorem ty93 : TyOk Try.prog 93 ⟨.struct [(77, 0)], 1, 24, [.slice none 0 0]⟩ := tyOk_mk (z := .agg #[.slice none 0 0]) ⟨_, Try.underlying93, rfl⟩ (by kernel_rfl) rfl
theorem ty94 : TyOk Try.prog 94 ⟨.struct [(77, 0)], 1, 24, [.slice none 0 0]⟩ := tyOk_mk (z := .agg #[.slice none 0 0]) ⟨_, Try.underlying94, rfl⟩ (by kernel_rfl) rfl
theorem ty95 : TyOk Try.prog 95 ⟨.struct [(38, 0), (3, 3)], 4, 32, [.int .i64 0, .int .i64 0, .int .i64 0, .int .i64 0]⟩ := tyOk_mk (z := .agg #[.int .i64 0, .int .i64 0, .int .i64 0, .int .i64 0]) ⟨_, Try.underlying95, rfl⟩ (by kernel_rfl) rfl
theorem ty96 : TyOk Try.prog 96 ⟨.func, 1, 8, [.nilFunc]⟩ := tyOk_mk (z := .nilFunc) ⟨_, _, _, Try.underlying96⟩ (by kernel_rfl) rfl
theorem ty97 : TyOk Try.prog 97 ⟨.func, 1, 8, [.nilFunc]⟩ := tyOk_mk (z := .nilFunc) ⟨_, _, _, Try.underlying97⟩ (by kernel_rfl) rfl
theorem ty98 : TyOk Try.prog 98 ⟨.slice 38, 1, 24, [.slice none 0 0]⟩ := tyOk_mk (z := .slice none 0 0) Try.underlying98 (by kernel_rfl) rfl
theorem ty99 : TyOk Try.prog 99 ⟨.func, 1, 8, [.nilFunc]⟩ := tyOk_mk (z := .nilFunc) ⟨_, _, _, Try.underlying99⟩ (by kernel_rfl) rfl
theorem ty100 : TyOk Try.prog 100 ⟨.func, 1, 8, [.nilFunc]⟩ := tyOk_mk (z := .nilFunc) ⟨_, _, _, Try.underlying100⟩ (by kernel_rfl) rfl
theorem ty101 : TyOk Try.prog 101 ⟨.func, 1, 8, [.nilFunc]⟩ := tyOk_mk (z := .nilFunc) ⟨_, _, _, Try.underlying101⟩ (by kernel_rfl) rfl
theorem ty102 : TyOk Try.prog 102 ⟨.func, 1, 8, [.nilFunc]⟩ := tyOk_mk (z := .nilFunc) ⟨_, _, _, Try.underlying102⟩ (by kernel_rfl) rfl
theorem ty103 : TyOk Try.prog 103 ⟨.func, 1, 8, [.nilFunc]⟩ := tyOk_mk (z := .nilFunc) ⟨_, _, _, Try.underlying103⟩ (by kernel_rfl) rfl
theorem ty104 : TyOk Try.prog 104 ⟨.func, 1, 8, [.nilFunc]⟩ := tyOk_mk (z := .nilFunc) ⟨_, _, _, Try.underlying104⟩ (by kernel_rfl) rfl
theorem ty105 : TyOk Try.prog 105 ⟨.func, 1, 8, [.nilFunc]⟩ := tyOk_mk (z := .nilFunc) ⟨_, _, _, Try.underlying105⟩ (by kernel_rfl) rfl
theorem ty106 : TyOk Try.prog 106 ⟨.func, 1, 8, [.nilFunc]⟩ := tyOk_mk (z := .nilFunc) ⟨_, _, _, Try.underlying106⟩ (by kernel_rfl) rfl
theorem ty107 : TyOk Try.prog 107 ⟨.func, 1, 8, [.nilFunc]⟩ := tyOk_mk (z := .nilFunc) ⟨_, _, _, Try.underlying107⟩ (by kernel_rfl) rfl
theorem ty108 : TyOk Try.prog 108 ⟨.func, 1, 8, [.nilFunc]⟩ := tyOk_mk (z := .nilFunc) ⟨_, _, _, Try.underlying108⟩ (by kernel_rfl) rfl
theorem ty109 : TyOk Try.prog 109 ⟨.slice 56, 1, 24, [.slice none 0 0]⟩ := tyOk_mk (z := .slice none 0 0) Try.underlying109 (by kernel_rfl) rfl
theorem ty110 : TyOk Try.prog 110 ⟨.func, 1, 8, [.nilFunc]⟩ := tyOk_mk (z := .nilFunc) ⟨_, _, _, Try.underlying110⟩ (by kernel_rfl) rfl
theorem ty111 : TyOk Try.prog 111 ⟨.func, 1, 8, [.nilFunc]⟩ := tyOk_mk (z := .nilFunc) ⟨_, _, _, Try.underlying111⟩ (by kernel_rfl) rfl
theorem ty112 : TyOk Try.prog 112 ⟨.func, 1, 8, [.nilFunc]⟩ := tyOk_mk (z := .nilFunc) ⟨_, _, _, Try.underlying112⟩ (by kernel_rfl) rfl
theorem ty113 : TyOk Try.prog 113 ⟨.func, 1, 8, [.nilFunc]⟩ := tyOk_mk (z := .nilFunc) ⟨_, _, _, Try.underlying113⟩ (by kernel_rfl) rfl
theorem ty114 : TyOk Try.prog 114 ⟨.func, 1, 8, [.nilFunc]⟩ := tyOk_mk (z := .nilFunc) ⟨_, _, _, Try.underlying114⟩ (by kernel_rfl) rfl
theorem ty115 : TyOk Try.prog 115 ⟨.slice 9, 1, 24, [.slice none 0 0]⟩ := tyOk_mk (z := .slice none 0 0) Try.underlying115 (by kernel_rfl) rfl
theorem ty116 : TyOk Try.prog 116 ⟨.func, 1, 8, [.nilFunc]⟩ := tyOk_mk (z := .nilFunc) ⟨_, _, _, Try.underlying116⟩ (by kernel_rfl) rfl
theorem ty117 : TyOk Try.prog 117 ⟨.func, 1, 8, [.nilFunc]⟩ := tyOk_mk (z := .nilFunc) ⟨_, _, _, Try.underlying117⟩ (by kernel_rfl) rfl
theorem ty118 : TyOk Try.prog 118 ⟨.func, 1, 8, [.nilFunc]⟩ := tyOk_mk (z := .nilFunc) ⟨_, _, _, Try.underlying118⟩ (by kernel_rfl) rfl
theorem ty119 : TyOk Try.prog 119 ⟨.struct [(25, 0), (23, 3)], 6, 64, [.string ByteArray.empty, .int .i64 0, .int .i64 0, .int .i64 0, .int .i64 0, .string ByteArray.empty]⟩ := tyOk_mk (z := .agg #[.string ByteArray.empty, .int .i64 0, .int .i64 0, .int .i64 0, .int .i64 0, .string ByteArray.empty]) ⟨_, Try.underlying119, rfl⟩ (by kernel_rfl) rfl
theorem ty120 : TyOk Try.prog 120 ⟨.struct [(25, 0), (23, 3)], 6, 64, [.string ByteArray.empty, .int .i64 0, .int .i64 0, .int .i64 0, .int .i64 0, .string ByteArray.empty]⟩ := tyOk_mk (z := .agg #[.string ByteArray.empty, .int .i64 0, .int .i64 0, .int .i64 0, .int .i64 0, .string ByteArray.empty]) ⟨_, Try.underlying120, rfl⟩ (by kernel_rfl) rfl
theorem ty121 : TyOk Try.prog 121 ⟨.func, 1, 8, [.nilFunc]⟩ := tyOk_mk (z := .nilFunc) ⟨_, _, _, Try.underlying121⟩ (by kernel_rfl) rfl
theorem ty122 : TyOk Try.prog 122 ⟨.func, 1, 8, [.nilFunc]⟩ := tyOk_mk (z := .nilFunc) ⟨_, _, _, Try.underlying122⟩ (by kernel_rfl) rfl
theorem ty123 : TyOk Try.prog 123 ⟨.func, 1, 8, [.nilFunc]⟩ := tyOk_mk (z := .nilFunc) ⟨_, _, _, Try.underlying123⟩ (by kernel_rfl) rfl
theorem ty124 : TyOk Try.prog 124 ⟨.slice 154, 1, 24, [.slice none 0 0]⟩ := tyOk_mk (z := .slice none 0 0) Try.underlying124 (by kernel_rfl) rfl
theorem ty125 : TyOk Try.prog 125 ⟨.func, 1, 8, [.nilFunc]⟩ := tyOk_mk (z := .nilFunc) ⟨_, _, _, Try.underlying125⟩ (by kernel_rfl) rfl
theorem ty126 : TyOk Try.prog 126 ⟨.ptr 207, 1, 8, [.pointer none]⟩ := tyOk_mk (z := .pointer none) Try.underlying126 (by kernel_rfl) rfl
theorem ty127 : TyOk Try.prog 127 ⟨.func, 1, 8, [.nilFunc]⟩ := tyOk_mk (z := .nilFunc) ⟨_, _, _, Try.underlying127⟩ (by kernel_rfl) rfl
theorem ty128 : TyOk Try.prog 128 ⟨.ptr 212, 1, 8, [.pointer none]⟩ := tyOk_mk (z := .pointer none) Try.underlying128 (by kernel_rfl) rfl
theorem ty129 : TyOk Try.prog 129 ⟨.func, 1, 8, [.nilFunc]⟩ := tyOk_mk (z := .nilFunc) ⟨_, _, _, Try.underlying129⟩ (by kernel_rfl) rfl
theorem ty130 : TyOk Try.prog 130 ⟨.func, 1, 8, [.nilFunc]⟩ := tyOk_mk (z := .nilFunc) ⟨_, _, _, Try.underlying130⟩ (by kernel_rfl) rfl
theorem ty131 : TyOk Try.prog 131 ⟨.func, 1, 8, [.nilFunc]⟩ := tyOk_mk (z := .nilFunc) ⟨_, _, _, Try.underlying131⟩ (by kernel_rfl) rfl
theorem ty132 : TyOk Try.prog 132 ⟨.func, 1, 8, [.nilFunc]⟩ := tyOk_mk (z := .nilFunc) ⟨_, _, _, Try.underlying132⟩ (by kernel_rfl) rfl
theorem ty133 : TyOk Try.prog 133 ⟨.func, 1, 8, [.nilFunc]⟩ := tyOk_mk (z := .nilFunc) ⟨_, _, _, Try.underlying133⟩ (by kernel_rfl) rfl
theorem ty134 : TyOk Try.prog 134 ⟨.func, 1, 8, [.nilFunc]⟩ := tyOk_mk (z := .nilFunc) ⟨_, _, _, Try.underlying134⟩ (by kernel_rfl) rfl
theorem ty135 : TyOk Try.prog 135 ⟨.func, 1, 8, [.nilFunc]⟩ := tyOk_mk (z := .nilFunc) ⟨_, _, _, Try.underlying135⟩ (by kernel_rfl) rfl
theorem ty136 : TyOk Try.prog 136 ⟨.slice 141, 1, 24, [.slice none 0 0]⟩ := tyOk_mk (z := .slice none 0 0) Try.underlying136 (by kernel_rfl) rfl
theorem ty137 : TyOk Try.prog 137 ⟨.ptr 139, 1, 8, [.pointer none]⟩ := tyOk_mk (z := .pointer none) Try.underlying137 (by kernel_rfl) rfl
theorem ty138 : TyOk Try.prog 138 ⟨.struct [(4, 0), (55, 1), (56, 7), (4, 8), (57, 9)], 10, 128, [.bool false, .string ByteArray.empty, .int .i64 0, .int .i64 0, .string ByteArray.empty, .int .i64 0, .int .i64 0, .slice none 0 0, .bool false, .slice none 0 0]⟩ := tyOk_mk (z := .agg #[.bool false, .string ByteArray.empty, .int .i64 0, .int .i64 0, .string ByteArray.empty, .int .i64 0, .int .i64 0, .slice none 0 0, .bool false, .slice none 0 0]) ⟨_, Try.underlying138, rfl⟩ (by kernel_rfl) rfl
theorem ty139 : TyOk Try.prog 139 ⟨.struct [(4, 0), (55, 1), (56, 7), (4, 8), (57, 9)], 10, 128, [.bool false, .string ByteArray.empty, .int .i64 0, .int .i64 0, .string ByteArray.empty, .int .i64 0, .int .i64 0, .slice none 0 0, .bool false, .slice none 0 0]⟩ := tyOk_mk (z := .agg #[.bool false, .string ByteArray.empty, .int .i64 0, .int .i64 0, .string ByteArray.empty, .int .i64 0, .int .i64 0, .slice none 0 0, .bool false, .slice none 0 0]) ⟨_, Try.underlying139, rfl⟩ (by kernel_rfl) rfl
theorem ty140 : TyOk Try.prog 140 ⟨.struct [(3, 0), (3, 1), (55, 2), (65, 8), (56, 12)], 13, 152, [.int .i64 0, .int .i64 0, .string ByteArray.empty, .int .i64 0, .int .i64 0, .string ByteArray.empty, .int .i64 0, .int .i64 0, .int .i64 0, .int .i64 0, .int .i64 0, .slice none 0 0, .slice none 0 0]⟩ := tyOk_mk (z := .agg #[.int .i64 0, .int .i64 0, .string ByteArray.empty, .int .i64 0, .int .i64 0, .string ByteArray.empty, .int .i64 0, .int .i64 0, .int .i64 0, .int .i64 0, .int .i64 0, .slice none 0 0, .slice none 0 0]) ⟨_, Try.underlying140, rfl⟩ (by kernel_rfl) rfl
theorem ty141 : TyOk Try.prog 141 ⟨.struct [(3, 0), (3, 1), (55, 2), (65, 8), (56, 12)], 13, 152, [.int .i64 0, .int .i64 0, .string ByteArray.empty, .int .i64 0, .int .i64 0, .string ByteArray.empty, .int .i64 0, .int .i64 0, .int .i64 0, .int .i64 0, .int .i64 0, .slice none 0 0, .slice none 0 0]⟩ := tyOk_mk (z := .agg #[.int .i64 0, .int .i64 0, .string ByteArray.empty, .int .i64 0, .int .i64 0, .string ByteArray.empty, .int .i64 0, .int .i64 0, .int .i64 0, .int .i64 0, .int .i64 0, .slice none 0 0, .slice none 0 0]) ⟨_, Try.underlying141, rfl⟩ (by kernel_rfl) rfl
theorem ty142 : TyOk Try.prog 142 ⟨.func, 1, 8, [.nilFunc]⟩ := tyOk_mk (z := .nilFunc) ⟨_, _, _, Try.underlying142⟩ (by kernel_rfl) rfl
theorem ty143 : TyOk Try.prog 143 ⟨.func, 1, 8, [.nilFunc]⟩ := tyOk_mk (z := .nilFunc) ⟨_, _, _, Try.underlying143⟩ (by kernel_rfl) rfl
theorem ty144 : TyOk Try.prog 144 ⟨.func, 1, 8, [.nilFunc]⟩ := tyOk_mk (z := .nilFunc) ⟨_, _, _, Try.underlying144⟩ (by kernel_rfl) rfl
theorem ty145 : TyOk Try.prog 145 ⟨.func, 1, 8, [.nilFunc]⟩ := tyOk_mk (z := .nilFunc) ⟨_, _, _, Try.underlying145⟩ (by kernel_rfl) rfl
theorem ty146 : TyOk Try.prog 146 ⟨.slice 151, 1, 24, [.slice none 0 0]⟩ := tyOk_mk (z := .slice none 0 0) Try.underlying146 (by kernel_rfl) rfl
theorem ty147 : TyOk Try.prog 147 ⟨.func, 1, 8, [.nilFunc]⟩ := tyOk_mk (z := .nilFunc) ⟨_, _, _, Try.underlying147⟩ (by kernel_rfl) rfl
theorem ty148 : TyOk Try.prog 148 ⟨.slice 152, 1, 24, [.slice none 0 0]⟩ := tyOk_mk (z := .slice none 0 0) Try.underlying148 (by kernel_rfl) rfl
theorem ty149 : TyOk Try.prog 149 ⟨.func, 1, 8, [.nilFunc]⟩ := tyOk_mk (z := .nilFunc) ⟨_, _, _, Try.underlying149⟩ (by kernel_rfl) rfl
theorem ty150 : TyOk Try.prog 150 ⟨.struct [(44, 0), (4, 1)], 2, 32, [.slice none 0 0, .bool false]⟩ := tyOk_mk (z := .agg #[.slice none 0 0, .bool false]) ⟨_, Try.underlying150, rfl⟩ (by kernel_rfl) rfl
theorem ty151 : TyOk Try.prog 151 ⟨.struct [(44, 0), (4, 1)], 2, 32, [.slice none 0 0, .bool false]⟩ := tyOk_mk (z := .agg #[.slice none 0 0, .bool false]) ⟨_, Try.underlying151, rfl⟩ (by kernel_rfl) rfl
theorem ty152 : TyOk Try.prog 152 ⟨.struct [(44, 0), (4, 1)], 2, 32, [.slice none 0 0, .bool false]⟩ := tyOk_mk (z := .agg #[.slice none 0 0, .bool false]) ⟨_, Try.underlying152, rfl⟩ (by kernel_rfl) rfl
theorem ty153 : TyOk Try.prog 153 ⟨.struct [(25, 0), (4, 3), (28, 4), (23, 17)], 20, 232, [.string ByteArray.empty, .int .i64 0, .int .i64 0, .bool false, .int .i64 0, .string ByteArray.empty, .string ByteArray.empty, .int .i64 0, .int .i64 0, .string ByteArray.empty, .string ByteArray.empty, .int .i64 0, .int .i64 0, .string ByteArray.empty, .int .i64 0, .int .i64 0, .slice none 0 0, .int .i64 0, .int .i64 0, .string ByteArray.empty]⟩ := tyOk_mk (z := .agg #[.string ByteArray.empty, .int .i64 0, .int .i64 0, .bool false, .int .i64 0, .string ByteArray.empty, .string ByteArray.empty, .int .i64 0, .int .i64 0, .string ByteArray.empty, .string ByteArray.empty, .int .i64 0, .int .i64 0, .string ByteArray.empty, .int .i64 0, .int .i64 0, .slice none 0 0, .int .i64 0, .int .i64 0, .string ByteArray.empty]) ⟨_, Try.underlying153, rfl⟩ (by kernel_rfl) rfl
theorem ty154 : TyOk Try.prog 154 ⟨.struct [(25, 0), (4, 3), (28, 4), (23, 17)], 20, 232, [.string ByteArray.empty, .int .i64 0, .int .i64 0, .bool false, .int .i64 0, .string ByteArray.empty, .string ByteArray.empty, .int .i64 0, .int .i64 0, .string ByteArray.empty, .string ByteArray.empty, .int .i64 0, .int .i64 0, .string ByteArray.empty, .int .i64 0, .int .i64 0, .slice none 0 0, .int .i64 0, .int .i64 0, .string ByteArray.empty]⟩ := tyOk_mk (z := .agg #[.string ByteArray.empty, .int .i64 0, .int .i64 0, .bool false, .int .i64 0, .string ByteArray.empty, .string ByteArray.empty, .int .i64 0, .int .i64 0, .string ByteArray.empty, .string ByteArray.empty, .int .i64 0, .int .i64 0, .string ByteArray.empty, .int .i64 0, .int .i64 0, .slice none 0 0, .int .i64 0, .int .i64 0, .string ByteArray.empty]) ⟨_, Try.underlying154, rfl⟩ (by kernel_rfl) rfl
theorem ty155 : TyOk Try.prog 155 ⟨.func, 1, 8, [.nilFunc]⟩ := tyOk_mk (z := .nilFunc) ⟨_, _, _, Try.underlying155⟩ (by kernel_rfl) rfl
theorem ty156 : TyOk Try.prog 156 ⟨.int .u64, 1, 8, [.int .u64 0]⟩ := tyOk_mk (z := .int .u64 0) Try.underlying156 (by kernel_rfl) rfl
theorem ty157 : TyOk Try.prog 157 ⟨.func, 1, 8, [.nilFunc]⟩ := tyOk_mk (z := .nilFunc) ⟨_, _, _, Try.underlying157⟩ (by kernel_rfl) rfl
theorem ty158 : TyOk Try.prog 158 ⟨.func, 1, 8, [.nilFunc]⟩ := tyOk_mk (z := .nilFunc) ⟨_, _, _, Try.underlying158⟩ (by kernel_rfl) rfl
theorem ty159 : TyOk Try.prog 159 ⟨.func, 1, 8, [.nilFunc]⟩ := tyOk_mk (z := .nilFunc) ⟨_, _, _, Try.underlying159⟩ (by kernel_rfl) rfl
theorem ty160 : TyOk Try.prog 160 ⟨.func, 1, 8, [.nilFunc]⟩ := tyOk_mk (z := .nilFunc) ⟨_, _, _, Try.underlying160⟩ (by kernel_rfl) rfl
theorem ty161 : TyOk Try.prog 161 ⟨.func, 1, 8, [.nilFunc]⟩ := tyOk_mk (z := .nilFunc) ⟨_, _, _, Try.underlying161⟩ (by kernel_rfl) rfl
theorem ty162 : TyOk Try.prog 162 ⟨.func, 1, 8, [.nilFunc]⟩ := tyOk_mk (z := .nilFunc) ⟨_, _, _, Try.underlying162⟩ (by kernel_rfl) rfl
theorem ty163 : TyOk Try.prog 163 ⟨.func, 1, 8, [.nilFunc]⟩ := tyOk_mk (z := .nilFunc) ⟨_, _, _, Try.underlying163⟩ (by kernel_rfl) rfl
theorem ty164 : TyOk Try.prog 164 ⟨.func, 1, 8, [.nilFunc]⟩ := tyOk_mk (z := .nilFunc) ⟨_, _, _, Try.underlying164⟩ (by kernel_rfl) rfl
theorem ty165 : TyOk Try.prog 165 ⟨.slice 5, 1, 24, [.slice none 0 0]⟩ := tyOk_mk (z := .slice none 0 0) Try.underlying165 (by kernel_rfl) rfl
theorem ty166 : TyOk Try.prog 166 ⟨.func, 1, 8, [.nilFunc]⟩ := tyOk_mk (z := .nilFunc) ⟨_, _, _, Try.underlying166⟩ (by kernel_rfl) rfl
theorem ty167 : TyOk Try.prog 167 ⟨.func, 1, 8, [.nilFunc]⟩ := tyOk_mk (z := .nilFunc) ⟨_, _, _, Try.underlying167⟩ (by kernel_rfl) rfl
theorem ty168 : TyOk Try.prog 168 ⟨.int .u64, 1, 8, [.int .u64 0]⟩ := tyOk_mk (z := .int .u64 0) Try.underlying168 (by kernel_rfl) rfl
theorem ty169 : TyOk Try.prog 169 ⟨.func, 1, 8, [.nilFunc]⟩ := tyOk_mk (z := .nilFunc) ⟨_, _, _, Try.underlying169⟩ (by kernel_rfl) rfl
theorem ty170 : TyOk Try.prog 170 ⟨.func, 1, 8, [.nilFunc]⟩ := tyOk_mk (z := .nilFunc) ⟨_, _, _, Try.underlying170⟩ (by kernel_rfl) rfl
theorem ty171 : TyOk Try.prog 171 ⟨.func, 1, 8, [.nilFunc]⟩ := tyOk_mk (z := .nilFunc) ⟨_, _, _, Try.underlying171⟩ (by kernel_rfl) rfl
theorem ty172 : TyOk Try.prog 172 ⟨.func, 1, 8, [.nilFunc]⟩ := tyOk_mk (z := .nilFunc) ⟨_, _, _, Try.underlying172⟩ (by kernel_rfl) rfl
theorem ty173 : TyOk Try.prog 173 ⟨.arr 2 3, 2, 16, [.int .i64 0, .int .i64 0]⟩ := tyOk_mk (z := .agg #[.int .i64 0, .int .i64 0]) Try.underlying173 (by kernel_rfl) rfl
theorem ty174 : TyOk Try.prog 174 ⟨.slice 173, 1, 24, [.slice none 0 0]⟩ := tyOk_mk (z := .slice none 0 0) Try.underlying174 (by kernel_rfl) rfl
theorem ty175 : TyOk Try.prog 175 ⟨.func, 1, 8, [.nilFunc]⟩ := tyOk_mk (z := .nilFunc) ⟨_, _, _, Try.underlying175⟩ (by kernel_rfl) rfl
theorem ty176 : TyOk Try.prog 176 ⟨.func, 1, 8, [.nilFunc]⟩ := tyOk_mk (z := .nilFunc) ⟨_, _, _, Try.underlying176⟩ (by kernel_rfl) rfl
theorem ty177 : TyOk Try.prog 177 ⟨.func, 1, 8, [.nilFunc]⟩ := tyOk_mk (z := .nilFunc) ⟨_, _, _, Try.underlying177⟩ (by kernel_rfl) rfl
theorem ty178 : TyOk Try.prog 178 ⟨.func, 1, 8, [.nilFunc]⟩ := tyOk_mk (z := .nilFunc) ⟨_, _, _, Try.underlying178⟩ (by kernel_rfl) rfl
theorem ty179 : TyOk Try.prog 179 ⟨.ptr 182, 1, 8, [.pointer none]⟩ := tyOk_mk (z := .pointer none) Try.underlying179 (by kernel_rfl) rfl
theorem ty180 : TyOk Try.prog 180 ⟨.map 25 23, 1, 8, [.map none]⟩ := tyOk_mk (z := .map none) Try.underlying180 (by kernel_rfl) rfl
theorem ty181 : TyOk Try.prog 181 ⟨.struct [(180, 0), (3, 1)], 2, 16, [.map none, .int .i64 0]⟩ := tyOk_mk (z := .agg #[.map none, .int .i64 0]) ⟨_, Try.underlying181, rfl⟩ (by kernel_rfl) rfl
theorem ty182 : TyOk Try.prog 182 ⟨.struct [(180, 0), (3, 1)], 2, 16, [.map none, .int .i64 0]⟩ := tyOk_mk (z := .agg #[.map none, .int .i64 0]) ⟨_, Try.underlying182, rfl⟩ (by kernel_rfl) rfl
theorem ty183 : TyOk Try.prog 183 ⟨.func, 1, 8, [.nilFunc]⟩ := tyOk_mk (z := .nilFunc) ⟨_, _, _, Try.underlying183⟩ (by kernel_rfl) rfl
theorem ty184 : TyOk Try.prog 184 ⟨.func, 1, 8, [.nilFunc]⟩ := tyOk_mk (z := .nilFunc) ⟨_, _, _, Try.underlying184⟩ (by kernel_rfl) rfl
theorem ty185 : TyOk Try.prog 185 ⟨.func, 1, 8, [.nilFunc]⟩ := tyOk_mk (z := .nilFunc) ⟨_, _, _, Try.underlying185⟩ (by kernel_rfl) rfl
theorem ty186 : TyOk Try.prog 186 ⟨.func, 1, 8, [.nilFunc]⟩ := tyOk_mk (z := .nilFunc) ⟨_, _, _, Try.underlying186⟩ (by kernel_rfl) rfl
theorem ty187 : TyOk Try.prog 187 ⟨.func, 1, 8, [.nilFunc]⟩ := tyOk_mk (z := .nilFunc) ⟨_, _, _, Try.underlying187⟩ (by kernel_rfl) rfl
theorem ty188 : TyOk Try.prog 188 ⟨.func, 1, 8, [.nilFunc]⟩ := tyOk_mk (z := .nilFunc) ⟨_, _, _, Try.underlying188⟩ (by kernel_rfl) rfl
theorem ty189 : TyOk Try.prog 189 ⟨.func, 1, 8, [.nilFunc]⟩ := tyOk_mk (z := .nilFunc) ⟨_, _, _, Try.underlying189⟩ (by kernel_rfl) rfl
theorem ty190 : TyOk Try.prog 190 ⟨.map 25 4, 1, 8, [.map none]⟩ := tyOk_mk (z := .map none) Try.underlying190 (by kernel_rfl) rfl
theorem ty191 : TyOk Try.prog 191 ⟨.func, 1, 8, [.nilFunc]⟩ := tyOk_mk (z := .nilFunc) ⟨_, _, _, Try.underlying191⟩ (by kernel_rfl) rfl
theorem ty192 : TyOk Try.prog 192 ⟨.func, 1, 8, [.nilFunc]⟩ := tyOk_mk (z := .nilFunc) ⟨_, _, _, Try.underlying192⟩ (by kernel_rfl) rfl
theorem ty194 : TyOk Try.prog 194 ⟨.func, 1, 8, [.nilFunc]⟩ := tyOk_mk (z := .nilFunc) ⟨_, _, _, Try.underlying194⟩ (by kernel_rfl) rfl
theorem ty195 : TyOk Try.prog 195 ⟨.func, 1, 8, [.nilFunc]⟩ := tyOk_mk (z := .nilFunc) ⟨_, _, _, Try.underlying195⟩ (by kernel_rfl) rfl
theorem ty197 : TyOk Try.prog 197 ⟨.func, 1, 8, [.nilFunc]⟩ := tyOk_mk (z := .nilFunc) ⟨_, _, _, Try.underlying197⟩ (by kernel_rfl) rfl
theorem ty198 : TyOk Try.prog 198 ⟨.func, 1, 8, [.nilFunc]⟩ := tyOk_mk (z := .nilFunc) ⟨_, _, _, Try.underlying198⟩ (by kernel_rfl) rfl
theorem ty199 : TyOk Try.prog 199 ⟨.func, 1, 8, [.nilFunc]⟩ := tyOk_mk (z := .nilFunc) ⟨_, _, _, Try.underlying199⟩ (by kernel_rfl) rfl
theorem ty200 : TyOk Try.prog 200 ⟨.func, 1, 8, [.nilFunc]⟩ := tyOk_mk (z := .nilFunc) ⟨_, _, _, Try.underlying200⟩ (by kernel_rfl) rfl
theorem ty201 : TyOk Try.prog 201 ⟨.func, 1, 8, [.nilFunc]⟩ := tyOk_mk (z := .nilFunc) ⟨_, _, _, Try.underlying201⟩ (by kernel_rfl) rfl
theorem ty202 : TyOk Try.prog 202 ⟨.map 25 154, 1, 8, [.map none]⟩ := tyOk_mk (z := .map none) Try.underlying202 (by kernel_rfl) rfl
theorem ty203 : TyOk Try.prog 203 ⟨.func, 1, 8, [.nilFunc]⟩ := tyOk_mk (z := .nilFunc) ⟨_, _, _, Try.underlying203⟩ (by kernel_rfl) rfl
theorem ty204 : TyOk Try.prog 204 ⟨.func, 1, 8, [.nilFunc]⟩ := tyOk_mk (z := .nilFunc) ⟨_, _, _, Try.underlying204⟩ (by kernel_rfl) rfl
theorem ty205 : TyOk Try.prog 205 ⟨.map 25 44, 1, 8, [.map none]⟩ := tyOk_mk (z := .map none) Try.underlying205 (by kernel_rfl) rfl
theorem ty206 : TyOk Try.prog 206 ⟨.struct [(44, 0), (205, 1), (205, 2)], 3, 40, [.slice none 0 0, .map none, .map none]⟩ := tyOk_mk (z := .agg #[.slice none 0 0, .map none, .map none]) ⟨_, Try.underlying206, rfl⟩ (by kernel_rfl) rfl
theorem ty207 : TyOk Try.prog 207 ⟨.struct [(44, 0), (205, 1), (205, 2)], 3, 40, [.slice none 0 0, .map none, .map none]⟩ := tyOk_mk (z := .agg #[.slice none 0 0, .map none, .map none]) ⟨_, Try.underlying207, rfl⟩ (by kernel_rfl) rfl
theorem ty209 : TyOk Try.prog 209 ⟨.func, 1, 8, [.nilFunc]⟩ := tyOk_mk (z := .nilFunc) ⟨_, _, _, Try.underlying209⟩ (by kernel_rfl) rfl
theorem ty210 : TyOk Try.prog 210 ⟨.slice 44, 1, 24, [.slice none 0 0]⟩ := tyOk_mk (z := .slice none 0 0) Try.underlying210 (by kernel_rfl) rfl
theorem ty211 : TyOk Try.prog 211 ⟨.struct [(124, 0), (210, 1)], 2, 48, [.slice none 0 0, .slice none 0 0]⟩ := tyOk_mk (z := .agg #[.slice none 0 0, .slice none 0 0]) ⟨_, Try.underlying211, rfl⟩ (by kernel_rfl) rfl
theorem ty212 : TyOk Try.prog 212 ⟨.struct [(124, 0), (210, 1)], 2, 48, [.slice none 0 0, .slice none 0 0]⟩ := tyOk_mk (z := .agg #[.slice none 0 0, .slice none 0 0]) ⟨_, Try.underlying212, rfl⟩ (by kernel_rfl) rfl
theorem ty213 : TyOk Try.prog 213 ⟨.func, 1, 8, [.nilFunc]⟩ := tyOk_mk (z := .nilFunc) ⟨_, _, _, Try.underlying213⟩ (by kernel_rfl) rfl
theorem ty214 : TyOk Try.prog 214 ⟨.ptr 217, 1, 8, [.pointer none]⟩ := tyOk_mk (z := .pointer none) Try.underlying214 (by kernel_rfl) rfl
theorem ty215 : TyOk Try.prog 215 ⟨.map 25 3, 1, 8, [.map none]⟩ := tyOk_mk (z := .map none) Try.underlying215 (by kernel_rfl) rfl
theorem ty216 : TyOk Try.prog 216 ⟨.struct [(126, 0), (215, 1), (146, 2), (41, 3)], 4, 64, [.pointer none, .map none, .slice none 0 0, .slice none 0 0]⟩ := tyOk_mk (z := .agg #[.pointer none, .map none, .slice none 0 0, .slice none 0 0]) ⟨_, Try.underlying216, rfl⟩ (by kernel_rfl) rfl
theorem ty217 : TyOk Try.prog 217 ⟨.struct [(126, 0), (215, 1), (146, 2), (41, 3)], 4, 64, [.pointer none, .map none, .slice none 0 0, .slice none 0 0]⟩ := tyOk_mk (z := .agg #[.pointer none, .map none, .slice none 0 0, .slice none 0 0]) ⟨_, Try.underlying217, rfl⟩ (by kernel_rfl) rfl
theorem ty218 : TyOk Try.prog 218 ⟨.func, 1, 8, [.nilFunc]⟩ := tyOk_mk (z := .nilFunc) ⟨_, _, _, Try.underlying218⟩ (by kernel_rfl) rfl
theorem ty219 : TyOk Try.prog 219 ⟨.func, 1, 8, [.nilFunc]⟩ := tyOk_mk (z := .nilFunc) ⟨_, _, _, Try.underlying219⟩ (by kernel_rfl) rfl
theorem ty220 : TyOk Try.prog 220 ⟨.func, 1, 8, [.nilFunc]⟩ := tyOk_mk (z := .nilFunc) ⟨_, _, _, Try.underlying220⟩ (by kernel_rfl) rfl
theorem ty221 : TyOk Try.prog 221 ⟨.func, 1, 8, [.nilFunc]⟩ := tyOk_mk (z := .nilFunc) ⟨_, _, _, Try.underlying221⟩ (by kernel_rfl) rfl
theorem ty222 : TyOk Try.prog 222 ⟨.slice 165, 1, 24, [.slice none 0 0]⟩ := tyOk_mk (z := .slice none 0 0) Try.underlying222 (by kernel_rfl) rfl
theorem ty223 : TyOk Try.prog 223 ⟨.func, 1, 8, [.nilFunc]⟩ := tyOk_mk (z := .nilFunc) ⟨_, _, _, Try.underlying223⟩ (by kernel_rfl) rfl
theorem ty224 : TyOk Try.prog 224 ⟨.func, 1, 8, [.nilFunc]⟩ := tyOk_mk (z := .nilFunc) ⟨_, _, _, Try.underlying224⟩ (by kernel_rfl) rfl
theorem ty225 : TyOk Try.prog 225 ⟨.func, 1, 8, [.nilFunc]⟩ := tyOk_mk (z := .nilFunc) ⟨_, _, _, Try.underlying225⟩ (by kernel_rfl) rfl
theorem ty226 : TyOk Try.prog 226 ⟨.func, 1, 8, [.nilFunc]⟩ := tyOk_mk (z := .nilFunc) ⟨_, _, _, Try.underlying226⟩ (by kernel_rfl) rfl
theorem ty227 : TyOk Try.prog 227 ⟨.func, 1, 8, [.nilFunc]⟩ := tyOk_mk (z := .nilFunc) ⟨_, _, _, Try.underlying227⟩ (by kernel_rfl) rfl
theorem ty228 : TyOk Try.prog 228 ⟨.func, 1, 8, [.nilFunc]⟩ := tyOk_mk (z := .nilFunc) ⟨_, _, _, Try.underlying228⟩ (by kernel_rfl) rfl
theorem ty229 : TyOk Try.prog 229 ⟨.func, 1, 8, [.nilFunc]⟩ := tyOk_mk (z := .nilFunc) ⟨_, _, _, Try.underlying229⟩ (by kernel_rfl) rfl
theorem ty230 : TyOk Try.prog 230 ⟨.func, 1, 8, [.nilFunc]⟩ := tyOk_mk (z := .nilFunc) ⟨_, _, _, Try.underlying230⟩ (by kernel_rfl) rfl
theorem ty231 : TyOk Try.prog 231 ⟨.func, 1, 8, [.nilFunc]⟩ := tyOk_mk (z := .nilFunc) ⟨_, _, _, Try.underlying231⟩ (by kernel_rfl) rfl
theorem ty232 : TyOk Try.prog 232 ⟨.func, 1, 8, [.nilFunc]⟩ := tyOk_mk (z := .nilFunc) ⟨_, _, _, Try.underlying232⟩ (by kernel_rfl) rfl
theorem ty233 : TyOk Try.prog 233 ⟨.func, 1, 8, [.nilFunc]⟩ := tyOk_mk (z := .nilFunc) ⟨_, _, _, Try.underlying233⟩ (by kernel_rfl) rfl
theorem ty234 : TyOk Try.prog 234 ⟨.func, 1, 8, [.nilFunc]⟩ := tyOk_mk (z := .nilFunc) ⟨_, _, _, Try.underlying234⟩ (by kernel_rfl) rfl
theorem ty235 : TyOk Try.prog 235 ⟨.func, 1, 8, [.nilFunc]⟩ := tyOk_mk (z := .nilFunc) ⟨_, _, _, Try.underlying235⟩ (by kernel_rfl) rfl
theorem ty236 : TyOk Try.prog 236 ⟨.func, 1, 8, [.nilFunc]⟩ := tyOk_mk (z := .nilFunc) ⟨_, _, _, Try.underlying236⟩ (by kernel_rfl) rfl
theorem ty237 : TyOk Try.prog 237 ⟨.func, 1, 8, [.nilFunc]⟩ := tyOk_mk (z := .nilFunc) ⟨_, _, _, Try.underlying237⟩ (by kernel_rfl) rfl
theorem ty238 : TyOk Try.prog 238 ⟨.func, 1, 8, [.nilFunc]⟩ := tyOk_mk (z := .nilFunc) ⟨_, _, _, Try.underlying238⟩ (by kernel_rfl) rfl
theorem ty239 : TyOk Try.prog 239 ⟨.int .i64, 1, 8, [.int .i64 0]⟩ := tyOk_mk (z := .int .i64 0) Try.underlying239 (by kernel_rfl) rfl
theorem ty241 : TyOk Try.prog 241 ⟨.func, 1, 8, [.nilFunc]⟩ := tyOk_mk (z := .nilFunc) ⟨_, _, _, Try.underlying241⟩ (by kernel_rfl) rfl
theorem ty242 : TyOk Try.prog 242 ⟨.func, 1, 8, [.nilFunc]⟩ := tyOk_mk (z := .nilFunc) ⟨_, _, _, Try.underlying242⟩ (by kernel_rfl) rfl
theorem ty243 : TyOk Try.prog 243 ⟨.func, 1, 8, [.nilFunc]⟩ := tyOk_mk (z := .nilFunc) ⟨_, _, _, Try.underlying243⟩ (by kernel_rfl) rfl
theorem ty244 : TyOk Try.prog 244 ⟨.func, 1, 8, [.nilFunc]⟩ := tyOk_mk (z := .nilFunc) ⟨_, _, _, Try.underlying244⟩ (by kernel_rfl) rfl
theorem ty245 : TyOk Try.prog 245 ⟨.func, 1, 8, [.nilFunc]⟩ := tyOk_mk (z := .nilFunc) ⟨_, _, _, Try.underlying245⟩ (by kernel_rfl) rfl
theorem ty246 : TyOk Try.prog 246 ⟨.func, 1, 8, [.nilFunc]⟩ := tyOk_mk (z := .nilFunc) ⟨_, _, _, Try.underlying246⟩ (by kernel_rfl) rfl
theorem ty247 : TyOk Try.prog 247 ⟨.func, 1, 8, [.nilFunc]⟩ := tyOk_mk (z := .nilFunc) ⟨_, _, _, Try.underlying247⟩ (by kernel_rfl) rfl
theorem ty248 : TyOk Try.prog 248 ⟨.func, 1, 8, [.nilFunc]⟩ := tyOk_mk (z := .nilFunc) ⟨_, _, _, Try.underlying248⟩ (by kernel_rfl) rfl
theorem ty249 : TyOk Try.prog 249 ⟨.func, 1, 8, [.nilFunc]⟩ := tyOk_mk (z := .nilFunc) ⟨_, _, _, Try.underlying249⟩ (by kernel_rfl) rfl
theorem ty251 : TyOk Try.prog 251 ⟨.func, 1, 8, [.nilFunc]⟩ := tyOk_mk (z := .nilFunc) ⟨_, _, _, Try.underlying251⟩ (by kernel_rfl) rfl
theorem ty252 : TyOk Try.prog 252 ⟨.int .u64, 1, 8, [.int .u64 0]⟩ := tyOk_mk (z := .int .u64 0) Try.underlying252 (by kernel_rfl) rfl
theorem ty253 : TyOk Try.prog 253 ⟨.func, 1, 8, [.nilFunc]⟩ := tyOk_mk (z := .nilFunc) ⟨_, _, _, Try.underlying253⟩ (by kernel_rfl) rfl
theorem ty254 : TyOk Try.prog 254 ⟨.func, 1, 8, [.nilFunc]⟩ := tyOk_mk (z := .nilFunc) ⟨_, _, _, Try.underlying254⟩ (by kernel_rfl) rfl
theorem ty255 : TyOk Try.prog 255 ⟨.func, 1, 8, [.nilFunc]⟩ := tyOk_mk (z := .nilFunc) ⟨_, _, _, Try.underlying255⟩ (by kernel_rfl) rfl
theorem ty256 : TyOk Try.prog 256 ⟨.ptr 3, 1, 8, [.pointer none]⟩ := tyOk_mk (z := .pointer none) Try.underlying256 (by kernel_rfl) rfl
theorem ty257 : TyOk Try.prog 257 ⟨.func, 1, 8, [.nilFunc]⟩ := tyOk_mk (z := .nilFunc) ⟨_, _, _, Try.underlying257⟩ (by kernel_rfl) rfl
theorem ty258 : TyOk Try.prog 258 ⟨.func, 1, 8, [.nilFunc]⟩ := tyOk_mk (z := .nilFunc) ⟨_, _, _, Try.underlying258⟩ (by kernel_rfl) rfl
theorem ty259 : TyOk Try.prog 259 ⟨.func, 1, 8, [.nilFunc]⟩ := tyOk_mk (z := .nilFunc) ⟨_, _, _, Try.underlying259⟩ (by kernel_rfl) rfl
theorem ty260 : TyOk Try.prog 260 ⟨.func, 1, 8, [.nilFunc]⟩ := tyOk_mk (z := .nilFunc) ⟨_, _, _, Try.underlying260⟩ (by kernel_rfl) rfl
theorem ty261 : TyOk Try.prog 261 ⟨.func, 1, 8, [.nilFunc]⟩ := tyOk_mk (z := .nilFunc) ⟨_, _, _, Try.underlying261⟩ (by kernel_rfl) rfl
theorem ty262 : TyOk Try.prog 262 ⟨.func, 1, 8, [.nilFunc]⟩ := tyOk_mk (z := .nilFunc) ⟨_, _, _, Try.underlying262⟩ (by kernel_rfl) rfl
theorem ty263 : TyOk Try.prog 263 ⟨.func, 1, 8, [.nilFunc]⟩ := tyOk_mk (z := .nilFunc) ⟨_, _, _, Try.underlying263⟩ (by kernel_rfl) rfl
theorem ty264 : TyOk Try.prog 264 ⟨.func, 1, 8, [.nilFunc]⟩ := tyOk_mk (z := .nilFunc) ⟨_, _, _, Try.underlying264⟩ (by kernel_rfl) rfl
theorem ty265 : TyOk Try.prog 265 ⟨.func, 1, 8, [.nilFunc]⟩ := tyOk_mk (z := .nilFunc) ⟨_, _, _, Try.underlying265⟩ (by kernel_rfl) rfl
theorem ty266 : TyOk Try.prog 266 ⟨.func, 1, 8, [.nilFunc]⟩ := tyOk_mk (z := .nilFunc) ⟨_, _, _, Try.underlying266⟩ (by kernel_rfl) rfl
theorem ty267 : TyOk Try.prog 267 ⟨.func, 1, 8, [.nilFunc]⟩ := tyOk_mk (z := .nilFunc) ⟨_, _, _, Try.underlying267⟩ (by kernel_rfl) rfl
theorem ty268 : TyOk Try.prog 268 ⟨.func, 1, 8, [.nilFunc]⟩ := tyOk_mk (z := .nilFunc) ⟨_, _, _, Try.underlying268⟩ (by kernel_rfl) rfl
theorem ty269 : TyOk Try.prog 269 ⟨.ptr 252, 1, 8, [.pointer none]⟩ := tyOk_mk (z := .pointer none) Try.underlying269 (by kernel_rfl) rfl
theorem ty271 : TyOk Try.prog 271 ⟨.func, 1, 8, [.nilFunc]⟩ := tyOk_mk (z := .nilFunc) ⟨_, _, _, Try.underlying271⟩ (by kernel_rfl) rfl
theorem ty272 : TyOk Try.prog 272 ⟨.func, 1, 8, [.nilFunc]⟩ := tyOk_mk (z := .nilFunc) ⟨_, _, _, Try.underlying272⟩ (by kernel_rfl) rfl
theorem ty273 : TyOk Try.prog 273 ⟨.func, 1, 8, [.nilFunc]⟩ := tyOk_mk (z := .nilFunc) ⟨_, _, _, Try.underlying273⟩ (by kernel_rfl) rfl
theorem ty274 : TyOk Try.prog 274 ⟨.func, 1, 8, [.nilFunc]⟩ := tyOk_mk (z := .nilFunc) ⟨_, _, _, Try.underlying274⟩ (by kernel_rfl) rfl
theorem ty275 : TyOk Try.prog 275 ⟨.func, 1, 8, [.nilFunc]⟩ := tyOk_mk (z := .nilFunc) ⟨_, _, _, Try.underlying275⟩ (by kernel_rfl) rfl
theorem ty276 : TyOk Try.prog 276 ⟨.func, 1, 8, [.nilFunc]⟩ := tyOk_mk (z := .nilFunc) ⟨_, _, _, Try.underlying276⟩ (by kernel_rfl) rfl
theorem ty277 : TyOk Try.prog 277 ⟨.func, 1, 8, [.nilFunc]⟩ := tyOk_mk (z := .nilFunc) ⟨_, _, _, Try.underlying277⟩ (by kernel_rfl) rfl
theorem ty278 : TyOk Try.prog 278 ⟨.func, 1, 8, [.nilFunc]⟩ := tyOk_mk (z := .nilFunc) ⟨_, _, _, Try.underlying278⟩ (by kernel_rfl) rfl
theorem ty279 : TyOk Try.prog 279 ⟨.struct [(17, 0), (17, 1), (17, 2), (9, 3)], 4, 40, [.pointer none, .pointer none, .pointer none, .string ByteArray.empty]⟩ := tyOk_mk (z := .agg #[.pointer none, .pointer none, .pointer none, .string ByteArray.empty]) ⟨_, Try.underlying279, rfl⟩ (by kernel_rfl) rfl
theorem ty280 : TyOk Try.prog 280 ⟨.struct [(17, 0), (17, 1), (17, 2), (9, 3)], 4, 40, [.pointer none, .pointer none, .pointer none, .string ByteArray.empty]⟩ := tyOk_mk (z := .agg #[.pointer none, .pointer none, .pointer none, .string ByteArray.empty]) ⟨_, Try.underlying280, rfl⟩ (by kernel_rfl) rfl
theorem ty281 : TyOk Try.prog 281 ⟨.arr 0 16, 0, 0, []⟩ := tyOk_mk (z := .agg #[]) Try.underlying281 (by kernel_rfl) rfl
theorem ty282 : TyOk Try.prog 282 ⟨.struct [(281, 0)], 0, 0, []⟩ := tyOk_mk (z := .agg #[]) ⟨_, Try.underlying282, rfl⟩ (by kernel_rfl) rfl
theorem ty283 : TyOk Try.prog 283 ⟨.struct [(281, 0)], 0, 0, []⟩ := tyOk_mk (z := .agg #[]) ⟨_, Try.underlying283, rfl⟩ (by kernel_rfl) rfl
theorem ty284 : TyOk Try.prog 284 ⟨.int .u8, 1, 1, [.int .u8 0]⟩ := tyOk_mk (z := .int .u8 0) Try.underlying284 (by kernel_rfl) rfl
theorem ty285 : TyOk Try.prog 285 ⟨.int .u8, 1, 1, [.int .u8 0]⟩ := tyOk_mk (z := .int .u8 0) Try.underlying285 (by kernel_rfl) rfl
theorem ty286 : TyOk Try.prog 286 ⟨.func, 1, 8, [.nilFunc]⟩ := tyOk_mk (z := .nilFunc) ⟨_, _, _, Try.underlying286⟩ (by kernel_rfl) rfl
theorem ty287 : TyOk Try.prog 287 ⟨.ptr 5, 1, 8, [.pointer none]⟩ := tyOk_mk (z := .pointer none) Try.underlying287 (by kernel_rfl) rfl
theorem ty288 : TyOk Try.prog 288 ⟨.int .i32, 1, 4, [.int .i32 0]⟩ := tyOk_mk (z := .int .i32 0) Try.underlying288 (by kernel_rfl) rfl
theorem ty289 : TyOk Try.prog 289 ⟨.int .i32, 1, 4, [.int .i32 0]⟩ := tyOk_mk (z := .int .i32 0) Try.underlying289 (by kernel_rfl) rfl
theorem ty290 : TyOk Try.prog 290 ⟨.struct [(12, 0), (12, 1), (45, 2), (284, 3), (5, 4), (5, 5), (285, 6), (286, 7), (287, 8), (288, 9), (289, 10)], 11, 48, [.int .u64 0, .int .u64 0, .int .u32 0, .int .u8 0, .int .u8 0, .int .u8 0, .int .u8 0, .nilFunc, .pointer none, .int .i32 0, .int .i32 0]⟩ := tyOk_mk (z := .agg #[.int .u64 0, .int .u64 0, .int .u32 0, .int .u8 0, .int .u8 0, .int .u8 0, .int .u8 0, .nilFunc, .pointer none, .int .i32 0, .int .i32 0]) ⟨_, Try.underlying290, rfl⟩ (by kernel_rfl) rfl
theorem ty291 : TyOk Try.prog 291 ⟨.struct [(12, 0), (12, 1), (45, 2), (284, 3), (5, 4), (5, 5), (285, 6), (286, 7), (287, 8), (288, 9), (289, 10)], 11, 48, [.int .u64 0, .int .u64 0, .int .u32 0, .int .u8 0, .int .u8 0, .int .u8 0, .int .u8 0, .nilFunc, .pointer none, .int .i32 0, .int .i32 0]⟩ := tyOk_mk (z := .agg #[.int .u64 0, .int .u64 0, .int .u32 0, .int .u8 0, .int .u8 0, .int .u8 0, .int .u8 0, .nilFunc, .pointer none, .int .i32 0, .int .i32 0]) ⟨_, Try.underlying291, rfl⟩ (by kernel_rfl) rfl
def tab0 (r : Tab) : Tab := (none) :: (some ⟨.func, 1, 8, [.nilFunc]⟩) :: (some ⟨.int .i64, 1, 8, [.int .i64 0]⟩) :: (some ⟨.int .i64, 1, 8, [.int .i64 0]⟩) :: (some ⟨.bool, 1, 1, [.bool false]⟩) :: (some ⟨.int .u8, 1, 1, [.int .u8 0]⟩) :: (some ⟨.int .u8, 1, 1, [.int .u8 0]⟩) :: (some ⟨.struct [(2, 0), (3, 1), (4, 2), (6, 3)], 4, 24, [.int .i64 0, .int .i64 0, .bool false, .int .u8 0]⟩) :: (some ⟨.struct [(2, 0), (3, 1), (4, 2), (6, 3)], 4, 24, [.int .i64 0, .int .i64 0, .bool false, .int .u8 0]⟩) :: (some ⟨.string, 1, 16, [.string ByteArray.empty]⟩) :: (some ⟨.string, 1, 16, [.string ByteArray.empty]⟩) :: (some ⟨.string, 1, 16, [.string ByteArray.empty]⟩) :: (some ⟨.int .u64, 1, 8, [.int .u64 0]⟩) :: (some ⟨.struct [(9, 0), (12, 1)], 2, 24, [.string ByteArray.empty, .int .u64 0]⟩) :: (some ⟨.struct [(9, 0), (12, 1)], 2, 24, [.string ByteArray.empty, .int .u64 0]⟩) :: (some ⟨.ptr 280, 1, 8, [.pointer none]⟩) :: (some ⟨.ptr 283, 1, 8, [.pointer none]⟩) :: (some ⟨.ptr 291, 1, 8, [.pointer none]⟩) :: (some ⟨.struct [(17, 0)], 1, 8, [.pointer none]⟩) :: (some ⟨.struct [(17, 0)], 1, 8, [.pointer none]⟩) :: (none) :: (some ⟨.int .i32, 1, 4, [.int .i32 0]⟩) :: (some ⟨.struct [(3, 0), (3, 1), (9, 2)], 3, 32, [.int .i64 0, .int .i64 0, .string ByteArray.empty]⟩) :: (some ⟨.struct [(3, 0), (3, 1), (9, 2)], 3, 32, [.int .i64 0, .int .i64 0, .string ByteArray.empty]⟩) :: (some ⟨.struct [(9, 0), (3, 1), (3, 2)], 3, 32, [.string ByteArray.empty, .int .i64 0, .int .i64 0]⟩) :: (some ⟨.struct [(9, 0), (3, 1), (3, 2)], 3, 32, [.string ByteArray.empty, .int .i64 0, .int .i64 0]⟩) :: (some ⟨.slice 28, 1, 24, [.slice none 0 0]⟩) :: (some ⟨.struct [(3, 0), (9, 1), (9, 2), (23, 3), (25, 6), (25, 9), (26, 12)], 13, 160, [.int .i64 0, .string ByteArray.empty, .string ByteArray.empty, .int .i64 0, .int .i64 0, .string ByteArray.empty, .string ByteArray.empty, .int .i64 0, .int .i64 0, .string ByteArray.empty, .int .i64 0, .int .i64 0, .slice none 0 0]⟩) :: (some ⟨.struct [(3, 0), (9, 1), (9, 2), (23, 3), (25, 6), (25, 9), (26, 12)], 13, 160, [.int .i64 0, .string ByteArray.empty, .string ByteArray.empty, .int .i64 0, .int .i64 0, .string ByteArray.empty, .string ByteArray.empty, .int .i64 0, .int .i64 0, .string ByteArray.empty, .int .i64 0, .int .i64 0, .slice none 0 0]⟩) :: (some ⟨.func, 1, 8, [.nilFunc]⟩) :: (some ⟨.func, 1, 8, [.nilFunc]⟩) :: (some ⟨.func, 1, 8, [.nilFunc]⟩) :: (some ⟨.func, 1, 8, [.nilFunc]⟩) :: (some ⟨.func, 1, 8, [.nilFunc]⟩) :: (some ⟨.func, 1, 8, [.nilFunc]⟩) :: (some ⟨.func, 1, 8, [.nilFunc]⟩) :: (some ⟨.func, 1, 8, [.nilFunc]⟩) :: (some ⟨.struct [(3, 0), (3, 1), (3, 2)], 3, 24, [.int .i64 0, .int .i64 0, .int .i64 0]⟩) :: (some ⟨.struct [(3, 0), (3, 1), (3, 2)], 3, 24, [.int .i64 0, .int .i64 0, .int .i64 0]⟩) :: (some ⟨.func, 1, 8, [.nilFunc]⟩) :: r
theorem tab0_ok {r : Tab} (h : AllOk Try.prog 40 r) : AllOk Try.prog 0 (tab0 r) := by
  unfold tab0
  refine allOk_none ?_
  refine allOk_some ty1 ?_
  refine allOk_some ty2 ?_
  refine allOk_some ty3 ?_
  refine allOk_some ty4 ?_
  refine allOk_some ty5 ?_
  refine allOk_some ty6 ?_
  refine allOk_some ty7 ?_
  refine allOk_some ty8 ?_
  refine allOk_some ty9 ?_
  refine allOk_some ty10 ?_
  refine allOk_some ty11 ?_
  refine allOk_some ty12 ?_
  refine allOk_some ty13 ?_
  refine allOk_some ty14 ?_
  refine allOk_some ty15 ?_
  refine allOk_some ty16 ?_
  refine allOk_some ty17 ?_
  refine allOk_some ty18 ?_
  refine allOk_some ty19 ?_
  refine allOk_none ?_
  refine allOk_some ty21 ?_
  refine allOk_some ty22 ?_
  refine allOk_some ty23 ?_
  refine allOk_some ty24 ?_
  refine allOk_some ty25 ?_
  refine allOk_some ty26 ?_
  refine allOk_some ty27 ?_
  refine allOk_some ty28 ?_
  refine allOk_some ty29 ?_
  refine allOk_some ty30 ?_
  refine allOk_some ty31 ?_
  refine allOk_some ty32 ?_
  refine allOk_some ty33 ?_
  refine allOk_some ty34 ?_
  refine allOk_some ty35 ?_
  refine allOk_some ty36 ?_
  refine allOk_some ty37 ?_
  refine allOk_some ty38 ?_
  refine allOk_some ty39 ?_
  exact h
def tab1 (r : Tab) : Tab := (some ⟨.func, 1, 8, [.nilFunc]⟩) :: (some ⟨.slice 4, 1, 24, [.slice none 0 0]⟩) :: (some ⟨.func, 1, 8, [.nilFunc]⟩) :: (some ⟨.func, 1, 8, [.nilFunc]⟩) :: (some ⟨.slice 25, 1, 24, [.slice none 0 0]⟩) :: (some ⟨.int .u32, 1, 4, [.int .u32 0]⟩) :: (some ⟨.func, 1, 8, [.nilFunc]⟩) :: (some ⟨.func, 1, 8, [.nilFunc]⟩) :: (some ⟨.func, 1, 8, [.nilFunc]⟩) :: (some ⟨.func, 1, 8, [.nilFunc]⟩) :: (some ⟨.func, 1, 8, [.nilFunc]⟩) :: (some ⟨.func, 1, 8, [.nilFunc]⟩) :: (some ⟨.func, 1, 8, [.nilFunc]⟩) :: (some ⟨.ptr 59, 1, 8, [.pointer none]⟩) :: (some ⟨.struct [(25, 0), (25, 3)], 6, 64, [.string ByteArray.empty, .int .i64 0, .int .i64 0, .string ByteArray.empty, .int .i64 0, .int .i64 0]⟩) :: (some ⟨.struct [(25, 0), (25, 3)], 6, 64, [.string ByteArray.empty, .int .i64 0, .int .i64 0, .string ByteArray.empty, .int .i64 0, .int .i64 0]⟩) :: (some ⟨.slice 120, 1, 24, [.slice none 0 0]⟩) :: (some ⟨.slice 65, 1, 24, [.slice none 0 0]⟩) :: (some ⟨.struct [(4, 0), (4, 1), (55, 2), (56, 8), (57, 9)], 10, 120, [.bool false, .bool false, .string ByteArray.empty, .int .i64 0, .int .i64 0, .string ByteArray.empty, .int .i64 0, .int .i64 0, .slice none 0 0, .slice none 0 0]⟩) :: (some ⟨.struct [(4, 0), (4, 1), (55, 2), (56, 8), (57, 9)], 10, 120, [.bool false, .bool false, .string ByteArray.empty, .int .i64 0, .int .i64 0, .string ByteArray.empty, .int .i64 0, .int .i64 0, .slice none 0 0, .slice none 0 0]⟩) :: (some ⟨.func, 1, 8, [.nilFunc]⟩) :: (some ⟨.int .i64, 1, 8, [.int .i64 0]⟩) :: (some ⟨.func, 1, 8, [.nilFunc]⟩) :: (some ⟨.func, 1, 8, [.nilFunc]⟩) :: (some ⟨.struct [(3, 0), (3, 1), (61, 2), (56, 3)], 4, 48, [.int .i64 0, .int .i64 0, .int .i64 0, .slice none 0 0]⟩) :: (some ⟨.struct [(3, 0), (3, 1), (61, 2), (56, 3)], 4, 48, [.int .i64 0, .int .i64 0, .int .i64 0, .slice none 0 0]⟩) :: (some ⟨.func, 1, 8, [.nilFunc]⟩) :: (none) :: (some ⟨.func, 1, 8, [.nilFunc]⟩) :: (some ⟨.func, 1, 8, [.nilFunc]⟩) :: (some ⟨.func, 1, 8, [.nilFunc]⟩) :: (some ⟨.func, 1, 8, [.nilFunc]⟩) :: (some ⟨.slice 77, 1, 24, [.slice none 0 0]⟩) :: (some ⟨.func, 1, 8, [.nilFunc]⟩) :: (some ⟨.slice 75, 1, 24, [.slice none 0 0]⟩) :: (some ⟨.slice 81, 1, 24, [.slice none 0 0]⟩) :: (some ⟨.func, 1, 8, [.nilFunc]⟩) :: (some ⟨.slice 82, 1, 24, [.slice none 0 0]⟩) :: (some ⟨.func, 1, 8, [.nilFunc]⟩) :: (some ⟨.func, 1, 8, [.nilFunc]⟩) :: r
theorem tab1_ok {r : Tab} (h : AllOk Try.prog 80 r) : AllOk Try.prog 40 (tab1 r) := by
  unfold tab1
  refine allOk_some ty40 ?_
  refine allOk_some ty41 ?_
  refine allOk_some ty42 ?_
  refine allOk_some ty43 ?_
  refine allOk_some ty44 ?_
  refine allOk_some ty45 ?_
  refine allOk_some ty46 ?_
  refine allOk_some ty47 ?_
  refine allOk_some ty48 ?_
  refine allOk_some ty49 ?_
  refine allOk_some ty50 ?_
  refine allOk_some ty51 ?_
  refine allOk_some ty52 ?_
  refine allOk_some ty53 ?_
  refine allOk_some ty54 ?_
  refine allOk_some ty55 ?_
  refine allOk_some ty56 ?_
  refine allOk_some ty57 ?_
  refine allOk_some ty58 ?_
  refine allOk_some ty59 ?_
  refine allOk_some ty60 ?_
  refine allOk_some ty61 ?_
  refine allOk_some ty62 ?_
  refine allOk_some ty63 ?_
  refine allOk_some ty64 ?_
  refine allOk_some ty65 ?_
  refine allOk_some ty66 ?_
  refine allOk_none ?_
  refine allOk_some ty68 ?_
  refine allOk_some ty69 ?_
  refine allOk_some ty70 ?_
  refine allOk_some ty71 ?_
  refine allOk_some ty72 ?_
  refine allOk_some ty73 ?_
  refine allOk_some ty74 ?_
  refine allOk_some ty75 ?_
  refine allOk_some ty76 ?_
  refine allOk_some ty77 ?_
  refine allOk_some ty78 ?_
  refine allOk_some ty79 ?_
  exact h
def tab2 (r : Tab) : Tab := (some ⟨.struct [(38, 0), (3, 3)], 4, 32, [.int .i64 0, .int .i64 0, .int .i64 0, .int .i64 0]⟩) :: (some ⟨.struct [(38, 0), (3, 3)], 4, 32, [.int .i64 0, .int .i64 0, .int .i64 0, .int .i64 0]⟩) :: (some ⟨.struct [(38, 0), (3, 3)], 4, 32, [.int .i64 0, .int .i64 0, .int .i64 0, .int .i64 0]⟩) :: (some ⟨.slice 3, 1, 24, [.slice none 0 0]⟩) :: (none) :: (some ⟨.func, 1, 8, [.nilFunc]⟩) :: (some ⟨.func, 1, 8, [.nilFunc]⟩) :: (some ⟨.slice 95, 1, 24, [.slice none 0 0]⟩) :: (some ⟨.ptr 91, 1, 8, [.pointer none]⟩) :: (some ⟨.map 38 3, 1, 8, [.map none]⟩) :: (some ⟨.struct [(89, 0)], 1, 8, [.map none]⟩) :: (some ⟨.struct [(89, 0)], 1, 8, [.map none]⟩) :: (some ⟨.ptr 94, 1, 8, [.pointer none]⟩) :: (some ⟨.struct [(77, 0)], 1, 24, [.slice none 0 0]⟩) :: (some ⟨.struct [(77, 0)], 1, 24, [.slice none 0 0]⟩) :: (some ⟨.struct [(38, 0), (3, 3)], 4, 32, [.int .i64 0, .int .i64 0, .int .i64 0, .int .i64 0]⟩) :: (some ⟨.func, 1, 8, [.nilFunc]⟩) :: (some ⟨.func, 1, 8, [.nilFunc]⟩) :: (some ⟨.slice 38, 1, 24, [.slice none 0 0]⟩) :: (some ⟨.func, 1, 8, [.nilFunc]⟩) :: (some ⟨.func, 1, 8, [.nilFunc]⟩) :: (some ⟨.func, 1, 8, [.nilFunc]⟩) :: (some ⟨.func, 1, 8, [.nilFunc]⟩) :: (some ⟨.func, 1, 8, [.nilFunc]⟩) :: (some ⟨.func, 1, 8, [.nilFunc]⟩) :: (some ⟨.func, 1, 8, [.nilFunc]⟩) :: (some ⟨.func, 1, 8, [.nilFunc]⟩) :: (some ⟨.func, 1, 8, [.nilFunc]⟩) :: (some ⟨.func, 1, 8, [.nilFunc]⟩) :: (some ⟨.slice 56, 1, 24, [.slice none 0 0]⟩) :: (some ⟨.func, 1, 8, [.nilFunc]⟩) :: (some ⟨.func, 1, 8, [.nilFunc]⟩) :: (some ⟨.func, 1, 8, [.nilFunc]⟩) :: (some ⟨.func, 1, 8, [.nilFunc]⟩) :: (some ⟨.func, 1, 8, [.nilFunc]⟩) :: (some ⟨.slice 9, 1, 24, [.slice none 0 0]⟩) :: (some ⟨.func, 1, 8, [.nilFunc]⟩) :: (some ⟨.func, 1, 8, [.nilFunc]⟩) :: (some ⟨.func, 1, 8, [.nilFunc]⟩) :: (some ⟨.struct [(25, 0), (23, 3)], 6, 64, [.string ByteArray.empty, .int .i64 0, .int .i64 0, .int .i64 0, .int .i64 0, .string ByteArray.empty]⟩) :: r
theorem tab2_ok {r : Tab} (h : AllOk Try.prog 120 r) : AllOk Try.prog 80 (tab2 r) := by
  unfold tab2
  refine allOk_some ty80 ?_
  refine allOk_some ty81 ?_
  refine allOk_some ty82 ?_
  refine allOk_some ty83 ?_
  refine allOk_none ?_
  refine allOk_some ty85 ?_
  refine allOk_some ty86 ?_
  refine allOk_some ty87 ?_
  refine allOk_some ty88 ?_
  refine allOk_some ty89 ?_
  refine allOk_some ty90 ?_
  refine allOk_some ty91 ?_
  refine allOk_some ty92 ?_
  refine allOk_some ty93 ?_
  refine allOk_some ty94 ?_
  refine allOk_some ty95 ?_
  refine allOk_some ty96 ?_
  refine allOk_some ty97 ?_
  refine allOk_some ty98 ?_
  refine allOk_some ty99 ?_
  refine allOk_some ty100 ?_
  refine allOk_some ty101 ?_
  refine allOk_some ty102 ?_
  refine allOk_some ty103 ?_
  refine allOk_some ty104 ?_
  refine allOk_some ty105 ?_
  refine allOk_some ty106 ?_
  refine allOk_some ty107 ?_
  refine allOk_some ty108 ?_
  refine allOk_some ty109 ?_
  refine allOk_some ty110 ?_
  refine allOk_some ty111 ?_
  refine allOk_some ty112 ?_
  refine allOk_some ty113 ?_
  refine allOk_some ty114 ?_
  refine allOk_some ty115 ?_
  refine allOk_some ty116 ?_
  refine allOk_some ty117 ?_
  refine allOk_some ty118 ?_
  refine allOk_some ty119 ?_
  exact h
def tab3 (r : Tab) : Tab := (some ⟨.struct [(25, 0), (23, 3)], 6, 64, [.string ByteArray.empty, .int .i64 0, .int .i64 0, .int .i64 0, .int .i64 0, .string ByteArray.empty]⟩) :: (some ⟨.func, 1, 8, [.nilFunc]⟩) :: (some ⟨.func, 1, 8, [.nilFunc]⟩) :: (some ⟨.func, 1, 8, [.nilFunc]⟩) :: (some ⟨.slice 154, 1, 24, [.slice none 0 0]⟩) :: (some ⟨.func, 1, 8, [.nilFunc]⟩) :: (some ⟨.ptr 207, 1, 8, [.pointer none]⟩) :: (some ⟨.func, 1, 8, [.nilFunc]⟩) :: (some ⟨.ptr 212, 1, 8, [.pointer none]⟩) :: (some ⟨.func, 1, 8, [.nilFunc]⟩) :: (some ⟨.func, 1, 8, [.nilFunc]⟩) :: (some ⟨.func, 1, 8, [.nilFunc]⟩) :: (some ⟨.func, 1, 8, [.nilFunc]⟩) :: (some ⟨.func, 1, 8, [.nilFunc]⟩) :: (some ⟨.func, 1, 8, [.nilFunc]⟩) :: (some ⟨.func, 1, 8, [.nilFunc]⟩) :: (some ⟨.slice 141, 1, 24, [.slice none 0 0]⟩) :: (some ⟨.ptr 139, 1, 8, [.pointer none]⟩) :: (some ⟨.struct [(4, 0), (55, 1), (56, 7), (4, 8), (57, 9)], 10, 128, [.bool false, .string ByteArray.empty, .int .i64 0, .int .i64 0, .string ByteArray.empty, .int .i64 0, .int .i64 0, .slice none 0 0, .bool false, .slice none 0 0]⟩) :: (some ⟨.struct [(4, 0), (55, 1), (56, 7), (4, 8), (57, 9)], 10, 128, [.bool false, .string ByteArray.empty, .int .i64 0, .int .i64 0, .string ByteArray.empty, .int .i64 0, .int .i64 0, .slice none 0 0, .bool false, .slice none 0 0]⟩) :: (some ⟨.struct [(3, 0), (3, 1), (55, 2), (65, 8), (56, 12)], 13, 152, [.int .i64 0, .int .i64 0, .string ByteArray.empty, .int .i64 0, .int .i64 0, .string ByteArray.empty, .int .i64 0, .int .i64 0, .int .i64 0, .int .i64 0, .int .i64 0, .slice none 0 0, .slice none 0 0]⟩) :: (some ⟨.struct [(3, 0), (3, 1), (55, 2), (65, 8), (56, 12)], 13, 152, [.int .i64 0, .int .i64 0, .string ByteArray.empty, .int .i64 0, .int .i64 0, .string ByteArray.empty, .int .i64 0, .int .i64 0, .int .i64 0, .int .i64 0, .int .i64 0, .slice none 0 0, .slice none 0 0]⟩) :: (some ⟨.func, 1, 8, [.nilFunc]⟩) :: (some ⟨.func, 1, 8, [.nilFunc]⟩) :: (some ⟨.func, 1, 8, [.nilFunc]⟩) :: (some ⟨.func, 1, 8, [.nilFunc]⟩) :: (some ⟨.slice 151, 1, 24, [.slice none 0 0]⟩) :: (some ⟨.func, 1, 8, [.nilFunc]⟩) :: (some ⟨.slice 152, 1, 24, [.slice none 0 0]⟩) :: (some ⟨.func, 1, 8, [.nilFunc]⟩) :: (some ⟨.struct [(44, 0), (4, 1)], 2, 32, [.slice none 0 0, .bool false]⟩) :: (some ⟨.struct [(44, 0), (4, 1)], 2, 32, [.slice none 0 0, .bool false]⟩) :: (some ⟨.struct [(44, 0), (4, 1)], 2, 32, [.slice none 0 0, .bool false]⟩) :: (some ⟨.struct [(25, 0), (4, 3), (28, 4), (23, 17)], 20, 232, [.string ByteArray.empty, .int .i64 0, .int .i64 0, .bool false, .int .i64 0, .string ByteArray.empty, .string ByteArray.empty, .int .i64 0, .int .i64 0, .string ByteArray.empty, .string ByteArray.empty, .int .i64 0, .int .i64 0, .string ByteArray.empty, .int .i64 0, .int .i64 0, .slice none 0 0, .int .i64 0, .int .i64 0, .string ByteArray.empty]⟩) :: (some ⟨.struct [(25, 0), (4, 3), (28, 4), (23, 17)], 20, 232, [.string ByteArray.empty, .int .i64 0, .int .i64 0, .bool false, .int .i64 0, .string ByteArray.empty, .string ByteArray.empty, .int .i64 0, .int .i64 0, .string ByteArray.empty, .string ByteArray.empty, .int .i64 0, .int .i64 0, .string ByteArray.empty, .int .i64 0, .int .i64 0, .slice none 0 0, .int .i64 0, .int .i64 0, .string ByteArray.empty]⟩) :: (some ⟨.func, 1, 8, [.nilFunc]⟩) :: (some ⟨.int .u64, 1, 8, [.int .u64 0]⟩) :: (some ⟨.func, 1, 8, [.nilFunc]⟩) :: (some ⟨.func, 1, 8, [.nilFunc]⟩) :: (some ⟨.func, 1, 8, [.nilFunc]⟩) :: r
theorem tab3_ok {r : Tab} (h : AllOk Try.prog 160 r) : AllOk Try.prog 120 (tab3 r) := by
  unfold tab3
  refine allOk_some ty120 ?_
  refine allOk_some ty121 ?_
  refine allOk_some ty122 ?_
  refine allOk_some ty123 ?_
  refine allOk_some ty124 ?_
  refine allOk_some ty125 ?_
  refine allOk_some ty126 ?_
  refine allOk_some ty127 ?_
  refine allOk_some ty128 ?_
  refine allOk_some ty129 ?_
  refine allOk_some ty130 ?_
  refine allOk_some ty131 ?_
  refine allOk_some ty132 ?_
  refine allOk_some ty133 ?_
  refine allOk_some ty134 ?_
  refine allOk_some ty135 ?_
  refine allOk_some ty136 ?_
  refine allOk_some ty137 ?_
  refine allOk_some ty138 ?_
  refine allOk_some ty139 ?_
  refine allOk_some ty140 ?_
  refine allOk_some ty141 ?_
  refine allOk_some ty142 ?_
  refine allOk_some ty143 ?_
  refine allOk_some ty144 ?_
  refine allOk_some ty145 ?_
  refine allOk_some ty146 ?_
  refine allOk_some ty147 ?_
  refine allOk_some ty148 ?_
  refine allOk_some ty149 ?_
  refine allOk_some ty150 ?_
  refine allOk_some ty151 ?_
  refine allOk_some ty152 ?_
  refine allOk_some ty153 ?_
  refine allOk_some ty154 ?_
  refine allOk_some ty155 ?_
  refine allOk_some ty156 ?_
  refine allOk_some ty157 ?_
  refine allOk_some ty158 ?_
  refine allOk_some ty159 ?_
  exact h
def tab4 (r : Tab) : Tab := (some ⟨.func, 1, 8, [.nilFunc]⟩) :: (some ⟨.func, 1, 8, [.nilFunc]⟩) :: (some ⟨.func, 1, 8, [.nilFunc]⟩) :: (some ⟨.func, 1, 8, [.nilFunc]⟩) :: (some ⟨.func, 1, 8, [.nilFunc]⟩) :: (some ⟨.slice 5, 1, 24, [.slice none 0 0]⟩) :: (some ⟨.func, 1, 8, [.nilFunc]⟩) :: (some ⟨.func, 1, 8, [.nilFunc]⟩) :: (some ⟨.int .u64, 1, 8, [.int .u64 0]⟩) :: (some ⟨.func, 1, 8, [.nilFunc]⟩) :: (some ⟨.func, 1, 8, [.nilFunc]⟩) :: (some ⟨.func, 1, 8, [.nilFunc]⟩) :: (some ⟨.func, 1, 8, [.nilFunc]⟩) :: (some ⟨.arr 2 3, 2, 16, [.int .i64 0, .int .i64 0]⟩) :: (some ⟨.slice 173, 1, 24, [.slice none 0 0]⟩) :: (some ⟨.func, 1, 8, [.nilFunc]⟩) :: (some ⟨.func, 1, 8, [.nilFunc]⟩) :: (some ⟨.func, 1, 8, [.nilFunc]⟩) :: (some ⟨.func, 1, 8, [.nilFunc]⟩) :: (some ⟨.ptr 182, 1, 8, [.pointer none]⟩) :: (some ⟨.map 25 23, 1, 8, [.map none]⟩) :: (some ⟨.struct [(180, 0), (3, 1)], 2, 16, [.map none, .int .i64 0]⟩) :: (some ⟨.struct [(180, 0), (3, 1)], 2, 16, [.map none, .int .i64 0]⟩) :: (some ⟨.func, 1, 8, [.nilFunc]⟩) :: (some ⟨.func, 1, 8, [.nilFunc]⟩) :: (some ⟨.func, 1, 8, [.nilFunc]⟩) :: (some ⟨.func, 1, 8, [.nilFunc]⟩) :: (some ⟨.func, 1, 8, [.nilFunc]⟩) :: (some ⟨.func, 1, 8, [.nilFunc]⟩) :: (some ⟨.func, 1, 8, [.nilFunc]⟩) :: (some ⟨.map 25 4, 1, 8, [.map none]⟩) :: (some ⟨.func, 1, 8, [.nilFunc]⟩) :: (some ⟨.func, 1, 8, [.nilFunc]⟩) :: (none) :: (some ⟨.func, 1, 8, [.nilFunc]⟩) :: (some ⟨.func, 1, 8, [.nilFunc]⟩) :: (none) :: (some ⟨.func, 1, 8, [.nilFunc]⟩) :: (some ⟨.func, 1, 8, [.nilFunc]⟩) :: (some ⟨.func, 1, 8, [.nilFunc]⟩) :: r
theorem tab4_ok {r : Tab} (h : AllOk Try.prog 200 r) : AllOk Try.prog 160 (tab4 r) := by
  unfold tab4
  refine allOk_some ty160 ?_
  refine allOk_some ty161 ?_
  refine allOk_some ty162 ?_
  refine allOk_some ty163 ?_
  refine allOk_some ty164 ?_
  refine allOk_some ty165 ?_
  refine allOk_some ty166 ?_
  refine allOk_some ty167 ?_
  refine allOk_some ty168 ?_
  refine allOk_some ty169 ?_
  refine allOk_some ty170 ?_
  refine allOk_some ty171 ?_
  refine allOk_some ty172 ?_
  refine allOk_some ty173 ?_
  refine allOk_some ty174 ?_
  refine allOk_some ty175 ?_
  refine allOk_some ty176 ?_
  refine allOk_some ty177 ?_
  refine allOk_some ty178 ?_
  refine allOk_some ty179 ?_
  refine allOk_some ty180 ?_
  refine allOk_some ty181 ?_
  refine allOk_some ty182 ?_
  refine allOk_some ty183 ?_
  refine allOk_some ty184 ?_
  refine allOk_some ty185 ?_
  refine allOk_some ty186 ?_
  refine allOk_some ty187 ?_
  refine allOk_some ty188 ?_
  refine allOk_some ty189 ?_
  refine allOk_some ty190 ?_
  refine allOk_some ty191 ?_
  refine allOk_some ty192 ?_
  refine allOk_none ?_
  refine allOk_some ty194 ?_
  refine allOk_some ty195 ?_
  refine allOk_none ?_
  refine allOk_some ty197 ?_
  refine allOk_some ty198 ?_
  refine allOk_some ty199 ?_
  exact h
def tab5 (r : Tab) : Tab := (some ⟨.func, 1, 8, [.nilFunc]⟩) :: (some ⟨.func, 1, 8, [.nilFunc]⟩) :: (some ⟨.map 25 154, 1, 8, [.map none]⟩) :: (some ⟨.func, 1, 8, [.nilFunc]⟩) :: (some ⟨.func, 1, 8, [.nilFunc]⟩) :: (some ⟨.map 25 44, 1, 8, [.map none]⟩) :: (some ⟨.struct [(44, 0), (205, 1), (205, 2)], 3, 40, [.slice none 0 0, .map none, .map none]⟩) :: (some ⟨.struct [(44, 0), (205, 1), (205, 2)], 3, 40, [.slice none 0 0, .map none, .map none]⟩) :: (none) :: (some ⟨.func, 1, 8, [.nilFunc]⟩) :: (some ⟨.slice 44, 1, 24, [.slice none 0 0]⟩) :: (some ⟨.struct [(124, 0), (210, 1)], 2, 48, [.slice none 0 0, .slice none 0 0]⟩) :: (some ⟨.struct [(124, 0), (210, 1)], 2, 48, [.slice none 0 0, .slice none 0 0]⟩) :: (some ⟨.func, 1, 8, [.nilFunc]⟩) :: (some ⟨.ptr 217, 1, 8, [.pointer none]⟩) :: (some ⟨.map 25 3, 1, 8, [.map none]⟩) :: (some ⟨.struct [(126, 0), (215, 1), (146, 2), (41, 3)], 4, 64, [.pointer none, .map none, .slice none 0 0, .slice none 0 0]⟩) :: (some ⟨.struct [(126, 0), (215, 1), (146, 2), (41, 3)], 4, 64, [.pointer none, .map none, .slice none 0 0, .slice none 0 0]⟩) :: (some ⟨.func, 1, 8, [.nilFunc]⟩) :: (some ⟨.func, 1, 8, [.nilFunc]⟩) :: (some ⟨.func, 1, 8, [.nilFunc]⟩) :: (some ⟨.func, 1, 8, [.nilFunc]⟩) :: (some ⟨.slice 165, 1, 24, [.slice none 0 0]⟩) :: (some ⟨.func, 1, 8, [.nilFunc]⟩) :: (some ⟨.func, 1, 8, [.nilFunc]⟩) :: (some ⟨.func, 1, 8, [.nilFunc]⟩) :: (some ⟨.func, 1, 8, [.nilFunc]⟩) :: (some ⟨.func, 1, 8, [.nilFunc]⟩) :: (some ⟨.func, 1, 8, [.nilFunc]⟩) :: (some ⟨.func, 1, 8, [.nilFunc]⟩) :: (some ⟨.func, 1, 8, [.nilFunc]⟩) :: (some ⟨.func, 1, 8, [.nilFunc]⟩) :: (some ⟨.func, 1, 8, [.nilFunc]⟩) :: (some ⟨.func, 1, 8, [.nilFunc]⟩) :: (some ⟨.func, 1, 8, [.nilFunc]⟩) :: (some ⟨.func, 1, 8, [.nilFunc]⟩) :: (some ⟨.func, 1, 8, [.nilFunc]⟩) :: (some ⟨.func, 1, 8, [.nilFunc]⟩) :: (some ⟨.func, 1, 8, [.nilFunc]⟩) :: (some ⟨.int .i64, 1, 8, [.int .i64 0]⟩) :: r
theorem tab5_ok {r : Tab} (h : AllOk Try.prog 240 r) : AllOk Try.prog 200 (tab5 r) := by
  unfold tab5
  refine allOk_some ty200 ?_
  refine allOk_some ty201 ?_
  refine allOk_some ty202 ?_
  refine allOk_some ty203 ?_
  refine allOk_some ty204 ?_
  refine allOk_some ty205 ?_
  refine allOk_some ty206 ?_
  refine allOk_some ty207 ?_
  refine allOk_none ?_
  refine allOk_some ty209 ?_
  refine allOk_some ty210 ?_
  refine allOk_some ty211 ?_
  refine allOk_some ty212 ?_
  refine allOk_some ty213 ?_
  refine allOk_some ty214 ?_
  refine allOk_some ty215 ?_
  refine allOk_some ty216 ?_
  refine allOk_some ty217 ?_
  refine allOk_some ty218 ?_
  refine allOk_some ty219 ?_
  refine allOk_some ty220 ?_
  refine allOk_some ty221 ?_
  refine allOk_some ty222 ?_
  refine allOk_some ty223 ?_
  refine allOk_some ty224 ?_
  refine allOk_some ty225 ?_
  refine allOk_some ty226 ?_
  refine allOk_some ty227 ?_
  refine allOk_some ty228 ?_
  refine allOk_some ty229 ?_
  refine allOk_some ty230 ?_
  refine allOk_some ty231 ?_
  refine allOk_some ty232 ?_
  refine allOk_some ty233 ?_
  refine allOk_some ty234 ?_
  refine allOk_some ty235 ?_
  refine allOk_some ty236 ?_
  refine allOk_some ty237 ?_
  refine allOk_some ty238 ?_
  refine allOk_some ty239 ?_
  exact h
def tab6 (r : Tab) : Tab := (none) :: (some ⟨.func, 1, 8, [.nilFunc]⟩) :: (some ⟨.func, 1, 8, [.nilFunc]⟩) :: (some ⟨.func, 1, 8, [.nilFunc]⟩) :: (some ⟨.func, 1, 8, [.nilFunc]⟩) :: (some ⟨.func, 1, 8, [.nilFunc]⟩) :: (some ⟨.func, 1, 8, [.nilFunc]⟩) :: (some ⟨.func, 1, 8, [.nilFunc]⟩) :: (some ⟨.func, 1, 8, [.nilFunc]⟩) :: (some ⟨.func, 1, 8, [.nilFunc]⟩) :: (none) :: (some ⟨.func, 1, 8, [.nilFunc]⟩) :: (some ⟨.int .u64, 1, 8, [.int .u64 0]⟩) :: (some ⟨.func, 1, 8, [.nilFunc]⟩) :: (some ⟨.func, 1, 8, [.nilFunc]⟩) :: (some ⟨.func, 1, 8, [.nilFunc]⟩) :: (some ⟨.ptr 3, 1, 8, [.pointer none]⟩) :: (some ⟨.func, 1, 8, [.nilFunc]⟩) :: (some ⟨.func, 1, 8, [.nilFunc]⟩) :: (some ⟨.func, 1, 8, [.nilFunc]⟩) :: (some ⟨.func, 1, 8, [.nilFunc]⟩) :: (some ⟨.func, 1, 8, [.nilFunc]⟩) :: (some ⟨.func, 1, 8, [.nilFunc]⟩) :: (some ⟨.func, 1, 8, [.nilFunc]⟩) :: (some ⟨.func, 1, 8, [.nilFunc]⟩) :: (some ⟨.func, 1, 8, [.nilFunc]⟩) :: (some ⟨.func, 1, 8, [.nilFunc]⟩) :: (some ⟨.func, 1, 8, [.nilFunc]⟩) :: (some ⟨.func, 1, 8, [.nilFunc]⟩) :: (some ⟨.ptr 252, 1, 8, [.pointer none]⟩) :: (none) :: (some ⟨.func, 1, 8, [.nilFunc]⟩) :: (some ⟨.func, 1, 8, [.nilFunc]⟩) :: (some ⟨.func, 1, 8, [.nilFunc]⟩) :: (some ⟨.func, 1, 8, [.nilFunc]⟩) :: (some ⟨.func, 1, 8, [.nilFunc]⟩) :: (some ⟨.func, 1, 8, [.nilFunc]⟩) :: (some ⟨.func, 1, 8, [.nilFunc]⟩) :: (some ⟨.func, 1, 8, [.nilFunc]⟩) :: (some ⟨.struct [(17, 0), (17, 1), (17, 2), (9, 3)], 4, 40, [.pointer none, .pointer none, .pointer none, .string ByteArray.empty]⟩) :: r
theorem tab6_ok {r : Tab} (h : AllOk Try.prog 280 r) : AllOk Try.prog 240 (tab6 r) := by
  unfold tab6
  refine allOk_none ?_
  refine allOk_some ty241 ?_
  refine allOk_some ty242 ?_
  refine allOk_some ty243 ?_
  refine allOk_some ty244 ?_
  refine allOk_some ty245 ?_
  refine allOk_some ty246 ?_
  refine allOk_some ty247 ?_
  refine allOk_some ty248 ?_
  refine allOk_some ty249 ?_
  refine allOk_none ?_
  refine allOk_some ty251 ?_
  refine allOk_some ty252 ?_
  refine allOk_some ty253 ?_
  refine allOk_some ty254 ?_
  refine allOk_some ty255 ?_
  refine allOk_some ty256 ?_
  refine allOk_some ty257 ?_
  refine allOk_some ty258 ?_
  refine allOk_some ty259 ?_
  refine allOk_some ty260 ?_
  refine allOk_some ty261 ?_
  refine allOk_some ty262 ?_
  refine allOk_some ty263 ?_
  refine allOk_some ty264 ?_
  refine allOk_some ty265 ?_
  refine allOk_some ty266 ?_
  refine allOk_some ty267 ?_
  refine allOk_some ty268 ?_
  refine allOk_some ty269 ?_
  refine allOk_none ?_
  refine allOk_some ty271 ?_
  refine allOk_some ty272 ?_
  refine allOk_some ty273 ?_
  refine allOk_some ty274 ?_
  refine allOk_some ty275 ?_
  refine allOk_some ty276 ?_
  refine allOk_some ty277 ?_
  refine allOk_some ty278 ?_
  refine allOk_some ty279 ?_
  exact h
def tab7 (r : Tab) : Tab := (some ⟨.struct [(17, 0), (17, 1), (17, 2), (9, 3)], 4, 40, [.pointer none, .pointer none, .pointer none, .string ByteArray.empty]⟩) :: (some ⟨.arr 0 16, 0, 0, []⟩) :: (some ⟨.struct [(281, 0)], 0, 0, []⟩) :: (some ⟨.struct [(281, 0)], 0, 0, []⟩) :: (some ⟨.int .u8, 1, 1, [.int .u8 0]⟩) :: (some ⟨.int .u8, 1, 1, [.int .u8 0]⟩) :: (some ⟨.func, 1, 8, [.nilFunc]⟩) :: (some ⟨.ptr 5, 1, 8, [.pointer none]⟩) :: (some ⟨.int .i32, 1, 4, [.int .i32 0]⟩) :: (some ⟨.int .i32, 1, 4, [.int .i32 0]⟩) :: (some ⟨.struct [(12, 0), (12, 1), (45, 2), (284, 3), (5, 4), (5, 5), (285, 6), (286, 7), (287, 8), (288, 9), (289, 10)], 11, 48, [.int .u64 0, .int .u64 0, .int .u32 0, .int .u8 0, .int .u8 0, .int .u8 0, .int .u8 0, .nilFunc, .pointer none, .int .i32 0, .int .i32 0]⟩) :: (some ⟨.struct [(12, 0), (12, 1), (45, 2), (284, 3), (5, 4), (5, 5), (285, 6), (286, 7), (287, 8), (288, 9), (289, 10)], 11, 48, [.int .u64 0, .int .u64 0, .int .u32 0, .int .u8 0, .int .u8 0, .int .u8 0, .int .u8 0, .nilFunc, .pointer none, .int .i32 0, .int .i32 0]⟩) :: r
theorem tab7_ok {r : Tab} (h : AllOk Try.prog 292 r) : AllOk Try.prog 280 (tab7 r) := by
  unfold tab7
  refine allOk_some ty280 ?_
  refine allOk_some ty281 ?_
  refine allOk_some ty282 ?_
  refine allOk_some ty283 ?_
  refine allOk_some ty284 ?_
  refine allOk_some ty285 ?_
  refine allOk_some ty286 ?_
  refine allOk_some ty287 ?_
  refine allOk_some ty288 ?_
  refine allOk_some ty289 ?_
  refine allOk_some ty290 ?_
  refine allOk_some ty291 ?_
  exact h
def tab : Tab := tab0 (tab1 (tab2 (tab3 (tab4 (tab5 (tab6 (tab7 [])))))))
theorem tab_ok : TabOk Try.prog tab := by
  have h : AllOk Try.prog 0 tab := tab0_ok (tab1_ok (tab2_ok (tab3_ok (tab4_ok (tab5_ok (tab6_ok (tab7_ok trivial)))))))
  intro t d ht
  unfold ty at ht
  split at ht
  · rename_i d' hd
    have := h.get t _ hd
    cases ht
    simpa using this
  · cases ht

theorem ent_of {f : FuncId} {fn : Func} (hf : Try.prog.funcs[f]? = some fn) (hn : (fn.name == "runtime.NumGoroutine") = false) (hb : fn.body.isSome = true) : Ent Try.prog f := fun args w => by
  have h1 : fn.name ≠ "runtime.NumGoroutine" := by simpa using hn
  obtain ⟨c, hc⟩ := Option.isSome_iff_exists.1 hb
  simp [callFunc, hf, h1, hc, program, Sem.run]
theorem ent3 : Ent Try.prog 3 := ent_of Try.func3 (by kernel_rfl) rfl
theorem ent4 : Ent Try.prog 4 := ent_of Try.func4 (by kernel_rfl) rfl
theorem ent5 : Ent Try.prog 5 := ent_of Try.func5 (by kernel_rfl) rfl
theorem ent6 : Ent Try.prog 6 := ent_of Try.func6 (by kernel_rfl) rfl
theorem ent7 : Ent Try.prog 7 := ent_of Try.func7 (by kernel_rfl) rfl
theorem ent8 : Ent Try.prog 8 := ent_of Try.func8 (by kernel_rfl) rfl
theorem ent9 : Ent Try.prog 9 := ent_of Try.func9 (by kernel_rfl) rfl
theorem ent10 : Ent Try.prog 10 := ent_of Try.func10 (by kernel_rfl) rfl
theorem ent11 : Ent Try.prog 11 := ent_of Try.func11 (by kernel_rfl) rfl
theorem ent12 : Ent Try.prog 12 := ent_of Try.func12 (by kernel_rfl) rfl
theorem ent13 : Ent Try.prog 13 := ent_of Try.func13 (by kernel_rfl) rfl
theorem ent14 : Ent Try.prog 14 := ent_of Try.func14 (by kernel_rfl) rfl
theorem ent15 : Ent Try.prog 15 := ent_of Try.func15 (by kernel_rfl) rfl
theorem ent16 : Ent Try.prog 16 := ent_of Try.func16 (by kernel_rfl) rfl
theorem ent17 : Ent Try.prog 17 := ent_of Try.func17 (by kernel_rfl) rfl
theorem ent18 : Ent Try.prog 18 := ent_of Try.func18 (by kernel_rfl) rfl
theorem ent19 : Ent Try.prog 19 := ent_of Try.func19 (by kernel_rfl) rfl
theorem ent20 : Ent Try.prog 20 := ent_of Try.func20 (by kernel_rfl) rfl
theorem ent21 : Ent Try.prog 21 := ent_of Try.func21 (by kernel_rfl) rfl
theorem ent22 : Ent Try.prog 22 := ent_of Try.func22 (by kernel_rfl) rfl
theorem ent23 : Ent Try.prog 23 := ent_of Try.func23 (by kernel_rfl) rfl
theorem ent24 : Ent Try.prog 24 := ent_of Try.func24 (by kernel_rfl) rfl
theorem ent25 : Ent Try.prog 25 := ent_of Try.func25 (by kernel_rfl) rfl
theorem ent26 : Ent Try.prog 26 := ent_of Try.func26 (by kernel_rfl) rfl
theorem ent27 : Ent Try.prog 27 := ent_of Try.func27 (by kernel_rfl) rfl
theorem ent28 : Ent Try.prog 28 := ent_of Try.func28 (by kernel_rfl) rfl
theorem ent29 : Ent Try.prog 29 := ent_of Try.func29 (by kernel_rfl) rfl
theorem ent30 : Ent Try.prog 30 := ent_of Try.func30 (by kernel_rfl) rfl
theorem ent31 : Ent Try.prog 31 := ent_of Try.func31 (by kernel_rfl) rfl
theorem ent32 : Ent Try.prog 32 := ent_of Try.func32 (by kernel_rfl) rfl
theorem ent33 : Ent Try.prog 33 := ent_of Try.func33 (by kernel_rfl) rfl
theorem ent34 : Ent Try.prog 34 := ent_of Try.func34 (by kernel_rfl) rfl
theorem ent35 : Ent Try.prog 35 := ent_of Try.func35 (by kernel_rfl) rfl
theorem ent36 : Ent Try.prog 36 := ent_of Try.func36 (by kernel_rfl) rfl
theorem ent37 : Ent Try.prog 37 := ent_of Try.func37 (by kernel_rfl) rfl
theorem ent38 : Ent Try.prog 38 := ent_of Try.func38 (by kernel_rfl) rfl
theorem ent39 : Ent Try.prog 39 := ent_of Try.func39 (by kernel_rfl) rfl
theorem ent40 : Ent Try.prog 40 := ent_of Try.func40 (by kernel_rfl) rfl
theorem ent41 : Ent Try.prog 41 := ent_of Try.func41 (by kernel_rfl) rfl
theorem ent42 : Ent Try.prog 42 := ent_of Try.func42 (by kernel_rfl) rfl
theorem ent43 : Ent Try.prog 43 := ent_of Try.func43 (by kernel_rfl) rfl
theorem ent44 : Ent Try.prog 44 := ent_of Try.func44 (by kernel_rfl) rfl
theorem ent45 : Ent Try.prog 45 := ent_of Try.func45 (by kernel_rfl) rfl
theorem ent46 : Ent Try.prog 46 := ent_of Try.func46 (by kernel_rfl) rfl
theorem ent47 : Ent Try.prog 47 := ent_of Try.func47 (by kernel_rfl) rfl
theorem ent48 : Ent Try.prog 48 := ent_of Try.func48 (by kernel_rfl) rfl
theorem ent49 : Ent Try.prog 49 := ent_of Try.func49 (by kernel_rfl) rfl
theorem ent50 : Ent Try.prog 50 := ent_of Try.func50 (by kernel_rfl) rfl
theorem ent51 : Ent Try.prog 51 := ent_of Try.func51 (by kernel_rfl) rfl
theorem ent52 : Ent Try.prog 52 := ent_of Try.func52 (by kernel_rfl) rfl
theorem ent53 : Ent Try.prog 53 := ent_of Try.func53 (by kernel_rfl) rfl
theorem ent54 : Ent Try.prog 54 := ent_of Try.func54 (by kernel_rfl) rfl
theorem ent55 : Ent Try.prog 55 := ent_of Try.func55 (by kernel_rfl) rfl
theorem ent56 : Ent Try.prog 56 := ent_of Try.func56 (by kernel_rfl) rfl
theorem ent57 : Ent Try.prog 57 := ent_of Try.func57 (by kernel_rfl) rfl
theorem ent58 : Ent Try.prog 58 := ent_of Try.func58 (by kernel_rfl) rfl
theorem ent59 : Ent Try.prog 59 := ent_of Try.func59 (by kernel_rfl) rfl
theorem ent60 : Ent Try.prog 60 := ent_of Try.func60 (by kernel_rfl) rfl
theorem ent61 : Ent Try.prog 61 := ent_of Try.func61 (by kernel_rfl) rfl
theorem ent62 : Ent Try.prog 62 := ent_of Try.func62 (by kernel_rfl) rfl
theorem ent63 : Ent Try.prog 63 := ent_of Try.func63 (by kernel_rfl) rfl
theorem ent64 : Ent Try.prog 64 := ent_of Try.func64 (by kernel_rfl) rfl
theorem ent65 : Ent Try.prog 65 := ent_of Try.func65 (by kernel_rfl) rfl
theorem ent66 : Ent Try.prog 66 := ent_of Try.func66 (by kernel_rfl) rfl
theorem ent67 : Ent Try.prog 67 := ent_of Try.func67 (by kernel_rfl) rfl
theorem ent68 : Ent Try.prog 68 := ent_of Try.func68 (by kernel_rfl) rfl
theorem ent69 : Ent Try.prog 69 := ent_of Try.func69 (by kernel_rfl) rfl
theorem ent70 : Ent Try.prog 70 := ent_of Try.func70 (by kernel_rfl) rfl
theorem ent71 : Ent Try.prog 71 := ent_of Try.func71 (by kernel_rfl) rfl
theorem ent72 : Ent Try.prog 72 := ent_of Try.func72 (by kernel_rfl) rfl
theorem ent73 : Ent Try.prog 73 := ent_of Try.func73 (by kernel_rfl) rfl
theorem ent74 : Ent Try.prog 74 := ent_of Try.func74 (by kernel_rfl) rfl
theorem ent75 : Ent Try.prog 75 := ent_of Try.func75 (by kernel_rfl) rfl
theorem ent76 : Ent Try.prog 76 := ent_of Try.func76 (by kernel_rfl) rfl
theorem ent77 : Ent Try.prog 77 := ent_of Try.func77 (by kernel_rfl) rfl
theorem ent78 : Ent Try.prog 78 := ent_of Try.func78 (by kernel_rfl) rfl
theorem ent79 : Ent Try.prog 79 := ent_of Try.func79 (by kernel_rfl) rfl
theorem ent80 : Ent Try.prog 80 := ent_of Try.func80 (by kernel_rfl) rfl
theorem ent81 : Ent Try.prog 81 := ent_of Try.func81 (by kernel_rfl) rfl
theorem ent82 : Ent Try.prog 82 := ent_of Try.func82 (by kernel_rfl) rfl
theorem ent83 : Ent Try.prog 83 := ent_of Try.func83 (by kernel_rfl) rfl
theorem ent84 : Ent Try.prog 84 := ent_of Try.func84 (by kernel_rfl) rfl
theorem ent85 : Ent Try.prog 85 := ent_of Try.func85 (by kernel_rfl) rfl
theorem ent86 : Ent Try.prog 86 := ent_of Try.func86 (by kernel_rfl) rfl
theorem ent87 : Ent Try.prog 87 := ent_of Try.func87 (by kernel_rfl) rfl
theorem ent88 : Ent Try.prog 88 := ent_of Try.func88 (by kernel_rfl) rfl
theorem ent89 : Ent Try.prog 89 := ent_of Try.func89 (by kernel_rfl) rfl
theorem ent90 : Ent Try.prog 90 := ent_of Try.func90 (by kernel_rfl) rfl
theorem ent91 : Ent Try.prog 91 := ent_of Try.func91 (by kernel_rfl) rfl
theorem ent92 : Ent Try.prog 92 := ent_of Try.func92 (by kernel_rfl) rfl
theorem ent93 : Ent Try.prog 93 := ent_of Try.func93 (by kernel_rfl) rfl
theorem ent94 : Ent Try.prog 94 := ent_of Try.func94 (by kernel_rfl) rfl
theorem ent95 : Ent Try.prog 95 := ent_of Try.func95 (by kernel_rfl) rfl
theorem ent96 : Ent Try.prog 96 := ent_of Try.func96 (by kernel_rfl) rfl
theorem ent97 : Ent Try.prog 97 := ent_of Try.func97 (by kernel_rfl) rfl
theorem ent98 : Ent Try.prog 98 := ent_of Try.func98 (by kernel_rfl) rfl
theorem ent99 : Ent Try.prog 99 := ent_of Try.func99 (by kernel_rfl) rfl
theorem ent100 : Ent Try.prog 100 := ent_of Try.func100 (by kernel_rfl) rfl
theorem ent101 : Ent Try.prog 101 := ent_of Try.func101 (by kernel_rfl) rfl
theorem ent102 : Ent Try.prog 102 := ent_of Try.func102 (by kernel_rfl) rfl
theorem ent103 : Ent Try.prog 103 := ent_of Try.func103 (by kernel_rfl) rfl
theorem ent104 : Ent Try.prog 104 := ent_of Try.func104 (by kernel_rfl) rfl
theorem ent105 : Ent Try.prog 105 := ent_of Try.func105 (by kernel_rfl) rfl
theorem ent106 : Ent Try.prog 106 := ent_of Try.func106 (by kernel_rfl) rfl
theorem ent107 : Ent Try.prog 107 := ent_of Try.func107 (by kernel_rfl) rfl
theorem ent108 : Ent Try.prog 108 := ent_of Try.func108 (by kernel_rfl) rfl
theorem ent109 : Ent Try.prog 109 := ent_of Try.func109 (by kernel_rfl) rfl
theorem ent110 : Ent Try.prog 110 := ent_of Try.func110 (by kernel_rfl) rfl
theorem ent111 : Ent Try.prog 111 := ent_of Try.func111 (by kernel_rfl) rfl
theorem ent112 : Ent Try.prog 112 := ent_of Try.func112 (by kernel_rfl) rfl
theorem ent113 : Ent Try.prog 113 := ent_of Try.func113 (by kernel_rfl) rfl
theorem ent114 : Ent Try.prog 114 := ent_of Try.func114 (by kernel_rfl) rfl
theorem ent115 : Ent Try.prog 115 := ent_of Try.func115 (by kernel_rfl) rfl
theorem ent116 : Ent Try.prog 116 := ent_of Try.func116 (by kernel_rfl) rfl
theorem ent117 : Ent Try.prog 117 := ent_of Try.func117 (by kernel_rfl) rfl
theorem ent118 : Ent Try.prog 118 := ent_of Try.func118 (by kernel_rfl) rfl
theorem ent119 : Ent Try.prog 119 := ent_of Try.func119 (by kernel_rfl) rfl
theorem ent120 : Ent Try.prog 120 := ent_of Try.func120 (by kernel_rfl) rfl
theorem ent121 : Ent Try.prog 121 := ent_of Try.func121 (by kernel_rfl) rfl
theorem ent122 : Ent Try.prog 122 := ent_of Try.func122 (by kernel_rfl) rfl
theorem ent123 : Ent Try.prog 123 := ent_of Try.func123 (by kernel_rfl) rfl
theorem ent124 : Ent Try.prog 124 := ent_of Try.func124 (by kernel_rfl) rfl
theorem ent125 : Ent Try.prog 125 := ent_of Try.func125 (by kernel_rfl) rfl
theorem ent126 : Ent Try.prog 126 := ent_of Try.func126 (by kernel_rfl) rfl
theorem ent127 : Ent Try.prog 127 := ent_of Try.func127 (by kernel_rfl) rfl
theorem ent128 : Ent Try.prog 128 := ent_of Try.func128 (by kernel_rfl) rfl
theorem ent129 : Ent Try.prog 129 := ent_of Try.func129 (by kernel_rfl) rfl
theorem ent130 : Ent Try.prog 130 := ent_of Try.func130 (by kernel_rfl) rfl
theorem ent131 : Ent Try.prog 131 := ent_of Try.func131 (by kernel_rfl) rfl
theorem ent132 : Ent Try.prog 132 := ent_of Try.func132 (by kernel_rfl) rfl
theorem ent133 : Ent Try.prog 133 := ent_of Try.func133 (by kernel_rfl) rfl
theorem ent134 : Ent Try.prog 134 := ent_of Try.func134 (by kernel_rfl) rfl
theorem ent135 : Ent Try.prog 135 := ent_of Try.func135 (by kernel_rfl) rfl
theorem ent136 : Ent Try.prog 136 := ent_of Try.func136 (by kernel_rfl) rfl
theorem ent137 : Ent Try.prog 137 := ent_of Try.func137 (by kernel_rfl) rfl
theorem ent138 : Ent Try.prog 138 := ent_of Try.func138 (by kernel_rfl) rfl
theorem ent139 : Ent Try.prog 139 := ent_of Try.func139 (by kernel_rfl) rfl
theorem ent140 : Ent Try.prog 140 := ent_of Try.func140 (by kernel_rfl) rfl
theorem ent141 : Ent Try.prog 141 := ent_of Try.func141 (by kernel_rfl) rfl
theorem ent142 : Ent Try.prog 142 := ent_of Try.func142 (by kernel_rfl) rfl
theorem ent143 : Ent Try.prog 143 := ent_of Try.func143 (by kernel_rfl) rfl
theorem ent144 : Ent Try.prog 144 := ent_of Try.func144 (by kernel_rfl) rfl
theorem ent145 : Ent Try.prog 145 := ent_of Try.func145 (by kernel_rfl) rfl
theorem ent146 : Ent Try.prog 146 := ent_of Try.func146 (by kernel_rfl) rfl
theorem ent147 : Ent Try.prog 147 := ent_of Try.func147 (by kernel_rfl) rfl
theorem ent148 : Ent Try.prog 148 := ent_of Try.func148 (by kernel_rfl) rfl
theorem ent149 : Ent Try.prog 149 := ent_of Try.func149 (by kernel_rfl) rfl
theorem ent150 : Ent Try.prog 150 := ent_of Try.func150 (by kernel_rfl) rfl
theorem ent151 : Ent Try.prog 151 := ent_of Try.func151 (by kernel_rfl) rfl
theorem ent152 : Ent Try.prog 152 := ent_of Try.func152 (by kernel_rfl) rfl
theorem ent153 : Ent Try.prog 153 := ent_of Try.func153 (by kernel_rfl) rfl
theorem ent154 : Ent Try.prog 154 := ent_of Try.func154 (by kernel_rfl) rfl
theorem ent155 : Ent Try.prog 155 := ent_of Try.func155 (by kernel_rfl) rfl
theorem ent156 : Ent Try.prog 156 := ent_of Try.func156 (by kernel_rfl) rfl
theorem ent157 : Ent Try.prog 157 := ent_of Try.func157 (by kernel_rfl) rfl
theorem ent158 : Ent Try.prog 158 := ent_of Try.func158 (by kernel_rfl) rfl
theorem ent159 : Ent Try.prog 159 := ent_of Try.func159 (by kernel_rfl) rfl
theorem ent160 : Ent Try.prog 160 := ent_of Try.func160 (by kernel_rfl) rfl
theorem ent161 : Ent Try.prog 161 := ent_of Try.func161 (by kernel_rfl) rfl
theorem ent162 : Ent Try.prog 162 := ent_of Try.func162 (by kernel_rfl) rfl
theorem ent163 : Ent Try.prog 163 := ent_of Try.func163 (by kernel_rfl) rfl
theorem ent164 : Ent Try.prog 164 := ent_of Try.func164 (by kernel_rfl) rfl
theorem ent165 : Ent Try.prog 165 := ent_of Try.func165 (by kernel_rfl) rfl
theorem ent166 : Ent Try.prog 166 := ent_of Try.func166 (by kernel_rfl) rfl
theorem ent167 : Ent Try.prog 167 := ent_of Try.func167 (by kernel_rfl) rfl
theorem ent168 : Ent Try.prog 168 := ent_of Try.func168 (by kernel_rfl) rfl
theorem ent169 : Ent Try.prog 169 := ent_of Try.func169 (by kernel_rfl) rfl
theorem ent170 : Ent Try.prog 170 := ent_of Try.func170 (by kernel_rfl) rfl
theorem ent171 : Ent Try.prog 171 := ent_of Try.func171 (by kernel_rfl) rfl
theorem ent172 : Ent Try.prog 172 := ent_of Try.func172 (by kernel_rfl) rfl
theorem ent173 : Ent Try.prog 173 := ent_of Try.func173 (by kernel_rfl) rfl
theorem ent174 : Ent Try.prog 174 := ent_of Try.func174 (by kernel_rfl) rfl
theorem ent175 : Ent Try.prog 175 := ent_of Try.func175 (by kernel_rfl) rfl
theorem ent176 : Ent Try.prog 176 := ent_of Try.func176 (by kernel_rfl) rfl
theorem ent177 : Ent Try.prog 177 := ent_of Try.func177 (by kernel_rfl) rfl
theorem ent178 : Ent Try.prog 178 := ent_of Try.func178 (by kernel_rfl) rfl
theorem ent179 : Ent Try.prog 179 := ent_of Try.func179 (by kernel_rfl) rfl
theorem ent180 : Ent Try.prog 180 := ent_of Try.func180 (by kernel_rfl) rfl
theorem ent181 : Ent Try.prog 181 := ent_of Try.func181 (by kernel_rfl) rfl
theorem ent182 : Ent Try.prog 182 := ent_of Try.func182 (by kernel_rfl) rfl
theorem ent183 : Ent Try.prog 183 := ent_of Try.func183 (by kernel_rfl) rfl
theorem ent184 : Ent Try.prog 184 := ent_of Try.func184 (by kernel_rfl) rfl
theorem ent185 : Ent Try.prog 185 := ent_of Try.func185 (by kernel_rfl) rfl
theorem ent186 : Ent Try.prog 186 := ent_of Try.func186 (by kernel_rfl) rfl
theorem ent187 : Ent Try.prog 187 := ent_of Try.func187 (by kernel_rfl) rfl
theorem ent188 : Ent Try.prog 188 := ent_of Try.func188 (by kernel_rfl) rfl
theorem ent189 : Ent Try.prog 189 := ent_of Try.func189 (by kernel_rfl) rfl
theorem ent190 : Ent Try.prog 190 := ent_of Try.func190 (by kernel_rfl) rfl
theorem ent191 : Ent Try.prog 191 := ent_of Try.func191 (by kernel_rfl) rfl
theorem ent192 : Ent Try.prog 192 := ent_of Try.func192 (by kernel_rfl) rfl
theorem ent193 : Ent Try.prog 193 := ent_of Try.func193 (by kernel_rfl) rfl
theorem ent194 : Ent Try.prog 194 := ent_of Try.func194 (by kernel_rfl) rfl
theorem ent195 : Ent Try.prog 195 := ent_of Try.func195 (by kernel_rfl) rfl
theorem ent196 : Ent Try.prog 196 := ent_of Try.func196 (by kernel_rfl) rfl
theorem ent197 : Ent Try.prog 197 := ent_of Try.func197 (by kernel_rfl) rfl
theorem ent198 : Ent Try.prog 198 := ent_of Try.func198 (by kernel_rfl) rfl
theorem ent199 : Ent Try.prog 199 := ent_of Try.func199 (by kernel_rfl) rfl
theorem ent200 : Ent Try.prog 200 := ent_of Try.func200 (by kernel_rfl) rfl
theorem ent201 : Ent Try.prog 201 := ent_of Try.func201 (by kernel_rfl) rfl
theorem ent202 : Ent Try.prog 202 := ent_of Try.func202 (by kernel_rfl) rfl
theorem ent203 : Ent Try.prog 203 := ent_of Try.func203 (by kernel_rfl) rfl
theorem ent204 : Ent Try.prog 204 := ent_of Try.func204 (by kernel_rfl) rfl
theorem ent205 : Ent Try.prog 205 := ent_of Try.func205 (by kernel_rfl) rfl
theorem ent206 : Ent Try.prog 206 := ent_of Try.func206 (by kernel_rfl) rfl
theorem ent207 : Ent Try.prog 207 := ent_of Try.func207 (by kernel_rfl) rfl
theorem ent208 : Ent Try.prog 208 := ent_of Try.func208 (by kernel_rfl) rfl
theorem ent209 : Ent Try.prog 209 := ent_of Try.func209 (by kernel_rfl) rfl
theorem ent210 : Ent Try.prog 210 := ent_of Try.func210 (by kernel_rfl) rfl
theorem ent211 : Ent Try.prog 211 := ent_of Try.func211 (by kernel_rfl) rfl
theorem ent212 : Ent Try.prog 212 := ent_of Try.func212 (by kernel_rfl) rfl
theorem ent213 : Ent Try.prog 213 := ent_of Try.func213 (by kernel_rfl) rfl
theorem ent214 : Ent Try.prog 214 := ent_of Try.func214 (by kernel_rfl) rfl
theorem ent215 : Ent Try.prog 215 := ent_of Try.func215 (by kernel_rfl) rfl
theorem ent216 : Ent Try.prog 216 := ent_of Try.func216 (by kernel_rfl) rfl
theorem ent217 : Ent Try.prog 217 := ent_of Try.func217 (by kernel_rfl) rfl
theorem ent218 : Ent Try.prog 218 := ent_of Try.func218 (by kernel_rfl) rfl
theorem ent219 : Ent Try.prog 219 := ent_of Try.func219 (by kernel_rfl) rfl
theorem ent220 : Ent Try.prog 220 := ent_of Try.func220 (by kernel_rfl) rfl
theorem ent221 : Ent Try.prog 221 := ent_of Try.func221 (by kernel_rfl) rfl
theorem ent222 : Ent Try.prog 222 := ent_of Try.func222 (by kernel_rfl) rfl
theorem ent223 : Ent Try.prog 223 := ent_of Try.func223 (by kernel_rfl) rfl
theorem ent224 : Ent Try.prog 224 := ent_of Try.func224 (by kernel_rfl) rfl
theorem ent225 : Ent Try.prog 225 := ent_of Try.func225 (by kernel_rfl) rfl
theorem ent226 : Ent Try.prog 226 := ent_of Try.func226 (by kernel_rfl) rfl
theorem ent227 : Ent Try.prog 227 := ent_of Try.func227 (by kernel_rfl) rfl
theorem ent228 : Ent Try.prog 228 := ent_of Try.func228 (by kernel_rfl) rfl
theorem ent229 : Ent Try.prog 229 := ent_of Try.func229 (by kernel_rfl) rfl
theorem ent230 : Ent Try.prog 230 := ent_of Try.func230 (by kernel_rfl) rfl
theorem ent231 : Ent Try.prog 231 := ent_of Try.func231 (by kernel_rfl) rfl
theorem ent232 : Ent Try.prog 232 := ent_of Try.func232 (by kernel_rfl) rfl
theorem ent233 : Ent Try.prog 233 := ent_of Try.func233 (by kernel_rfl) rfl
theorem ent234 : Ent Try.prog 234 := ent_of Try.func234 (by kernel_rfl) rfl
theorem ent235 : Ent Try.prog 235 := ent_of Try.func235 (by kernel_rfl) rfl
theorem ent236 : Ent Try.prog 236 := ent_of Try.func236 (by kernel_rfl) rfl
theorem ent237 : Ent Try.prog 237 := ent_of Try.func237 (by kernel_rfl) rfl
theorem ent238 : Ent Try.prog 238 := ent_of Try.func238 (by kernel_rfl) rfl
theorem ent239 : Ent Try.prog 239 := ent_of Try.func239 (by kernel_rfl) rfl
theorem ent240 : Ent Try.prog 240 := ent_of Try.func240 (by kernel_rfl) rfl
theorem ent241 : Ent Try.prog 241 := ent_of Try.func241 (by kernel_rfl) rfl
theorem ent242 : Ent Try.prog 242 := ent_of Try.func242 (by kernel_rfl) rfl
theorem ent243 : Ent Try.prog 243 := ent_of Try.func243 (by kernel_rfl) rfl
theorem ent244 : Ent Try.prog 244 := ent_of Try.func244 (by kernel_rfl) rfl
theorem ent245 : Ent Try.prog 245 := ent_of Try.func245 (by kernel_rfl) rfl
theorem ent246 : Ent Try.prog 246 := ent_of Try.func246 (by kernel_rfl) rfl
theorem ent247 : Ent Try.prog 247 := ent_of Try.func247 (by kernel_rfl) rfl
theorem ent248 : Ent Try.prog 248 := ent_of Try.func248 (by kernel_rfl) rfl
theorem ent249 : Ent Try.prog 249 := ent_of Try.func249 (by kernel_rfl) rfl
theorem ent250 : Ent Try.prog 250 := ent_of Try.func250 (by kernel_rfl) rfl
theorem ent251 : Ent Try.prog 251 := ent_of Try.func251 (by kernel_rfl) rfl
theorem ent252 : Ent Try.prog 252 := ent_of Try.func252 (by kernel_rfl) rfl
theorem ent253 : Ent Try.prog 253 := ent_of Try.func253 (by kernel_rfl) rfl
theorem ent254 : Ent Try.prog 254 := ent_of Try.func254 (by kernel_rfl) rfl
theorem ent255 : Ent Try.prog 255 := ent_of Try.func255 (by kernel_rfl) rfl
theorem ent256 : Ent Try.prog 256 := ent_of Try.func256 (by kernel_rfl) rfl
theorem ent257 : Ent Try.prog 257 := ent_of Try.func257 (by kernel_rfl) rfl
theorem ent258 : Ent Try.prog 258 := ent_of Try.func258 (by kernel_rfl) rfl
theorem ent259 : Ent Try.prog 259 := ent_of Try.func259 (by kernel_rfl) rfl
theorem ent260 : Ent Try.prog 260 := ent_of Try.func260 (by kernel_rfl) rfl
theorem ent261 : Ent Try.prog 261 := ent_of Try.func261 (by kernel_rfl) rfl
theorem ent262 : Ent Try.prog 262 := ent_of Try.func262 (by kernel_rfl) rfl
theorem ent263 : Ent Try.prog 263 := ent_of Try.func263 (by kernel_rfl) rfl
theorem ent264 : Ent Try.prog 264 := ent_of Try.func264 (by kernel_rfl) rfl
theorem ent265 : Ent Try.prog 265 := ent_of Try.func265 (by kernel_rfl) rfl
theorem ent266 : Ent Try.prog 266 := ent_of Try.func266 (by kernel_rfl) rfl
theorem ent267 : Ent Try.prog 267 := ent_of Try.func267 (by kernel_rfl) rfl
theorem ent268 : Ent Try.prog 268 := ent_of Try.func268 (by kernel_rfl) rfl
theorem sok22 : SOk Try.prog 22 [(3, 0), (3, 1), (9, 2)] := ⟨⟨_, Try.underlying22, rfl, rfl⟩, by kernel_rfl, by kernel_rfl⟩
theorem sok23 : SOk Try.prog 23 [(3, 0), (3, 1), (9, 2)] := ⟨⟨_, Try.underlying23, rfl, rfl⟩, by kernel_rfl, by kernel_rfl⟩
theorem sok24 : SOk Try.prog 24 [(9, 0), (3, 1), (3, 2)] := ⟨⟨_, Try.underlying24, rfl, rfl⟩, by kernel_rfl, by kernel_rfl⟩
theorem sok25 : SOk Try.prog 25 [(9, 0), (3, 1), (3, 2)] := ⟨⟨_, Try.underlying25, rfl, rfl⟩, by kernel_rfl, by kernel_rfl⟩
theorem sok37 : SOk Try.prog 37 [(3, 0), (3, 1), (3, 2)] := ⟨⟨_, Try.underlying37, rfl, rfl⟩, by kernel_rfl, by kernel_rfl⟩
theorem sok38 : SOk Try.prog 38 [(3, 0), (3, 1), (3, 2)] := ⟨⟨_, Try.underlying38, rfl, rfl⟩, by kernel_rfl, by kernel_rfl⟩
theorem sok54 : SOk Try.prog 54 [(25, 0), (25, 3)] := ⟨⟨_, Try.underlying54, rfl, rfl⟩, by kernel_rfl, by kernel_rfl⟩
theorem sok55 : SOk Try.prog 55 [(25, 0), (25, 3)] := ⟨⟨_, Try.underlying55, rfl, rfl⟩, by kernel_rfl, by kernel_rfl⟩
theorem sok80 : SOk Try.prog 80 [(38, 0), (3, 3)] := ⟨⟨_, Try.underlying80, rfl, rfl⟩, by kernel_rfl, by kernel_rfl⟩
theorem sok81 : SOk Try.prog 81 [(38, 0), (3, 3)] := ⟨⟨_, Try.underlying81, rfl, rfl⟩, by kernel_rfl, by kernel_rfl⟩
theorem sok82 : SOk Try.prog 82 [(38, 0), (3, 3)] := ⟨⟨_, Try.underlying82, rfl, rfl⟩, by kernel_rfl, by kernel_rfl⟩
theorem sok95 : SOk Try.prog 95 [(38, 0), (3, 3)] := ⟨⟨_, Try.underlying95, rfl, rfl⟩, by kernel_rfl, by kernel_rfl⟩
theorem sok119 : SOk Try.prog 119 [(25, 0), (23, 3)] := ⟨⟨_, Try.underlying119, rfl, rfl⟩, by kernel_rfl, by kernel_rfl⟩
theorem sok120 : SOk Try.prog 120 [(25, 0), (23, 3)] := ⟨⟨_, Try.underlying120, rfl, rfl⟩, by kernel_rfl, by kernel_rfl⟩
def eqs : List TypeId := [22, 23, 24, 25, 37, 38, 54, 55, 80, 81, 82, 95, 119, 120]
theorem eqs_ok : EqOk Try.prog tab eqs := by
  intro t fs a b z hm ht
  have hm : t ∈ eqs := by simpa using hm
  simp only [eqs, List.mem_cons, List.not_mem_nil, or_false] at hm
  rcases hm with rfl | rfl | rfl | rfl | rfl | rfl | rfl | rfl | rfl | rfl | rfl | rfl | rfl | rfl
  · cases ht; exact sok22
  · cases ht; exact sok23
  · cases ht; exact sok24
  · cases ht; exact sok25
  · cases ht; exact sok37
  · cases ht; exact sok38
  · cases ht; exact sok54
  · cases ht; exact sok55
  · cases ht; exact sok80
  · cases ht; exact sok81
  · cases ht; exact sok82
  · cases ht; exact sok95
  · cases ht; exact sok119
  · cases ht; exact sok120
theorem mixed : Try.prog.follows .mixedOrders = true := by kernel_rfl
end Go.Proofs.Ytkgjfcjciigcgaa
