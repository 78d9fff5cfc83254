/-
  The types, the struct fields and the functions of this translation, as the rules ask for them. The data of the program: types and terms as trees, and how they lie in memory. What the functions of the program compute, in plain words over trees. Terms in memory of their own; slices that were made, filled and given up. The laws' mark texts: the letter m and a number's digits. Lists of paths: what they are in plain words, and how fresh ones lie in memory.
-/
import Derived.Test.YtlefgfdhlblahaaKa0
import Derived.Test.YtlefgfdhlblahaaChecked
import Derived.Laws.BytesArg
namespace Go.Proofs.Ytlefgfdhlblahaa
open Go
namespace Gw
theorem tyI_of {P : Program} {t : TypeId} {n b : Nat} {zs : List Value} {d : TypeDesc} (h : (P.info? t).map (fun i => (i.size, i.bytes, i.zero.map Value.cells)) = some (n, b, some ⟨zs⟩)) (hu : P.underlying t = some d) : TyI P t ⟨n, b, zs, d⟩ := by
  refine ⟨?_, hu⟩
  cases hi : P.info? t with
  | none => simp [hi] at h
  | some i =>
    simp only [hi, Option.map_some, Option.some.injEq, Prod.mk.injEq] at h
    obtain ⟨h1, h2, h3⟩ := h
    cases hz : i.zero with
    | none => simp [hz] at h3
    | some z => simp only [hz, Option.map_some, Option.some.injEq] at h3; exact ⟨i, rfl, h1, h2, z, hz, h3⟩
theorem fldI_of {P : Program} {s f off sz : Nat} {ft : TypeId} {ag : Bool} {fs : Array Field} {d : TypeDesc} {r : TyR} (hI : TyI P ft r) (hs : P.underlying s = some (.struct fs)) (hf : (fs[f]?).map (fun x => (x.offset, x.type)) = some (off, ft)) (h1 : r.size = sz) (h2 : sz ≠ 0) (h3 : r.desc = d) (h4 : aggD d = ag) : FldI P s f off sz ag := by
  cases hx : fs[f]? with
  | none => simp [hx] at hf
  | some x =>
    simp [hx] at hf
    obtain ⟨rfl, rfl⟩ := hf
    obtain ⟨inf, g1, g2, _⟩ := hI.info
    exact ⟨fs, x, d, inf, hs, hx, rfl, g1, by rw [g2, h1], h2, by rw [← h3]; exact hI.und, h4⟩
theorem funI_of {P : Program} {f : Nat} {fn : Func} (h : P.funcs[f]? = some fn) (h1 : fn.body.isNone = false) (h2 : (fn.name == "runtime.NumGoroutine") = false) : FunI P f := ⟨fn, h, h1, h2⟩
instance ty1 : TyI Try.prog 1 ⟨1, 8, [.nilFunc], (TypeDesc.func #[] #[] false)⟩ := tyI_of (by kernel_rfl) Try.underlying1
instance ty2 : TyI Try.prog 2 ⟨1, 8, [.int .i64 0], (TypeDesc.int IntKind.i64)⟩ := tyI_of (by kernel_rfl) Try.underlying2
instance ty3 : TyI Try.prog 3 ⟨1, 8, [.int .i64 0], (TypeDesc.int IntKind.i64)⟩ := tyI_of (by kernel_rfl) Try.underlying3
instance ty4 : TyI Try.prog 4 ⟨1, 1, [.bool false], TypeDesc.bool⟩ := tyI_of (by kernel_rfl) Try.underlying4
instance ty5 : TyI Try.prog 5 ⟨1, 1, [.int .u8 0], (TypeDesc.int IntKind.u8)⟩ := tyI_of (by kernel_rfl) Try.underlying5
instance ty6 : TyI Try.prog 6 ⟨1, 1, [.int .u8 0], (TypeDesc.int IntKind.u8)⟩ := tyI_of (by kernel_rfl) Try.underlying6
instance ty7 : TyI Try.prog 7 ⟨4, 24, [.int .i64 0, .int .i64 0, .bool false, .int .u8 0], (TypeDesc.struct #[{ name := "x", type := 2, offset := 0, embedded := false, tag := "", pkgPath := "runtime", byteOffset := 0 }, { name := "y", type := 3, offset := 1, embedded := false, tag := "", pkgPath := "runtime", byteOffset := 8 }, { name := "signed", type := 4, offset := 2, embedded := false, tag := "", pkgPath := "runtime", byteOffset := 16 }, { name := "code", type := 6, offset := 3, embedded := false, tag := "", pkgPath := "runtime", byteOffset := 17 }])⟩ := tyI_of (by kernel_rfl) Try.underlying7
instance ty8 : TyI Try.prog 8 ⟨4, 24, [.int .i64 0, .int .i64 0, .bool false, .int .u8 0], (TypeDesc.struct #[{ name := "x", type := 2, offset := 0, embedded := false, tag := "", pkgPath := "runtime", byteOffset := 0 }, { name := "y", type := 3, offset := 1, embedded := false, tag := "", pkgPath := "runtime", byteOffset := 8 }, { name := "signed", type := 4, offset := 2, embedded := false, tag := "", pkgPath := "runtime", byteOffset := 16 }, { name := "code", type := 6, offset := 3, embedded := false, tag := "", pkgPath := "runtime", byteOffset := 17 }])⟩ := tyI_of (by kernel_rfl) Try.underlying8
instance ty9 : TyI Try.prog 9 ⟨1, 16, [.string ByteArray.empty], TypeDesc.string⟩ := tyI_of (by kernel_rfl) Try.underlying9
instance ty10 : TyI Try.prog 10 ⟨1, 16, [.string ByteArray.empty], TypeDesc.string⟩ := tyI_of (by kernel_rfl) Try.underlying10
instance ty11 : TyI Try.prog 11 ⟨1, 16, [.string ByteArray.empty], TypeDesc.string⟩ := tyI_of (by kernel_rfl) Try.underlying11
instance ty12 : TyI Try.prog 12 ⟨1, 8, [.int .u64 0], (TypeDesc.int IntKind.u64)⟩ := tyI_of (by kernel_rfl) Try.underlying12
instance ty13 : TyI Try.prog 13 ⟨2, 24, [.string ByteArray.empty, .int .u64 0], (TypeDesc.struct #[{ name := "msg", type := 9, offset := 0, embedded := false, tag := "", pkgPath := "runtime", byteOffset := 0 }, { name := "addr", type := 12, offset := 1, embedded := false, tag := "", pkgPath := "runtime", byteOffset := 16 }])⟩ := tyI_of (by kernel_rfl) Try.underlying13
instance ty14 : TyI Try.prog 14 ⟨2, 24, [.string ByteArray.empty, .int .u64 0], (TypeDesc.struct #[{ name := "msg", type := 9, offset := 0, embedded := false, tag := "", pkgPath := "runtime", byteOffset := 0 }, { name := "addr", type := 12, offset := 1, embedded := false, tag := "", pkgPath := "runtime", byteOffset := 16 }])⟩ := tyI_of (by kernel_rfl) Try.underlying14
instance ty15 : TyI Try.prog 15 ⟨1, 8, [.pointer none], (TypeDesc.pointer 143)⟩ := tyI_of (by kernel_rfl) Try.underlying15
instance ty16 : TyI Try.prog 16 ⟨1, 8, [.pointer none], (TypeDesc.pointer 146)⟩ := tyI_of (by kernel_rfl) Try.underlying16
instance ty17 : TyI Try.prog 17 ⟨1, 8, [.pointer none], (TypeDesc.pointer 156)⟩ := tyI_of (by kernel_rfl) Try.underlying17
instance ty18 : TyI Try.prog 18 ⟨1, 8, [.pointer none], (TypeDesc.struct #[{ name := "typ", type := 17, offset := 0, embedded := false, tag := "", pkgPath := "internal/runtime/maps", byteOffset := 0 }])⟩ := tyI_of (by kernel_rfl) Try.underlying18
instance ty19 : TyI Try.prog 19 ⟨1, 8, [.pointer none], (TypeDesc.struct #[{ name := "typ", type := 17, offset := 0, embedded := false, tag := "", pkgPath := "internal/runtime/maps", byteOffset := 0 }])⟩ := tyI_of (by kernel_rfl) Try.underlying19
instance ty20 : TyI Try.prog 20 ⟨1, 16, [.nilIface], (TypeDesc.interface #[])⟩ := tyI_of (by kernel_rfl) Try.underlying20
instance ty21 : TyI Try.prog 21 ⟨1, 4, [.int .i32 0], (TypeDesc.int IntKind.i32)⟩ := tyI_of (by kernel_rfl) Try.underlying21
instance ty22 : TyI Try.prog 22 ⟨1, 24, [.slice none 0 0], (TypeDesc.slice 5)⟩ := tyI_of (by kernel_rfl) Try.underlying22
instance ty23 : TyI Try.prog 23 ⟨1, 24, [.slice none 0 0], (TypeDesc.slice 25)⟩ := tyI_of (by kernel_rfl) Try.underlying23
instance ty24 : TyI Try.prog 24 ⟨2, 32, [.int .i64 0, .slice none 0 0], (TypeDesc.struct #[{ name := "Kind", type := 3, offset := 0, embedded := false, tag := "", pkgPath := "", byteOffset := 0 }, { name := "Kids", type := 23, offset := 1, embedded := false, tag := "", pkgPath := "", byteOffset := 8 }])⟩ := tyI_of (by kernel_rfl) Try.underlying24
instance ty25 : TyI Try.prog 25 ⟨2, 32, [.int .i64 0, .slice none 0 0], (TypeDesc.struct #[{ name := "Kind", type := 3, offset := 0, embedded := false, tag := "", pkgPath := "", byteOffset := 0 }, { name := "Kids", type := 23, offset := 1, embedded := false, tag := "", pkgPath := "", byteOffset := 8 }])⟩ := tyI_of (by kernel_rfl) Try.underlying25
instance ty26 : TyI Try.prog 26 ⟨1, 24, [.slice none 0 0], (TypeDesc.slice 28)⟩ := tyI_of (by kernel_rfl) Try.underlying26
instance ty27 : TyI Try.prog 27 ⟨9, 128, [.int .i64 0, .string ByteArray.empty, .int .i64 0, .int .i64 0, .slice none 0 0, .int .i64 0, .slice none 0 0, .int .i64 0, .slice none 0 0], (TypeDesc.struct #[{ name := "Kind", type := 3, offset := 0, embedded := false, tag := "", pkgPath := "", byteOffset := 0 }, { name := "Name", type := 9, offset := 1, embedded := false, tag := "", pkgPath := "", byteOffset := 8 }, { name := "Num", type := 3, offset := 2, embedded := false, tag := "", pkgPath := "", byteOffset := 24 }, { name := "Type", type := 25, offset := 3, embedded := false, tag := "", pkgPath := "", byteOffset := 32 }, { name := "From", type := 25, offset := 5, embedded := false, tag := "", pkgPath := "", byteOffset := 64 }, { name := "Label", type := 3, offset := 7, embedded := false, tag := "", pkgPath := "", byteOffset := 96 }, { name := "Kids", type := 26, offset := 8, embedded := false, tag := "", pkgPath := "", byteOffset := 104 }])⟩ := tyI_of (by kernel_rfl) Try.underlying27
instance ty28 : TyI Try.prog 28 ⟨9, 128, [.int .i64 0, .string ByteArray.empty, .int .i64 0, .int .i64 0, .slice none 0 0, .int .i64 0, .slice none 0 0, .int .i64 0, .slice none 0 0], (TypeDesc.struct #[{ name := "Kind", type := 3, offset := 0, embedded := false, tag := "", pkgPath := "", byteOffset := 0 }, { name := "Name", type := 9, offset := 1, embedded := false, tag := "", pkgPath := "", byteOffset := 8 }, { name := "Num", type := 3, offset := 2, embedded := false, tag := "", pkgPath := "", byteOffset := 24 }, { name := "Type", type := 25, offset := 3, embedded := false, tag := "", pkgPath := "", byteOffset := 32 }, { name := "From", type := 25, offset := 5, embedded := false, tag := "", pkgPath := "", byteOffset := 64 }, { name := "Label", type := 3, offset := 7, embedded := false, tag := "", pkgPath := "", byteOffset := 96 }, { name := "Kids", type := 26, offset := 8, embedded := false, tag := "", pkgPath := "", byteOffset := 104 }])⟩ := tyI_of (by kernel_rfl) Try.underlying28
instance ty29 : TyI Try.prog 29 ⟨1, 8, [.nilFunc], (TypeDesc.func #[22] #[28] false)⟩ := tyI_of (by kernel_rfl) Try.underlying29
instance ty31 : TyI Try.prog 31 ⟨1, 8, [.nilFunc], (TypeDesc.func #[28] #[28, 4] false)⟩ := tyI_of (by kernel_rfl) Try.underlying31
instance ty32 : TyI Try.prog 32 ⟨1, 8, [.nilFunc], (TypeDesc.func #[28, 28] #[4] false)⟩ := tyI_of (by kernel_rfl) Try.underlying32
instance ty33 : TyI Try.prog 33 ⟨1, 8, [.nilFunc], (TypeDesc.func #[28] #[4] false)⟩ := tyI_of (by kernel_rfl) Try.underlying33
instance ty34 : TyI Try.prog 34 ⟨1, 24, [.slice none 0 0], (TypeDesc.slice 50)⟩ := tyI_of (by kernel_rfl) Try.underlying34
instance ty35 : TyI Try.prog 35 ⟨1, 8, [.nilFunc], (TypeDesc.func #[28] #[34] false)⟩ := tyI_of (by kernel_rfl) Try.underlying35
instance ty36 : TyI Try.prog 36 ⟨1, 8, [.nilFunc], (TypeDesc.func #[28] #[3] false)⟩ := tyI_of (by kernel_rfl) Try.underlying36
instance ty37 : TyI Try.prog 37 ⟨1, 8, [.nilFunc], (TypeDesc.func #[22] #[4] false)⟩ := tyI_of (by kernel_rfl) Try.underlying37
instance ty38 : TyI Try.prog 38 ⟨1, 24, [.slice none 0 0], (TypeDesc.slice 40)⟩ := tyI_of (by kernel_rfl) Try.underlying38
instance ty39 : TyI Try.prog 39 ⟨2, 32, [.int .i64 0, .slice none 0 0], (TypeDesc.struct #[{ name := "Kind", type := 3, offset := 0, embedded := false, tag := "", pkgPath := "", byteOffset := 0 }, { name := "Kids", type := 38, offset := 1, embedded := false, tag := "", pkgPath := "", byteOffset := 8 }])⟩ := tyI_of (by kernel_rfl) Try.underlying39
instance ty40 : TyI Try.prog 40 ⟨2, 32, [.int .i64 0, .slice none 0 0], (TypeDesc.struct #[{ name := "Kind", type := 3, offset := 0, embedded := false, tag := "", pkgPath := "", byteOffset := 0 }, { name := "Kids", type := 38, offset := 1, embedded := false, tag := "", pkgPath := "", byteOffset := 8 }])⟩ := tyI_of (by kernel_rfl) Try.underlying40
instance ty41 : TyI Try.prog 41 ⟨1, 24, [.slice none 0 0], (TypeDesc.slice 43)⟩ := tyI_of (by kernel_rfl) Try.underlying41
instance ty42 : TyI Try.prog 42 ⟨9, 128, [.int .i64 0, .string ByteArray.empty, .int .i64 0, .int .i64 0, .slice none 0 0, .int .i64 0, .slice none 0 0, .int .i64 0, .slice none 0 0], (TypeDesc.struct #[{ name := "Kind", type := 3, offset := 0, embedded := false, tag := "", pkgPath := "", byteOffset := 0 }, { name := "Name", type := 9, offset := 1, embedded := false, tag := "", pkgPath := "", byteOffset := 8 }, { name := "Num", type := 3, offset := 2, embedded := false, tag := "", pkgPath := "", byteOffset := 24 }, { name := "Type", type := 40, offset := 3, embedded := false, tag := "", pkgPath := "", byteOffset := 32 }, { name := "From", type := 40, offset := 5, embedded := false, tag := "", pkgPath := "", byteOffset := 64 }, { name := "Label", type := 3, offset := 7, embedded := false, tag := "", pkgPath := "", byteOffset := 96 }, { name := "Kids", type := 41, offset := 8, embedded := false, tag := "", pkgPath := "", byteOffset := 104 }])⟩ := tyI_of (by kernel_rfl) Try.underlying42
instance ty43 : TyI Try.prog 43 ⟨9, 128, [.int .i64 0, .string ByteArray.empty, .int .i64 0, .int .i64 0, .slice none 0 0, .int .i64 0, .slice none 0 0, .int .i64 0, .slice none 0 0], (TypeDesc.struct #[{ name := "Kind", type := 3, offset := 0, embedded := false, tag := "", pkgPath := "", byteOffset := 0 }, { name := "Name", type := 9, offset := 1, embedded := false, tag := "", pkgPath := "", byteOffset := 8 }, { name := "Num", type := 3, offset := 2, embedded := false, tag := "", pkgPath := "", byteOffset := 24 }, { name := "Type", type := 40, offset := 3, embedded := false, tag := "", pkgPath := "", byteOffset := 32 }, { name := "From", type := 40, offset := 5, embedded := false, tag := "", pkgPath := "", byteOffset := 64 }, { name := "Label", type := 3, offset := 7, embedded := false, tag := "", pkgPath := "", byteOffset := 96 }, { name := "Kids", type := 41, offset := 8, embedded := false, tag := "", pkgPath := "", byteOffset := 104 }])⟩ := tyI_of (by kernel_rfl) Try.underlying43
instance ty44 : TyI Try.prog 44 ⟨1, 8, [.nilFunc], (TypeDesc.func #[43, 3] #[3] false)⟩ := tyI_of (by kernel_rfl) Try.underlying44
instance ty45 : TyI Try.prog 45 ⟨1, 8, [.nilFunc], (TypeDesc.func #[43] #[28] false)⟩ := tyI_of (by kernel_rfl) Try.underlying45
instance ty46 : TyI Try.prog 46 ⟨1, 8, [.nilFunc], (TypeDesc.func #[34, 34] #[4] false)⟩ := tyI_of (by kernel_rfl) Try.underlying46
instance ty47 : TyI Try.prog 47 ⟨1, 8, [.nilFunc], (TypeDesc.func #[28, 3] #[3] false)⟩ := tyI_of (by kernel_rfl) Try.underlying47
instance ty48 : TyI Try.prog 48 ⟨1, 8, [.nilFunc], (TypeDesc.func #[34, 3] #[3] false)⟩ := tyI_of (by kernel_rfl) Try.underlying48
instance ty49 : TyI Try.prog 49 ⟨1, 8, [.nilFunc], (TypeDesc.func #[43] #[4] false)⟩ := tyI_of (by kernel_rfl) Try.underlying49
instance ty50 : TyI Try.prog 50 ⟨1, 24, [.slice none 0 0], (TypeDesc.slice 3)⟩ := tyI_of (by kernel_rfl) Try.underlying50
instance ty52 : TyI Try.prog 52 ⟨1, 8, [.nilFunc], (TypeDesc.func #[28, 3] #[50, 4] false)⟩ := tyI_of (by kernel_rfl) Try.underlying52
instance ty53 : TyI Try.prog 53 ⟨1, 8, [.nilFunc], (TypeDesc.func #[50, 50] #[4] false)⟩ := tyI_of (by kernel_rfl) Try.underlying53
instance ty54 : TyI Try.prog 54 ⟨1, 8, [.nilFunc], (TypeDesc.func #[50, 3] #[3] false)⟩ := tyI_of (by kernel_rfl) Try.underlying54
instance ty55 : TyI Try.prog 55 ⟨1, 8, [.nilFunc], (TypeDesc.func #[43, 3] #[4] false)⟩ := tyI_of (by kernel_rfl) Try.underlying55
instance ty56 : TyI Try.prog 56 ⟨1, 8, [.nilFunc], (TypeDesc.func #[28, 50] #[28, 4] false)⟩ := tyI_of (by kernel_rfl) Try.underlying56
instance ty57 : TyI Try.prog 57 ⟨1, 8, [.nilFunc], (TypeDesc.func #[50] #[50] false)⟩ := tyI_of (by kernel_rfl) Try.underlying57
instance ty58 : TyI Try.prog 58 ⟨1, 8, [.nilFunc], (TypeDesc.func #[43, 50] #[4] false)⟩ := tyI_of (by kernel_rfl) Try.underlying58
instance ty59 : TyI Try.prog 59 ⟨1, 8, [.nilFunc], (TypeDesc.func #[28, 50, 28] #[28, 4] false)⟩ := tyI_of (by kernel_rfl) Try.underlying59
instance ty60 : TyI Try.prog 60 ⟨1, 8, [.nilFunc], (TypeDesc.func #[43, 50, 43] #[4] false)⟩ := tyI_of (by kernel_rfl) Try.underlying60
instance ty62 : TyI Try.prog 62 ⟨1, 8, [.nilFunc], (TypeDesc.func #[22] #[28, 50] false)⟩ := tyI_of (by kernel_rfl) Try.underlying62
instance ty63 : TyI Try.prog 63 ⟨1, 8, [.nilFunc], (TypeDesc.func #[22, 22] #[4] false)⟩ := tyI_of (by kernel_rfl) Try.underlying63
instance ty64 : TyI Try.prog 64 ⟨1, 8, [.nilFunc], (TypeDesc.func #[28] #[28] false)⟩ := tyI_of (by kernel_rfl) Try.underlying64
instance ty65 : TyI Try.prog 65 ⟨1, 8, [.nilFunc], (TypeDesc.func #[25, 25] #[4] false)⟩ := tyI_of (by kernel_rfl) Try.underlying65
instance ty66 : TyI Try.prog 66 ⟨1, 8, [.nilFunc], (TypeDesc.func #[26, 26, 32] #[4] false)⟩ := tyI_of (by kernel_rfl) Try.underlying66
instance ty67 : TyI Try.prog 67 ⟨1, 8, [.nilFunc], (TypeDesc.func #[28, 3, 3, 3, 3, 68] #[4] false)⟩ := tyI_of (by kernel_rfl) Try.underlying67
instance ty68 : TyI Try.prog 68 ⟨1, 8, [.pointer none], (TypeDesc.pointer 3)⟩ := tyI_of (by kernel_rfl) Try.underlying68
instance ty69 : TyI Try.prog 69 ⟨1, 8, [.nilFunc], (TypeDesc.func #[28, 50] #[34] false)⟩ := tyI_of (by kernel_rfl) Try.underlying69
instance ty70 : TyI Try.prog 70 ⟨1, 8, [.nilFunc], (TypeDesc.func #[40, 3] #[3] false)⟩ := tyI_of (by kernel_rfl) Try.underlying70
instance ty71 : TyI Try.prog 71 ⟨1, 8, [.nilFunc], (TypeDesc.func #[41, 3] #[3] false)⟩ := tyI_of (by kernel_rfl) Try.underlying71
instance ty72 : TyI Try.prog 72 ⟨1, 8, [.nilFunc], (TypeDesc.func #[34, 28, 50] #[34] false)⟩ := tyI_of (by kernel_rfl) Try.underlying72
instance ty73 : TyI Try.prog 73 ⟨1, 8, [.nilFunc], (TypeDesc.func #[40] #[25] false)⟩ := tyI_of (by kernel_rfl) Try.underlying73
instance ty74 : TyI Try.prog 74 ⟨1, 8, [.nilFunc], (TypeDesc.func #[41] #[26] false)⟩ := tyI_of (by kernel_rfl) Try.underlying74
instance ty75 : TyI Try.prog 75 ⟨1, 8, [.nilFunc], (TypeDesc.func #[26, 26] #[4] false)⟩ := tyI_of (by kernel_rfl) Try.underlying75
instance ty76 : TyI Try.prog 76 ⟨1, 8, [.nilFunc], (TypeDesc.func #[25, 3] #[3] false)⟩ := tyI_of (by kernel_rfl) Try.underlying76
instance ty77 : TyI Try.prog 77 ⟨1, 8, [.nilFunc], (TypeDesc.func #[26, 3] #[3] false)⟩ := tyI_of (by kernel_rfl) Try.underlying77
instance ty78 : TyI Try.prog 78 ⟨1, 8, [.nilFunc], (TypeDesc.func #[28, 50, 28] #[28] false)⟩ := tyI_of (by kernel_rfl) Try.underlying78
instance ty79 : TyI Try.prog 79 ⟨1, 8, [.pointer none], (TypeDesc.pointer 98)⟩ := tyI_of (by kernel_rfl) Try.underlying79
instance ty80 : TyI Try.prog 80 ⟨1, 8, [.nilFunc], (TypeDesc.func #[22] #[79] false)⟩ := tyI_of (by kernel_rfl) Try.underlying80
instance ty81 : TyI Try.prog 81 ⟨1, 8, [.nilFunc], (TypeDesc.func #[79] #[28] false)⟩ := tyI_of (by kernel_rfl) Try.underlying81
instance ty82 : TyI Try.prog 82 ⟨1, 8, [.nilFunc], (TypeDesc.func #[79, 28] #[50] false)⟩ := tyI_of (by kernel_rfl) Try.underlying82
instance ty83 : TyI Try.prog 83 ⟨1, 8, [.nilFunc], (TypeDesc.func #[79, 28] #[28] false)⟩ := tyI_of (by kernel_rfl) Try.underlying83
instance ty84 : TyI Try.prog 84 ⟨1, 8, [.nilFunc], (TypeDesc.func #[28, 64] #[28] false)⟩ := tyI_of (by kernel_rfl) Try.underlying84
instance ty85 : TyI Try.prog 85 ⟨1, 8, [.nilFunc], (TypeDesc.func #[3] #[25] false)⟩ := tyI_of (by kernel_rfl) Try.underlying85
instance ty86 : TyI Try.prog 86 ⟨1, 8, [.nilFunc], (TypeDesc.func #[28, 3] #[4] false)⟩ := tyI_of (by kernel_rfl) Try.underlying86
instance ty87 : TyI Try.prog 87 ⟨1, 8, [.nilFunc], (TypeDesc.func #[] #[25] false)⟩ := tyI_of (by kernel_rfl) Try.underlying87
instance ty88 : TyI Try.prog 88 ⟨1, 8, [.nilFunc], (TypeDesc.func #[23, 23, 65] #[4] false)⟩ := tyI_of (by kernel_rfl) Try.underlying88
instance ty89 : TyI Try.prog 89 ⟨1, 8, [.nilFunc], (TypeDesc.func #[38, 3] #[3] false)⟩ := tyI_of (by kernel_rfl) Try.underlying89
instance ty90 : TyI Try.prog 90 ⟨1, 8, [.nilFunc], (TypeDesc.func #[38] #[23] false)⟩ := tyI_of (by kernel_rfl) Try.underlying90
instance ty91 : TyI Try.prog 91 ⟨1, 8, [.nilFunc], (TypeDesc.func #[23, 23] #[4] false)⟩ := tyI_of (by kernel_rfl) Try.underlying91
instance ty92 : TyI Try.prog 92 ⟨1, 8, [.nilFunc], (TypeDesc.func #[23, 3] #[3] false)⟩ := tyI_of (by kernel_rfl) Try.underlying92
instance ty93 : TyI Try.prog 93 ⟨1, 8, [.nilFunc], (TypeDesc.func #[3] #[9] false)⟩ := tyI_of (by kernel_rfl) Try.underlying93
instance ty94 : TyI Try.prog 94 ⟨1, 8, [.nilFunc], (TypeDesc.func #[3, 3, 3] #[4] false)⟩ := tyI_of (by kernel_rfl) Try.underlying94
instance ty95 : TyI Try.prog 95 ⟨1, 8, [.nilFunc], (TypeDesc.func #[25] #[25] false)⟩ := tyI_of (by kernel_rfl) Try.underlying95
instance ty96 : TyI Try.prog 96 ⟨1, 8, [.nilFunc], (TypeDesc.func #[26] #[26] false)⟩ := tyI_of (by kernel_rfl) Try.underlying96
instance ty97 : TyI Try.prog 97 ⟨2, 32, [.slice none 0 0, .int .i64 0], (TypeDesc.struct #[{ name := "b", type := 22, offset := 0, embedded := false, tag := "", pkgPath := "loop.example/gradual/spec", byteOffset := 0 }, { name := "p", type := 3, offset := 1, embedded := false, tag := "", pkgPath := "loop.example/gradual/spec", byteOffset := 24 }])⟩ := tyI_of (by kernel_rfl) Try.underlying97
instance ty98 : TyI Try.prog 98 ⟨2, 32, [.slice none 0 0, .int .i64 0], (TypeDesc.struct #[{ name := "b", type := 22, offset := 0, embedded := false, tag := "", pkgPath := "loop.example/gradual/spec", byteOffset := 0 }, { name := "p", type := 3, offset := 1, embedded := false, tag := "", pkgPath := "loop.example/gradual/spec", byteOffset := 24 }])⟩ := tyI_of (by kernel_rfl) Try.underlying98
instance ty100 : TyI Try.prog 100 ⟨1, 8, [.nilFunc], (TypeDesc.func #[28] #[28, 25, 4] false)⟩ := tyI_of (by kernel_rfl) Try.underlying100
instance ty101 : TyI Try.prog 101 ⟨1, 8, [.nilFunc], (TypeDesc.func #[3] #[28] false)⟩ := tyI_of (by kernel_rfl) Try.underlying101
instance ty102 : TyI Try.prog 102 ⟨1, 8, [.nilFunc], (TypeDesc.func #[3] #[3] false)⟩ := tyI_of (by kernel_rfl) Try.underlying102
instance ty103 : TyI Try.prog 103 ⟨1, 8, [.nilFunc], (TypeDesc.func #[79, 25] #[25] false)⟩ := tyI_of (by kernel_rfl) Try.underlying103
instance ty104 : TyI Try.prog 104 ⟨1, 8, [.nilFunc], (TypeDesc.func #[79] #[25] false)⟩ := tyI_of (by kernel_rfl) Try.underlying104
instance ty106 : TyI Try.prog 106 ⟨1, 8, [.nilFunc], (TypeDesc.func #[28, 25, 25, 3] #[28, 3] false)⟩ := tyI_of (by kernel_rfl) Try.underlying106
instance ty107 : TyI Try.prog 107 ⟨1, 8, [.nilFunc], (TypeDesc.func #[50] #[3] false)⟩ := tyI_of (by kernel_rfl) Try.underlying107
instance ty108 : TyI Try.prog 108 ⟨1, 8, [.nilFunc], (TypeDesc.func #[109] #[9] false)⟩ := tyI_of (by kernel_rfl) Try.underlying108
instance ty109 : TyI Try.prog 109 ⟨1, 24, [.slice none 0 0], (TypeDesc.slice 9)⟩ := tyI_of (by kernel_rfl) Try.underlying109
instance ty110 : TyI Try.prog 110 ⟨1, 8, [.nilFunc], (TypeDesc.func #[79, 9, 3] #[28] false)⟩ := tyI_of (by kernel_rfl) Try.underlying110
instance ty111 : TyI Try.prog 111 ⟨1, 8, [.nilFunc], (TypeDesc.func #[9] #[4] false)⟩ := tyI_of (by kernel_rfl) Try.underlying111
instance ty112 : TyI Try.prog 112 ⟨1, 8, [.nilFunc], (TypeDesc.func #[25] #[4] false)⟩ := tyI_of (by kernel_rfl) Try.underlying112
instance ty113 : TyI Try.prog 113 ⟨1, 8, [.nilFunc], (TypeDesc.func #[3] #[4] false)⟩ := tyI_of (by kernel_rfl) Try.underlying113
instance ty115 : TyI Try.prog 115 ⟨1, 8, [.nilFunc], (TypeDesc.func #[28] #[25, 4] false)⟩ := tyI_of (by kernel_rfl) Try.underlying115
instance ty117 : TyI Try.prog 117 ⟨1, 8, [.nilFunc], (TypeDesc.func #[124, 28, 3] #[28, 25, 3] false)⟩ := tyI_of (by kernel_rfl) Try.underlying117
instance ty118 : TyI Try.prog 118 ⟨1, 8, [.nilFunc], (TypeDesc.func #[79, 124, 25, 3] #[28] false)⟩ := tyI_of (by kernel_rfl) Try.underlying118
instance ty119 : TyI Try.prog 119 ⟨1, 8, [.nilFunc], (TypeDesc.func #[79, 3] #[25] false)⟩ := tyI_of (by kernel_rfl) Try.underlying119
instance ty120 : TyI Try.prog 120 ⟨1, 8, [.nilFunc], (TypeDesc.func #[79, 9] #[28] false)⟩ := tyI_of (by kernel_rfl) Try.underlying120
instance ty121 : TyI Try.prog 121 ⟨1, 8, [.nilFunc], (TypeDesc.func #[9, 9] #[9] false)⟩ := tyI_of (by kernel_rfl) Try.underlying121
instance ty122 : TyI Try.prog 122 ⟨1, 8, [.nilFunc], (TypeDesc.func #[25, 3] #[4] false)⟩ := tyI_of (by kernel_rfl) Try.underlying122
instance ty123 : TyI Try.prog 123 ⟨1, 8, [.nilFunc], (TypeDesc.func #[124, 28] #[25, 4] false)⟩ := tyI_of (by kernel_rfl) Try.underlying123
instance ty124 : TyI Try.prog 124 ⟨1, 24, [.slice none 0 0], (TypeDesc.slice 129)⟩ := tyI_of (by kernel_rfl) Try.underlying124
instance ty125 : TyI Try.prog 125 ⟨1, 8, [.nilFunc], (TypeDesc.func #[124, 9, 25] #[124] false)⟩ := tyI_of (by kernel_rfl) Try.underlying125
instance ty126 : TyI Try.prog 126 ⟨1, 8, [.nilFunc], (TypeDesc.func #[28, 23, 25] #[23] false)⟩ := tyI_of (by kernel_rfl) Try.underlying126
instance ty127 : TyI Try.prog 127 ⟨1, 8, [.nilFunc], (TypeDesc.func #[124, 9] #[25, 4] false)⟩ := tyI_of (by kernel_rfl) Try.underlying127
instance ty128 : TyI Try.prog 128 ⟨3, 48, [.string ByteArray.empty, .int .i64 0, .slice none 0 0], (TypeDesc.struct #[{ name := "Name", type := 9, offset := 0, embedded := false, tag := "", pkgPath := "", byteOffset := 0 }, { name := "Type", type := 25, offset := 1, embedded := false, tag := "", pkgPath := "", byteOffset := 16 }])⟩ := tyI_of (by kernel_rfl) Try.underlying128
instance ty129 : TyI Try.prog 129 ⟨3, 48, [.string ByteArray.empty, .int .i64 0, .slice none 0 0], (TypeDesc.struct #[{ name := "Name", type := 9, offset := 0, embedded := false, tag := "", pkgPath := "", byteOffset := 0 }, { name := "Type", type := 25, offset := 1, embedded := false, tag := "", pkgPath := "", byteOffset := 16 }])⟩ := tyI_of (by kernel_rfl) Try.underlying129
instance ty130 : TyI Try.prog 130 ⟨1, 8, [.nilFunc], (TypeDesc.func #[3, 26] #[28] false)⟩ := tyI_of (by kernel_rfl) Try.underlying130
instance ty131 : TyI Try.prog 131 ⟨1, 8, [.nilFunc], (TypeDesc.func #[79, 124, 25, 25, 3] #[28] false)⟩ := tyI_of (by kernel_rfl) Try.underlying131
instance ty132 : TyI Try.prog 132 ⟨1, 8, [.nilFunc], (TypeDesc.func #[23, 112] #[4] false)⟩ := tyI_of (by kernel_rfl) Try.underlying132
instance ty133 : TyI Try.prog 133 ⟨1, 8, [.nilFunc], (TypeDesc.func #[124] #[4] false)⟩ := tyI_of (by kernel_rfl) Try.underlying133
instance ty134 : TyI Try.prog 134 ⟨1, 8, [.nilFunc], (TypeDesc.func #[25, 4] #[25, 4] false)⟩ := tyI_of (by kernel_rfl) Try.underlying134
instance ty135 : TyI Try.prog 135 ⟨1, 8, [.nilFunc], (TypeDesc.func #[3, 25, 25] #[25, 4] false)⟩ := tyI_of (by kernel_rfl) Try.underlying135
instance ty136 : TyI Try.prog 136 ⟨1, 8, [.nilFunc], (TypeDesc.func #[28, 23] #[25, 4] false)⟩ := tyI_of (by kernel_rfl) Try.underlying136
instance ty138 : TyI Try.prog 138 ⟨1, 8, [.nilFunc], (TypeDesc.func #[3, 25] #[25, 25, 4] false)⟩ := tyI_of (by kernel_rfl) Try.underlying138
instance ty139 : TyI Try.prog 139 ⟨1, 8, [.nilFunc], (TypeDesc.func #[23, 112] #[3] false)⟩ := tyI_of (by kernel_rfl) Try.underlying139
instance ty140 : TyI Try.prog 140 ⟨1, 8, [.nilFunc], (TypeDesc.func #[25, 25] #[25] false)⟩ := tyI_of (by kernel_rfl) Try.underlying140
instance ty141 : TyI Try.prog 141 ⟨1, 8, [.nilFunc], (TypeDesc.func #[] #[9] false)⟩ := tyI_of (by kernel_rfl) Try.underlying141
instance ty142 : TyI Try.prog 142 ⟨4, 40, [.pointer none, .pointer none, .pointer none, .string ByteArray.empty], (TypeDesc.struct #[{ name := "_interface", type := 17, offset := 0, embedded := false, tag := "", pkgPath := "runtime", byteOffset := 0 }, { name := "concrete", type := 17, offset := 1, embedded := false, tag := "", pkgPath := "runtime", byteOffset := 8 }, { name := "asserted", type := 17, offset := 2, embedded := false, tag := "", pkgPath := "runtime", byteOffset := 16 }, { name := "missingMethod", type := 9, offset := 3, embedded := false, tag := "", pkgPath := "runtime", byteOffset := 24 }])⟩ := tyI_of (by kernel_rfl) Try.underlying142
instance ty143 : TyI Try.prog 143 ⟨4, 40, [.pointer none, .pointer none, .pointer none, .string ByteArray.empty], (TypeDesc.struct #[{ name := "_interface", type := 17, offset := 0, embedded := false, tag := "", pkgPath := "runtime", byteOffset := 0 }, { name := "concrete", type := 17, offset := 1, embedded := false, tag := "", pkgPath := "runtime", byteOffset := 8 }, { name := "asserted", type := 17, offset := 2, embedded := false, tag := "", pkgPath := "runtime", byteOffset := 16 }, { name := "missingMethod", type := 9, offset := 3, embedded := false, tag := "", pkgPath := "runtime", byteOffset := 24 }])⟩ := tyI_of (by kernel_rfl) Try.underlying143
instance ty144 : TyI Try.prog 144 ⟨0, 0, [], (TypeDesc.array 0 16)⟩ := tyI_of (by kernel_rfl) Try.underlying144
instance ty145 : TyI Try.prog 145 ⟨0, 0, [], (TypeDesc.struct #[{ name := "_", type := 144, offset := 0, embedded := false, tag := "", pkgPath := "runtime", byteOffset := 0 }])⟩ := tyI_of (by kernel_rfl) Try.underlying145
instance ty146 : TyI Try.prog 146 ⟨0, 0, [], (TypeDesc.struct #[{ name := "_", type := 144, offset := 0, embedded := false, tag := "", pkgPath := "runtime", byteOffset := 0 }])⟩ := tyI_of (by kernel_rfl) Try.underlying146
instance ty147 : TyI Try.prog 147 ⟨1, 8, [.nilFunc], (TypeDesc.func #[] #[3] false)⟩ := tyI_of (by kernel_rfl) Try.underlying147
instance ty148 : TyI Try.prog 148 ⟨1, 4, [.int .u32 0], (TypeDesc.int IntKind.u32)⟩ := tyI_of (by kernel_rfl) Try.underlying148
instance ty149 : TyI Try.prog 149 ⟨1, 1, [.int .u8 0], (TypeDesc.int IntKind.u8)⟩ := tyI_of (by kernel_rfl) Try.underlying149
instance ty150 : TyI Try.prog 150 ⟨1, 1, [.int .u8 0], (TypeDesc.int IntKind.u8)⟩ := tyI_of (by kernel_rfl) Try.underlying150
instance ty151 : TyI Try.prog 151 ⟨1, 8, [.nilFunc], (TypeDesc.func #[158, 158] #[4] false)⟩ := tyI_of (by kernel_rfl) Try.underlying151
instance ty152 : TyI Try.prog 152 ⟨1, 8, [.pointer none], (TypeDesc.pointer 5)⟩ := tyI_of (by kernel_rfl) Try.underlying152
instance ty153 : TyI Try.prog 153 ⟨1, 4, [.int .i32 0], (TypeDesc.int IntKind.i32)⟩ := tyI_of (by kernel_rfl) Try.underlying153
instance ty154 : TyI Try.prog 154 ⟨1, 4, [.int .i32 0], (TypeDesc.int IntKind.i32)⟩ := tyI_of (by kernel_rfl) Try.underlying154
instance ty155 : TyI Try.prog 155 ⟨11, 48, [.int .u64 0, .int .u64 0, .int .u32 0, .int .u8 0, .int .u8 0, .int .u8 0, .int .u8 0, .nilFunc, .pointer none, .int .i32 0, .int .i32 0], (TypeDesc.struct #[{ name := "Size_", type := 12, offset := 0, embedded := false, tag := "", pkgPath := "", byteOffset := 0 }, { name := "PtrBytes", type := 12, offset := 1, embedded := false, tag := "", pkgPath := "", byteOffset := 8 }, { name := "Hash", type := 148, offset := 2, embedded := false, tag := "", pkgPath := "", byteOffset := 16 }, { name := "TFlag", type := 149, offset := 3, embedded := false, tag := "", pkgPath := "", byteOffset := 20 }, { name := "Align_", type := 5, offset := 4, embedded := false, tag := "", pkgPath := "", byteOffset := 21 }, { name := "FieldAlign_", type := 5, offset := 5, embedded := false, tag := "", pkgPath := "", byteOffset := 22 }, { name := "Kind_", type := 150, offset := 6, embedded := false, tag := "", pkgPath := "", byteOffset := 23 }, { name := "Equal", type := 151, offset := 7, embedded := false, tag := "", pkgPath := "", byteOffset := 24 }, { name := "GCData", type := 152, offset := 8, embedded := false, tag := "", pkgPath := "", byteOffset := 32 }, { name := "Str", type := 153, offset := 9, embedded := false, tag := "", pkgPath := "", byteOffset := 40 }, { name := "PtrToThis", type := 154, offset := 10, embedded := false, tag := "", pkgPath := "", byteOffset := 44 }])⟩ := tyI_of (by kernel_rfl) Try.underlying155
instance ty156 : TyI Try.prog 156 ⟨11, 48, [.int .u64 0, .int .u64 0, .int .u32 0, .int .u8 0, .int .u8 0, .int .u8 0, .int .u8 0, .nilFunc, .pointer none, .int .i32 0, .int .i32 0], (TypeDesc.struct #[{ name := "Size_", type := 12, offset := 0, embedded := false, tag := "", pkgPath := "", byteOffset := 0 }, { name := "PtrBytes", type := 12, offset := 1, embedded := false, tag := "", pkgPath := "", byteOffset := 8 }, { name := "Hash", type := 148, offset := 2, embedded := false, tag := "", pkgPath := "", byteOffset := 16 }, { name := "TFlag", type := 149, offset := 3, embedded := false, tag := "", pkgPath := "", byteOffset := 20 }, { name := "Align_", type := 5, offset := 4, embedded := false, tag := "", pkgPath := "", byteOffset := 21 }, { name := "FieldAlign_", type := 5, offset := 5, embedded := false, tag := "", pkgPath := "", byteOffset := 22 }, { name := "Kind_", type := 150, offset := 6, embedded := false, tag := "", pkgPath := "", byteOffset := 23 }, { name := "Equal", type := 151, offset := 7, embedded := false, tag := "", pkgPath := "", byteOffset := 24 }, { name := "GCData", type := 152, offset := 8, embedded := false, tag := "", pkgPath := "", byteOffset := 32 }, { name := "Str", type := 153, offset := 9, embedded := false, tag := "", pkgPath := "", byteOffset := 40 }, { name := "PtrToThis", type := 154, offset := 10, embedded := false, tag := "", pkgPath := "", byteOffset := 44 }])⟩ := tyI_of (by kernel_rfl) Try.underlying156
instance ty157 : TyI Try.prog 157 ⟨1, 8, [.nilFunc], (TypeDesc.func #[] #[159] false)⟩ := tyI_of (by kernel_rfl) Try.underlying157
instance ty158 : TyI Try.prog 158 ⟨1, 8, [.pointer none], TypeDesc.unsafePointer⟩ := tyI_of (by kernel_rfl) Try.underlying158
instance ty159 : TyI Try.prog 159 ⟨1, 8, [.int .u64 0], (TypeDesc.int IntKind.u64)⟩ := tyI_of (by kernel_rfl) Try.underlying159
instance tz1 : TySz Try.prog 1 1 8 [.nilFunc] := ⟨⟨_, ty1⟩, rfl⟩
instance tz2 : TySz Try.prog 2 1 8 [.int .i64 0] := ⟨⟨_, ty2⟩, rfl⟩
instance tz3 : TySz Try.prog 3 1 8 [.int .i64 0] := ⟨⟨_, ty3⟩, rfl⟩
instance tz4 : TySz Try.prog 4 1 1 [.bool false] := ⟨⟨_, ty4⟩, rfl⟩
instance tz5 : TySz Try.prog 5 1 1 [.int .u8 0] := ⟨⟨_, ty5⟩, rfl⟩
instance tz6 : TySz Try.prog 6 1 1 [.int .u8 0] := ⟨⟨_, ty6⟩, rfl⟩
instance tz7 : TySz Try.prog 7 4 24 [.int .i64 0, .int .i64 0, .bool false, .int .u8 0] := ⟨⟨_, ty7⟩, rfl⟩
instance tz8 : TySz Try.prog 8 4 24 [.int .i64 0, .int .i64 0, .bool false, .int .u8 0] := ⟨⟨_, ty8⟩, rfl⟩
instance tz9 : TySz Try.prog 9 1 16 [.string ByteArray.empty] := ⟨⟨_, ty9⟩, rfl⟩
instance tz10 : TySz Try.prog 10 1 16 [.string ByteArray.empty] := ⟨⟨_, ty10⟩, rfl⟩
instance tz11 : TySz Try.prog 11 1 16 [.string ByteArray.empty] := ⟨⟨_, ty11⟩, rfl⟩
instance tz12 : TySz Try.prog 12 1 8 [.int .u64 0] := ⟨⟨_, ty12⟩, rfl⟩
instance tz13 : TySz Try.prog 13 2 24 [.string ByteArray.empty, .int .u64 0] := ⟨⟨_, ty13⟩, rfl⟩
instance tz14 : TySz Try.prog 14 2 24 [.string ByteArray.empty, .int .u64 0] := ⟨⟨_, ty14⟩, rfl⟩
instance tz15 : TySz Try.prog 15 1 8 [.pointer none] := ⟨⟨_, ty15⟩, rfl⟩
instance tz16 : TySz Try.prog 16 1 8 [.pointer none] := ⟨⟨_, ty16⟩, rfl⟩
instance tz17 : TySz Try.prog 17 1 8 [.pointer none] := ⟨⟨_, ty17⟩, rfl⟩
instance tz18 : TySz Try.prog 18 1 8 [.pointer none] := ⟨⟨_, ty18⟩, rfl⟩
instance tz19 : TySz Try.prog 19 1 8 [.pointer none] := ⟨⟨_, ty19⟩, rfl⟩
instance tz20 : TySz Try.prog 20 1 16 [.nilIface] := ⟨⟨_, ty20⟩, rfl⟩
instance tz21 : TySz Try.prog 21 1 4 [.int .i32 0] := ⟨⟨_, ty21⟩, rfl⟩
instance tz22 : TySz Try.prog 22 1 24 [.slice none 0 0] := ⟨⟨_, ty22⟩, rfl⟩
instance tz23 : TySz Try.prog 23 1 24 [.slice none 0 0] := ⟨⟨_, ty23⟩, rfl⟩
instance tz24 : TySz Try.prog 24 2 32 [.int .i64 0, .slice none 0 0] := ⟨⟨_, ty24⟩, rfl⟩
instance tz25 : TySz Try.prog 25 2 32 [.int .i64 0, .slice none 0 0] := ⟨⟨_, ty25⟩, rfl⟩
instance tz26 : TySz Try.prog 26 1 24 [.slice none 0 0] := ⟨⟨_, ty26⟩, rfl⟩
instance tz27 : TySz Try.prog 27 9 128 [.int .i64 0, .string ByteArray.empty, .int .i64 0, .int .i64 0, .slice none 0 0, .int .i64 0, .slice none 0 0, .int .i64 0, .slice none 0 0] := ⟨⟨_, ty27⟩, rfl⟩
instance tz28 : TySz Try.prog 28 9 128 [.int .i64 0, .string ByteArray.empty, .int .i64 0, .int .i64 0, .slice none 0 0, .int .i64 0, .slice none 0 0, .int .i64 0, .slice none 0 0] := ⟨⟨_, ty28⟩, rfl⟩
instance tz29 : TySz Try.prog 29 1 8 [.nilFunc] := ⟨⟨_, ty29⟩, rfl⟩
instance tz31 : TySz Try.prog 31 1 8 [.nilFunc] := ⟨⟨_, ty31⟩, rfl⟩
instance tz32 : TySz Try.prog 32 1 8 [.nilFunc] := ⟨⟨_, ty32⟩, rfl⟩
instance tz33 : TySz Try.prog 33 1 8 [.nilFunc] := ⟨⟨_, ty33⟩, rfl⟩
instance tz34 : TySz Try.prog 34 1 24 [.slice none 0 0] := ⟨⟨_, ty34⟩, rfl⟩
instance tz35 : TySz Try.prog 35 1 8 [.nilFunc] := ⟨⟨_, ty35⟩, rfl⟩
instance tz36 : TySz Try.prog 36 1 8 [.nilFunc] := ⟨⟨_, ty36⟩, rfl⟩
instance tz37 : TySz Try.prog 37 1 8 [.nilFunc] := ⟨⟨_, ty37⟩, rfl⟩
instance tz38 : TySz Try.prog 38 1 24 [.slice none 0 0] := ⟨⟨_, ty38⟩, rfl⟩
instance tz39 : TySz Try.prog 39 2 32 [.int .i64 0, .slice none 0 0] := ⟨⟨_, ty39⟩, rfl⟩
instance tz40 : TySz Try.prog 40 2 32 [.int .i64 0, .slice none 0 0] := ⟨⟨_, ty40⟩, rfl⟩
instance tz41 : TySz Try.prog 41 1 24 [.slice none 0 0] := ⟨⟨_, ty41⟩, rfl⟩
instance tz42 : TySz Try.prog 42 9 128 [.int .i64 0, .string ByteArray.empty, .int .i64 0, .int .i64 0, .slice none 0 0, .int .i64 0, .slice none 0 0, .int .i64 0, .slice none 0 0] := ⟨⟨_, ty42⟩, rfl⟩
instance tz43 : TySz Try.prog 43 9 128 [.int .i64 0, .string ByteArray.empty, .int .i64 0, .int .i64 0, .slice none 0 0, .int .i64 0, .slice none 0 0, .int .i64 0, .slice none 0 0] := ⟨⟨_, ty43⟩, rfl⟩
instance tz44 : TySz Try.prog 44 1 8 [.nilFunc] := ⟨⟨_, ty44⟩, rfl⟩
instance tz45 : TySz Try.prog 45 1 8 [.nilFunc] := ⟨⟨_, ty45⟩, rfl⟩
instance tz46 : TySz Try.prog 46 1 8 [.nilFunc] := ⟨⟨_, ty46⟩, rfl⟩
instance tz47 : TySz Try.prog 47 1 8 [.nilFunc] := ⟨⟨_, ty47⟩, rfl⟩
instance tz48 : TySz Try.prog 48 1 8 [.nilFunc] := ⟨⟨_, ty48⟩, rfl⟩
instance tz49 : TySz Try.prog 49 1 8 [.nilFunc] := ⟨⟨_, ty49⟩, rfl⟩
instance tz50 : TySz Try.prog 50 1 24 [.slice none 0 0] := ⟨⟨_, ty50⟩, rfl⟩
instance tz52 : TySz Try.prog 52 1 8 [.nilFunc] := ⟨⟨_, ty52⟩, rfl⟩
instance tz53 : TySz Try.prog 53 1 8 [.nilFunc] := ⟨⟨_, ty53⟩, rfl⟩
instance tz54 : TySz Try.prog 54 1 8 [.nilFunc] := ⟨⟨_, ty54⟩, rfl⟩
instance tz55 : TySz Try.prog 55 1 8 [.nilFunc] := ⟨⟨_, ty55⟩, rfl⟩
instance tz56 : TySz Try.prog 56 1 8 [.nilFunc] := ⟨⟨_, ty56⟩, rfl⟩
instance tz57 : TySz Try.prog 57 1 8 [.nilFunc] := ⟨⟨_, ty57⟩, rfl⟩
instance tz58 : TySz Try.prog 58 1 8 [.nilFunc] := ⟨⟨_, ty58⟩, rfl⟩
instance tz59 : TySz Try.prog 59 1 8 [.nilFunc] := ⟨⟨_, ty59⟩, rfl⟩
instance tz60 : TySz Try.prog 60 1 8 [.nilFunc] := ⟨⟨_, ty60⟩, rfl⟩
instance tz62 : TySz Try.prog 62 1 8 [.nilFunc] := ⟨⟨_, ty62⟩, rfl⟩
instance tz63 : TySz Try.prog 63 1 8 [.nilFunc] := ⟨⟨_, ty63⟩, rfl⟩
instance tz64 : TySz Try.prog 64 1 8 [.nilFunc] := ⟨⟨_, ty64⟩, rfl⟩
instance tz65 : TySz Try.prog 65 1 8 [.nilFunc] := ⟨⟨_, ty65⟩, rfl⟩
instance tz66 : TySz Try.prog 66 1 8 [.nilFunc] := ⟨⟨_, ty66⟩, rfl⟩
instance tz67 : TySz Try.prog 67 1 8 [.nilFunc] := ⟨⟨_, ty67⟩, rfl⟩
instance tz68 : TySz Try.prog 68 1 8 [.pointer none] := ⟨⟨_, ty68⟩, rfl⟩
instance tz69 : TySz Try.prog 69 1 8 [.nilFunc] := ⟨⟨_, ty69⟩, rfl⟩
instance tz70 : TySz Try.prog 70 1 8 [.nilFunc] := ⟨⟨_, ty70⟩, rfl⟩
instance tz71 : TySz Try.prog 71 1 8 [.nilFunc] := ⟨⟨_, ty71⟩, rfl⟩
instance tz72 : TySz Try.prog 72 1 8 [.nilFunc] := ⟨⟨_, ty72⟩, rfl⟩
instance tz73 : TySz Try.prog 73 1 8 [.nilFunc] := ⟨⟨_, ty73⟩, rfl⟩
instance tz74 : TySz Try.prog 74 1 8 [.nilFunc] := ⟨⟨_, ty74⟩, rfl⟩
instance tz75 : TySz Try.prog 75 1 8 [.nilFunc] := ⟨⟨_, ty75⟩, rfl⟩
instance tz76 : TySz Try.prog 76 1 8 [.nilFunc] := ⟨⟨_, ty76⟩, rfl⟩
instance tz77 : TySz Try.prog 77 1 8 [.nilFunc] := ⟨⟨_, ty77⟩, rfl⟩
instance tz78 : TySz Try.prog 78 1 8 [.nilFunc] := ⟨⟨_, ty78⟩, rfl⟩
instance tz79 : TySz Try.prog 79 1 8 [.pointer none] := ⟨⟨_, ty79⟩, rfl⟩
instance tz80 : TySz Try.prog 80 1 8 [.nilFunc] := ⟨⟨_, ty80⟩, rfl⟩
instance tz81 : TySz Try.prog 81 1 8 [.nilFunc] := ⟨⟨_, ty81⟩, rfl⟩
instance tz82 : TySz Try.prog 82 1 8 [.nilFunc] := ⟨⟨_, ty82⟩, rfl⟩
instance tz83 : TySz Try.prog 83 1 8 [.nilFunc] := ⟨⟨_, ty83⟩, rfl⟩
instance tz84 : TySz Try.prog 84 1 8 [.nilFunc] := ⟨⟨_, ty84⟩, rfl⟩
instance tz85 : TySz Try.prog 85 1 8 [.nilFunc] := ⟨⟨_, ty85⟩, rfl⟩
instance tz86 : TySz Try.prog 86 1 8 [.nilFunc] := ⟨⟨_, ty86⟩, rfl⟩
instance tz87 : TySz Try.prog 87 1 8 [.nilFunc] := ⟨⟨_, ty87⟩, rfl⟩
instance tz88 : TySz Try.prog 88 1 8 [.nilFunc] := ⟨⟨_, ty88⟩, rfl⟩
instance tz89 : TySz Try.prog 89 1 8 [.nilFunc] := ⟨⟨_, ty89⟩, rfl⟩
instance tz90 : TySz Try.prog 90 1 8 [.nilFunc] := ⟨⟨_, ty90⟩, rfl⟩
instance tz91 : TySz Try.prog 91 1 8 [.nilFunc] := ⟨⟨_, ty91⟩, rfl⟩
instance tz92 : TySz Try.prog 92 1 8 [.nilFunc] := ⟨⟨_, ty92⟩, rfl⟩
instance tz93 : TySz Try.prog 93 1 8 [.nilFunc] := ⟨⟨_, ty93⟩, rfl⟩
instance tz94 : TySz Try.prog 94 1 8 [.nilFunc] := ⟨⟨_, ty94⟩, rfl⟩
instance tz95 : TySz Try.prog 95 1 8 [.nilFunc] := ⟨⟨_, ty95⟩, rfl⟩
instance tz96 : TySz Try.prog 96 1 8 [.nilFunc] := ⟨⟨_, ty96⟩, rfl⟩
instance tz97 : TySz Try.prog 97 2 32 [.slice none 0 0, .int .i64 0] := ⟨⟨_, ty97⟩, rfl⟩
instance tz98 : TySz Try.prog 98 2 32 [.slice none 0 0, .int .i64 0] := ⟨⟨_, ty98⟩, rfl⟩
instance tz100 : TySz Try.prog 100 1 8 [.nilFunc] := ⟨⟨_, ty100⟩, rfl⟩
instance tz101 : TySz Try.prog 101 1 8 [.nilFunc] := ⟨⟨_, ty101⟩, rfl⟩
instance tz102 : TySz Try.prog 102 1 8 [.nilFunc] := ⟨⟨_, ty102⟩, rfl⟩
instance tz103 : TySz Try.prog 103 1 8 [.nilFunc] := ⟨⟨_, ty103⟩, rfl⟩
instance tz104 : TySz Try.prog 104 1 8 [.nilFunc] := ⟨⟨_, ty104⟩, rfl⟩
instance tz106 : TySz Try.prog 106 1 8 [.nilFunc] := ⟨⟨_, ty106⟩, rfl⟩
instance tz107 : TySz Try.prog 107 1 8 [.nilFunc] := ⟨⟨_, ty107⟩, rfl⟩
instance tz108 : TySz Try.prog 108 1 8 [.nilFunc] := ⟨⟨_, ty108⟩, rfl⟩
instance tz109 : TySz Try.prog 109 1 24 [.slice none 0 0] := ⟨⟨_, ty109⟩, rfl⟩
instance tz110 : TySz Try.prog 110 1 8 [.nilFunc] := ⟨⟨_, ty110⟩, rfl⟩
instance tz111 : TySz Try.prog 111 1 8 [.nilFunc] := ⟨⟨_, ty111⟩, rfl⟩
instance tz112 : TySz Try.prog 112 1 8 [.nilFunc] := ⟨⟨_, ty112⟩, rfl⟩
instance tz113 : TySz Try.prog 113 1 8 [.nilFunc] := ⟨⟨_, ty113⟩, rfl⟩
instance tz115 : TySz Try.prog 115 1 8 [.nilFunc] := ⟨⟨_, ty115⟩, rfl⟩
instance tz117 : TySz Try.prog 117 1 8 [.nilFunc] := ⟨⟨_, ty117⟩, rfl⟩
instance tz118 : TySz Try.prog 118 1 8 [.nilFunc] := ⟨⟨_, ty118⟩, rfl⟩
instance tz119 : TySz Try.prog 119 1 8 [.nilFunc] := ⟨⟨_, ty119⟩, rfl⟩
instance tz120 : TySz Try.prog 120 1 8 [.nilFunc] := ⟨⟨_, ty120⟩, rfl⟩
instance tz121 : TySz Try.prog 121 1 8 [.nilFunc] := ⟨⟨_, ty121⟩, rfl⟩
instance tz122 : TySz Try.prog 122 1 8 [.nilFunc] := ⟨⟨_, ty122⟩, rfl⟩
instance tz123 : TySz Try.prog 123 1 8 [.nilFunc] := ⟨⟨_, ty123⟩, rfl⟩
instance tz124 : TySz Try.prog 124 1 24 [.slice none 0 0] := ⟨⟨_, ty124⟩, rfl⟩
instance tz125 : TySz Try.prog 125 1 8 [.nilFunc] := ⟨⟨_, ty125⟩, rfl⟩
instance tz126 : TySz Try.prog 126 1 8 [.nilFunc] := ⟨⟨_, ty126⟩, rfl⟩
instance tz127 : TySz Try.prog 127 1 8 [.nilFunc] := ⟨⟨_, ty127⟩, rfl⟩
instance tz128 : TySz Try.prog 128 3 48 [.string ByteArray.empty, .int .i64 0, .slice none 0 0] := ⟨⟨_, ty128⟩, rfl⟩
instance tz129 : TySz Try.prog 129 3 48 [.string ByteArray.empty, .int .i64 0, .slice none 0 0] := ⟨⟨_, ty129⟩, rfl⟩
instance tz130 : TySz Try.prog 130 1 8 [.nilFunc] := ⟨⟨_, ty130⟩, rfl⟩
instance tz131 : TySz Try.prog 131 1 8 [.nilFunc] := ⟨⟨_, ty131⟩, rfl⟩
instance tz132 : TySz Try.prog 132 1 8 [.nilFunc] := ⟨⟨_, ty132⟩, rfl⟩
instance tz133 : TySz Try.prog 133 1 8 [.nilFunc] := ⟨⟨_, ty133⟩, rfl⟩
instance tz134 : TySz Try.prog 134 1 8 [.nilFunc] := ⟨⟨_, ty134⟩, rfl⟩
instance tz135 : TySz Try.prog 135 1 8 [.nilFunc] := ⟨⟨_, ty135⟩, rfl⟩
instance tz136 : TySz Try.prog 136 1 8 [.nilFunc] := ⟨⟨_, ty136⟩, rfl⟩
instance tz138 : TySz Try.prog 138 1 8 [.nilFunc] := ⟨⟨_, ty138⟩, rfl⟩
instance tz139 : TySz Try.prog 139 1 8 [.nilFunc] := ⟨⟨_, ty139⟩, rfl⟩
instance tz140 : TySz Try.prog 140 1 8 [.nilFunc] := ⟨⟨_, ty140⟩, rfl⟩
instance tz141 : TySz Try.prog 141 1 8 [.nilFunc] := ⟨⟨_, ty141⟩, rfl⟩
instance tz142 : TySz Try.prog 142 4 40 [.pointer none, .pointer none, .pointer none, .string ByteArray.empty] := ⟨⟨_, ty142⟩, rfl⟩
instance tz143 : TySz Try.prog 143 4 40 [.pointer none, .pointer none, .pointer none, .string ByteArray.empty] := ⟨⟨_, ty143⟩, rfl⟩
instance tz144 : TySz Try.prog 144 0 0 [] := ⟨⟨_, ty144⟩, rfl⟩
instance tz145 : TySz Try.prog 145 0 0 [] := ⟨⟨_, ty145⟩, rfl⟩
instance tz146 : TySz Try.prog 146 0 0 [] := ⟨⟨_, ty146⟩, rfl⟩
instance tz147 : TySz Try.prog 147 1 8 [.nilFunc] := ⟨⟨_, ty147⟩, rfl⟩
instance tz148 : TySz Try.prog 148 1 4 [.int .u32 0] := ⟨⟨_, ty148⟩, rfl⟩
instance tz149 : TySz Try.prog 149 1 1 [.int .u8 0] := ⟨⟨_, ty149⟩, rfl⟩
instance tz150 : TySz Try.prog 150 1 1 [.int .u8 0] := ⟨⟨_, ty150⟩, rfl⟩
instance tz151 : TySz Try.prog 151 1 8 [.nilFunc] := ⟨⟨_, ty151⟩, rfl⟩
instance tz152 : TySz Try.prog 152 1 8 [.pointer none] := ⟨⟨_, ty152⟩, rfl⟩
instance tz153 : TySz Try.prog 153 1 4 [.int .i32 0] := ⟨⟨_, ty153⟩, rfl⟩
instance tz154 : TySz Try.prog 154 1 4 [.int .i32 0] := ⟨⟨_, ty154⟩, rfl⟩
instance tz155 : TySz Try.prog 155 11 48 [.int .u64 0, .int .u64 0, .int .u32 0, .int .u8 0, .int .u8 0, .int .u8 0, .int .u8 0, .nilFunc, .pointer none, .int .i32 0, .int .i32 0] := ⟨⟨_, ty155⟩, rfl⟩
instance tz156 : TySz Try.prog 156 11 48 [.int .u64 0, .int .u64 0, .int .u32 0, .int .u8 0, .int .u8 0, .int .u8 0, .int .u8 0, .nilFunc, .pointer none, .int .i32 0, .int .i32 0] := ⟨⟨_, ty156⟩, rfl⟩
instance tz157 : TySz Try.prog 157 1 8 [.nilFunc] := ⟨⟨_, ty157⟩, rfl⟩
instance tz158 : TySz Try.prog 158 1 8 [.pointer none] := ⟨⟨_, ty158⟩, rfl⟩
instance tz159 : TySz Try.prog 159 1 8 [.int .u64 0] := ⟨⟨_, ty159⟩, rfl⟩
instance fd7_0 : FldI Try.prog 7 0 0 1 false := fldI_of ty2 Try.underlying7 rfl rfl (by decide) rfl rfl
instance fd7_1 : FldI Try.prog 7 1 1 1 false := fldI_of ty3 Try.underlying7 rfl rfl (by decide) rfl rfl
instance fd7_2 : FldI Try.prog 7 2 2 1 false := fldI_of ty4 Try.underlying7 rfl rfl (by decide) rfl rfl
instance fd7_3 : FldI Try.prog 7 3 3 1 false := fldI_of ty6 Try.underlying7 rfl rfl (by decide) rfl rfl
instance fd8_0 : FldI Try.prog 8 0 0 1 false := fldI_of ty2 Try.underlying8 rfl rfl (by decide) rfl rfl
instance fd8_1 : FldI Try.prog 8 1 1 1 false := fldI_of ty3 Try.underlying8 rfl rfl (by decide) rfl rfl
instance fd8_2 : FldI Try.prog 8 2 2 1 false := fldI_of ty4 Try.underlying8 rfl rfl (by decide) rfl rfl
instance fd8_3 : FldI Try.prog 8 3 3 1 false := fldI_of ty6 Try.underlying8 rfl rfl (by decide) rfl rfl
instance fd13_0 : FldI Try.prog 13 0 0 1 false := fldI_of ty9 Try.underlying13 rfl rfl (by decide) rfl rfl
instance fd13_1 : FldI Try.prog 13 1 1 1 false := fldI_of ty12 Try.underlying13 rfl rfl (by decide) rfl rfl
instance fd14_0 : FldI Try.prog 14 0 0 1 false := fldI_of ty9 Try.underlying14 rfl rfl (by decide) rfl rfl
instance fd14_1 : FldI Try.prog 14 1 1 1 false := fldI_of ty12 Try.underlying14 rfl rfl (by decide) rfl rfl
instance fd18_0 : FldI Try.prog 18 0 0 1 false := fldI_of ty17 Try.underlying18 rfl rfl (by decide) rfl rfl
instance fd19_0 : FldI Try.prog 19 0 0 1 false := fldI_of ty17 Try.underlying19 rfl rfl (by decide) rfl rfl
instance fd24_0 : FldI Try.prog 24 0 0 1 false := fldI_of ty3 Try.underlying24 rfl rfl (by decide) rfl rfl
instance fd24_1 : FldI Try.prog 24 1 1 1 false := fldI_of ty23 Try.underlying24 rfl rfl (by decide) rfl rfl
instance fd25_0 : FldI Try.prog 25 0 0 1 false := fldI_of ty3 Try.underlying25 rfl rfl (by decide) rfl rfl
instance fd25_1 : FldI Try.prog 25 1 1 1 false := fldI_of ty23 Try.underlying25 rfl rfl (by decide) rfl rfl
instance fd27_0 : FldI Try.prog 27 0 0 1 false := fldI_of ty3 Try.underlying27 rfl rfl (by decide) rfl rfl
instance fd27_1 : FldI Try.prog 27 1 1 1 false := fldI_of ty9 Try.underlying27 rfl rfl (by decide) rfl rfl
instance fd27_2 : FldI Try.prog 27 2 2 1 false := fldI_of ty3 Try.underlying27 rfl rfl (by decide) rfl rfl
instance fd27_3 : FldI Try.prog 27 3 3 2 true := fldI_of ty25 Try.underlying27 rfl rfl (by decide) rfl rfl
instance fd27_4 : FldI Try.prog 27 4 5 2 true := fldI_of ty25 Try.underlying27 rfl rfl (by decide) rfl rfl
instance fd27_5 : FldI Try.prog 27 5 7 1 false := fldI_of ty3 Try.underlying27 rfl rfl (by decide) rfl rfl
instance fd27_6 : FldI Try.prog 27 6 8 1 false := fldI_of ty26 Try.underlying27 rfl rfl (by decide) rfl rfl
instance fd28_0 : FldI Try.prog 28 0 0 1 false := fldI_of ty3 Try.underlying28 rfl rfl (by decide) rfl rfl
instance fd28_1 : FldI Try.prog 28 1 1 1 false := fldI_of ty9 Try.underlying28 rfl rfl (by decide) rfl rfl
instance fd28_2 : FldI Try.prog 28 2 2 1 false := fldI_of ty3 Try.underlying28 rfl rfl (by decide) rfl rfl
instance fd28_3 : FldI Try.prog 28 3 3 2 true := fldI_of ty25 Try.underlying28 rfl rfl (by decide) rfl rfl
instance fd28_4 : FldI Try.prog 28 4 5 2 true := fldI_of ty25 Try.underlying28 rfl rfl (by decide) rfl rfl
instance fd28_5 : FldI Try.prog 28 5 7 1 false := fldI_of ty3 Try.underlying28 rfl rfl (by decide) rfl rfl
instance fd28_6 : FldI Try.prog 28 6 8 1 false := fldI_of ty26 Try.underlying28 rfl rfl (by decide) rfl rfl
instance fd39_0 : FldI Try.prog 39 0 0 1 false := fldI_of ty3 Try.underlying39 rfl rfl (by decide) rfl rfl
instance fd39_1 : FldI Try.prog 39 1 1 1 false := fldI_of ty38 Try.underlying39 rfl rfl (by decide) rfl rfl
instance fd40_0 : FldI Try.prog 40 0 0 1 false := fldI_of ty3 Try.underlying40 rfl rfl (by decide) rfl rfl
instance fd40_1 : FldI Try.prog 40 1 1 1 false := fldI_of ty38 Try.underlying40 rfl rfl (by decide) rfl rfl
instance fd42_0 : FldI Try.prog 42 0 0 1 false := fldI_of ty3 Try.underlying42 rfl rfl (by decide) rfl rfl
instance fd42_1 : FldI Try.prog 42 1 1 1 false := fldI_of ty9 Try.underlying42 rfl rfl (by decide) rfl rfl
instance fd42_2 : FldI Try.prog 42 2 2 1 false := fldI_of ty3 Try.underlying42 rfl rfl (by decide) rfl rfl
instance fd42_3 : FldI Try.prog 42 3 3 2 true := fldI_of ty40 Try.underlying42 rfl rfl (by decide) rfl rfl
instance fd42_4 : FldI Try.prog 42 4 5 2 true := fldI_of ty40 Try.underlying42 rfl rfl (by decide) rfl rfl
instance fd42_5 : FldI Try.prog 42 5 7 1 false := fldI_of ty3 Try.underlying42 rfl rfl (by decide) rfl rfl
instance fd42_6 : FldI Try.prog 42 6 8 1 false := fldI_of ty41 Try.underlying42 rfl rfl (by decide) rfl rfl
instance fd43_0 : FldI Try.prog 43 0 0 1 false := fldI_of ty3 Try.underlying43 rfl rfl (by decide) rfl rfl
instance fd43_1 : FldI Try.prog 43 1 1 1 false := fldI_of ty9 Try.underlying43 rfl rfl (by decide) rfl rfl
instance fd43_2 : FldI Try.prog 43 2 2 1 false := fldI_of ty3 Try.underlying43 rfl rfl (by decide) rfl rfl
instance fd43_3 : FldI Try.prog 43 3 3 2 true := fldI_of ty40 Try.underlying43 rfl rfl (by decide) rfl rfl
instance fd43_4 : FldI Try.prog 43 4 5 2 true := fldI_of ty40 Try.underlying43 rfl rfl (by decide) rfl rfl
instance fd43_5 : FldI Try.prog 43 5 7 1 false := fldI_of ty3 Try.underlying43 rfl rfl (by decide) rfl rfl
instance fd43_6 : FldI Try.prog 43 6 8 1 false := fldI_of ty41 Try.underlying43 rfl rfl (by decide) rfl rfl
instance fd97_0 : FldI Try.prog 97 0 0 1 false := fldI_of ty22 Try.underlying97 rfl rfl (by decide) rfl rfl
instance fd97_1 : FldI Try.prog 97 1 1 1 false := fldI_of ty3 Try.underlying97 rfl rfl (by decide) rfl rfl
instance fd98_0 : FldI Try.prog 98 0 0 1 false := fldI_of ty22 Try.underlying98 rfl rfl (by decide) rfl rfl
instance fd98_1 : FldI Try.prog 98 1 1 1 false := fldI_of ty3 Try.underlying98 rfl rfl (by decide) rfl rfl
instance fd128_0 : FldI Try.prog 128 0 0 1 false := fldI_of ty9 Try.underlying128 rfl rfl (by decide) rfl rfl
instance fd128_1 : FldI Try.prog 128 1 1 2 true := fldI_of ty25 Try.underlying128 rfl rfl (by decide) rfl rfl
instance fd129_0 : FldI Try.prog 129 0 0 1 false := fldI_of ty9 Try.underlying129 rfl rfl (by decide) rfl rfl
instance fd129_1 : FldI Try.prog 129 1 1 2 true := fldI_of ty25 Try.underlying129 rfl rfl (by decide) rfl rfl
instance fd142_0 : FldI Try.prog 142 0 0 1 false := fldI_of ty17 Try.underlying142 rfl rfl (by decide) rfl rfl
instance fd142_1 : FldI Try.prog 142 1 1 1 false := fldI_of ty17 Try.underlying142 rfl rfl (by decide) rfl rfl
instance fd142_2 : FldI Try.prog 142 2 2 1 false := fldI_of ty17 Try.underlying142 rfl rfl (by decide) rfl rfl
instance fd142_3 : FldI Try.prog 142 3 3 1 false := fldI_of ty9 Try.underlying142 rfl rfl (by decide) rfl rfl
instance fd143_0 : FldI Try.prog 143 0 0 1 false := fldI_of ty17 Try.underlying143 rfl rfl (by decide) rfl rfl
instance fd143_1 : FldI Try.prog 143 1 1 1 false := fldI_of ty17 Try.underlying143 rfl rfl (by decide) rfl rfl
instance fd143_2 : FldI Try.prog 143 2 2 1 false := fldI_of ty17 Try.underlying143 rfl rfl (by decide) rfl rfl
instance fd143_3 : FldI Try.prog 143 3 3 1 false := fldI_of ty9 Try.underlying143 rfl rfl (by decide) rfl rfl
instance fd155_0 : FldI Try.prog 155 0 0 1 false := fldI_of ty12 Try.underlying155 rfl rfl (by decide) rfl rfl
instance fd155_1 : FldI Try.prog 155 1 1 1 false := fldI_of ty12 Try.underlying155 rfl rfl (by decide) rfl rfl
instance fd155_2 : FldI Try.prog 155 2 2 1 false := fldI_of ty148 Try.underlying155 rfl rfl (by decide) rfl rfl
instance fd155_3 : FldI Try.prog 155 3 3 1 false := fldI_of ty149 Try.underlying155 rfl rfl (by decide) rfl rfl
instance fd155_4 : FldI Try.prog 155 4 4 1 false := fldI_of ty5 Try.underlying155 rfl rfl (by decide) rfl rfl
instance fd155_5 : FldI Try.prog 155 5 5 1 false := fldI_of ty5 Try.underlying155 rfl rfl (by decide) rfl rfl
instance fd155_6 : FldI Try.prog 155 6 6 1 false := fldI_of ty150 Try.underlying155 rfl rfl (by decide) rfl rfl
instance fd155_7 : FldI Try.prog 155 7 7 1 false := fldI_of ty151 Try.underlying155 rfl rfl (by decide) rfl rfl
instance fd155_8 : FldI Try.prog 155 8 8 1 false := fldI_of ty152 Try.underlying155 rfl rfl (by decide) rfl rfl
instance fd155_9 : FldI Try.prog 155 9 9 1 false := fldI_of ty153 Try.underlying155 rfl rfl (by decide) rfl rfl
instance fd155_10 : FldI Try.prog 155 10 10 1 false := fldI_of ty154 Try.underlying155 rfl rfl (by decide) rfl rfl
instance fd156_0 : FldI Try.prog 156 0 0 1 false := fldI_of ty12 Try.underlying156 rfl rfl (by decide) rfl rfl
instance fd156_1 : FldI Try.prog 156 1 1 1 false := fldI_of ty12 Try.underlying156 rfl rfl (by decide) rfl rfl
instance fd156_2 : FldI Try.prog 156 2 2 1 false := fldI_of ty148 Try.underlying156 rfl rfl (by decide) rfl rfl
instance fd156_3 : FldI Try.prog 156 3 3 1 false := fldI_of ty149 Try.underlying156 rfl rfl (by decide) rfl rfl
instance fd156_4 : FldI Try.prog 156 4 4 1 false := fldI_of ty5 Try.underlying156 rfl rfl (by decide) rfl rfl
instance fd156_5 : FldI Try.prog 156 5 5 1 false := fldI_of ty5 Try.underlying156 rfl rfl (by decide) rfl rfl
instance fd156_6 : FldI Try.prog 156 6 6 1 false := fldI_of ty150 Try.underlying156 rfl rfl (by decide) rfl rfl
instance fd156_7 : FldI Try.prog 156 7 7 1 false := fldI_of ty151 Try.underlying156 rfl rfl (by decide) rfl rfl
instance fd156_8 : FldI Try.prog 156 8 8 1 false := fldI_of ty152 Try.underlying156 rfl rfl (by decide) rfl rfl
instance fd156_9 : FldI Try.prog 156 9 9 1 false := fldI_of ty153 Try.underlying156 rfl rfl (by decide) rfl rfl
instance fd156_10 : FldI Try.prog 156 10 10 1 false := fldI_of ty154 Try.underlying156 rfl rfl (by decide) rfl rfl
instance fn3 : FunI Try.prog 3 := funI_of Try.func3 (by kernel_rfl) (by kernel_rfl)
instance fn4 : FunI Try.prog 4 := funI_of Try.func4 (by kernel_rfl) (by kernel_rfl)
instance fn5 : FunI Try.prog 5 := funI_of Try.func5 (by kernel_rfl) (by kernel_rfl)
instance fn6 : FunI Try.prog 6 := funI_of Try.func6 (by kernel_rfl) (by kernel_rfl)
instance fn7 : FunI Try.prog 7 := funI_of Try.func7 (by kernel_rfl) (by kernel_rfl)
instance fn8 : FunI Try.prog 8 := funI_of Try.func8 (by kernel_rfl) (by kernel_rfl)
instance fn9 : FunI Try.prog 9 := funI_of Try.func9 (by kernel_rfl) (by kernel_rfl)
instance fn10 : FunI Try.prog 10 := funI_of Try.func10 (by kernel_rfl) (by kernel_rfl)
instance fn11 : FunI Try.prog 11 := funI_of Try.func11 (by kernel_rfl) (by kernel_rfl)
instance fn12 : FunI Try.prog 12 := funI_of Try.func12 (by kernel_rfl) (by kernel_rfl)
instance fn13 : FunI Try.prog 13 := funI_of Try.func13 (by kernel_rfl) (by kernel_rfl)
instance fn14 : FunI Try.prog 14 := funI_of Try.func14 (by kernel_rfl) (by kernel_rfl)
instance fn15 : FunI Try.prog 15 := funI_of Try.func15 (by kernel_rfl) (by kernel_rfl)
instance fn16 : FunI Try.prog 16 := funI_of Try.func16 (by kernel_rfl) (by kernel_rfl)
instance fn17 : FunI Try.prog 17 := funI_of Try.func17 (by kernel_rfl) (by kernel_rfl)
instance fn18 : FunI Try.prog 18 := funI_of Try.func18 (by kernel_rfl) (by kernel_rfl)
instance fn19 : FunI Try.prog 19 := funI_of Try.func19 (by kernel_rfl) (by kernel_rfl)
instance fn20 : FunI Try.prog 20 := funI_of Try.func20 (by kernel_rfl) (by kernel_rfl)
instance fn21 : FunI Try.prog 21 := funI_of Try.func21 (by kernel_rfl) (by kernel_rfl)
instance fn22 : FunI Try.prog 22 := funI_of Try.func22 (by kernel_rfl) (by kernel_rfl)
instance fn23 : FunI Try.prog 23 := funI_of Try.func23 (by kernel_rfl) (by kernel_rfl)
instance fn24 : FunI Try.prog 24 := funI_of Try.func24 (by kernel_rfl) (by kernel_rfl)
instance fn25 : FunI Try.prog 25 := funI_of Try.func25 (by kernel_rfl) (by kernel_rfl)
instance fn26 : FunI Try.prog 26 := funI_of Try.func26 (by kernel_rfl) (by kernel_rfl)
instance fn27 : FunI Try.prog 27 := funI_of Try.func27 (by kernel_rfl) (by kernel_rfl)
instance fn28 : FunI Try.prog 28 := funI_of Try.func28 (by kernel_rfl) (by kernel_rfl)
instance fn29 : FunI Try.prog 29 := funI_of Try.func29 (by kernel_rfl) (by kernel_rfl)
instance fn30 : FunI Try.prog 30 := funI_of Try.func30 (by kernel_rfl) (by kernel_rfl)
instance fn31 : FunI Try.prog 31 := funI_of Try.func31 (by kernel_rfl) (by kernel_rfl)
instance fn32 : FunI Try.prog 32 := funI_of Try.func32 (by kernel_rfl) (by kernel_rfl)
instance fn33 : FunI Try.prog 33 := funI_of Try.func33 (by kernel_rfl) (by kernel_rfl)
instance fn34 : FunI Try.prog 34 := funI_of Try.func34 (by kernel_rfl) (by kernel_rfl)
instance fn35 : FunI Try.prog 35 := funI_of Try.func35 (by kernel_rfl) (by kernel_rfl)
instance fn36 : FunI Try.prog 36 := funI_of Try.func36 (by kernel_rfl) (by kernel_rfl)
instance fn37 : FunI Try.prog 37 := funI_of Try.func37 (by kernel_rfl) (by kernel_rfl)
instance fn38 : FunI Try.prog 38 := funI_of Try.func38 (by kernel_rfl) (by kernel_rfl)
instance fn39 : FunI Try.prog 39 := funI_of Try.func39 (by kernel_rfl) (by kernel_rfl)
instance fn40 : FunI Try.prog 40 := funI_of Try.func40 (by kernel_rfl) (by kernel_rfl)
instance fn41 : FunI Try.prog 41 := funI_of Try.func41 (by kernel_rfl) (by kernel_rfl)
instance fn42 : FunI Try.prog 42 := funI_of Try.func42 (by kernel_rfl) (by kernel_rfl)
instance fn43 : FunI Try.prog 43 := funI_of Try.func43 (by kernel_rfl) (by kernel_rfl)
instance fn44 : FunI Try.prog 44 := funI_of Try.func44 (by kernel_rfl) (by kernel_rfl)
instance fn45 : FunI Try.prog 45 := funI_of Try.func45 (by kernel_rfl) (by kernel_rfl)
instance fn46 : FunI Try.prog 46 := funI_of Try.func46 (by kernel_rfl) (by kernel_rfl)
instance fn47 : FunI Try.prog 47 := funI_of Try.func47 (by kernel_rfl) (by kernel_rfl)
instance fn48 : FunI Try.prog 48 := funI_of Try.func48 (by kernel_rfl) (by kernel_rfl)
instance fn49 : FunI Try.prog 49 := funI_of Try.func49 (by kernel_rfl) (by kernel_rfl)
instance fn50 : FunI Try.prog 50 := funI_of Try.func50 (by kernel_rfl) (by kernel_rfl)
instance fn51 : FunI Try.prog 51 := funI_of Try.func51 (by kernel_rfl) (by kernel_rfl)
instance fn52 : FunI Try.prog 52 := funI_of Try.func52 (by kernel_rfl) (by kernel_rfl)
instance fn53 : FunI Try.prog 53 := funI_of Try.func53 (by kernel_rfl) (by kernel_rfl)
instance fn54 : FunI Try.prog 54 := funI_of Try.func54 (by kernel_rfl) (by kernel_rfl)
instance fn55 : FunI Try.prog 55 := funI_of Try.func55 (by kernel_rfl) (by kernel_rfl)
instance fn56 : FunI Try.prog 56 := funI_of Try.func56 (by kernel_rfl) (by kernel_rfl)
instance fn57 : FunI Try.prog 57 := funI_of Try.func57 (by kernel_rfl) (by kernel_rfl)
instance fn58 : FunI Try.prog 58 := funI_of Try.func58 (by kernel_rfl) (by kernel_rfl)
instance fn59 : FunI Try.prog 59 := funI_of Try.func59 (by kernel_rfl) (by kernel_rfl)
instance fn60 : FunI Try.prog 60 := funI_of Try.func60 (by kernel_rfl) (by kernel_rfl)
instance fn61 : FunI Try.prog 61 := funI_of Try.func61 (by kernel_rfl) (by kernel_rfl)
instance fn62 : FunI Try.prog 62 := funI_of Try.func62 (by kernel_rfl) (by kernel_rfl)
instance fn63 : FunI Try.prog 63 := funI_of Try.func63 (by kernel_rfl) (by kernel_rfl)
instance fn64 : FunI Try.prog 64 := funI_of Try.func64 (by kernel_rfl) (by kernel_rfl)
instance fn65 : FunI Try.prog 65 := funI_of Try.func65 (by kernel_rfl) (by kernel_rfl)
instance fn66 : FunI Try.prog 66 := funI_of Try.func66 (by kernel_rfl) (by kernel_rfl)
instance fn67 : FunI Try.prog 67 := funI_of Try.func67 (by kernel_rfl) (by kernel_rfl)
instance fn68 : FunI Try.prog 68 := funI_of Try.func68 (by kernel_rfl) (by kernel_rfl)
instance fn69 : FunI Try.prog 69 := funI_of Try.func69 (by kernel_rfl) (by kernel_rfl)
instance fn70 : FunI Try.prog 70 := funI_of Try.func70 (by kernel_rfl) (by kernel_rfl)
instance fn71 : FunI Try.prog 71 := funI_of Try.func71 (by kernel_rfl) (by kernel_rfl)
instance fn72 : FunI Try.prog 72 := funI_of Try.func72 (by kernel_rfl) (by kernel_rfl)
instance fn73 : FunI Try.prog 73 := funI_of Try.func73 (by kernel_rfl) (by kernel_rfl)
instance fn74 : FunI Try.prog 74 := funI_of Try.func74 (by kernel_rfl) (by kernel_rfl)
instance fn75 : FunI Try.prog 75 := funI_of Try.func75 (by kernel_rfl) (by kernel_rfl)
instance fn76 : FunI Try.prog 76 := funI_of Try.func76 (by kernel_rfl) (by kernel_rfl)
instance fn77 : FunI Try.prog 77 := funI_of Try.func77 (by kernel_rfl) (by kernel_rfl)
instance fn78 : FunI Try.prog 78 := funI_of Try.func78 (by kernel_rfl) (by kernel_rfl)
instance fn79 : FunI Try.prog 79 := funI_of Try.func79 (by kernel_rfl) (by kernel_rfl)
instance fn80 : FunI Try.prog 80 := funI_of Try.func80 (by kernel_rfl) (by kernel_rfl)
instance fn81 : FunI Try.prog 81 := funI_of Try.func81 (by kernel_rfl) (by kernel_rfl)
instance fn82 : FunI Try.prog 82 := funI_of Try.func82 (by kernel_rfl) (by kernel_rfl)
instance fn83 : FunI Try.prog 83 := funI_of Try.func83 (by kernel_rfl) (by kernel_rfl)
instance fn84 : FunI Try.prog 84 := funI_of Try.func84 (by kernel_rfl) (by kernel_rfl)
instance fn85 : FunI Try.prog 85 := funI_of Try.func85 (by kernel_rfl) (by kernel_rfl)
instance fn86 : FunI Try.prog 86 := funI_of Try.func86 (by kernel_rfl) (by kernel_rfl)
instance fn87 : FunI Try.prog 87 := funI_of Try.func87 (by kernel_rfl) (by kernel_rfl)
instance fn88 : FunI Try.prog 88 := funI_of Try.func88 (by kernel_rfl) (by kernel_rfl)
instance fn89 : FunI Try.prog 89 := funI_of Try.func89 (by kernel_rfl) (by kernel_rfl)
instance fn90 : FunI Try.prog 90 := funI_of Try.func90 (by kernel_rfl) (by kernel_rfl)
instance fn91 : FunI Try.prog 91 := funI_of Try.func91 (by kernel_rfl) (by kernel_rfl)
instance fn92 : FunI Try.prog 92 := funI_of Try.func92 (by kernel_rfl) (by kernel_rfl)
instance fn93 : FunI Try.prog 93 := funI_of Try.func93 (by kernel_rfl) (by kernel_rfl)
instance fn94 : FunI Try.prog 94 := funI_of Try.func94 (by kernel_rfl) (by kernel_rfl)
instance fn95 : FunI Try.prog 95 := funI_of Try.func95 (by kernel_rfl) (by kernel_rfl)
instance fn96 : FunI Try.prog 96 := funI_of Try.func96 (by kernel_rfl) (by kernel_rfl)
instance fn97 : FunI Try.prog 97 := funI_of Try.func97 (by kernel_rfl) (by kernel_rfl)
instance fn98 : FunI Try.prog 98 := funI_of Try.func98 (by kernel_rfl) (by kernel_rfl)
instance fn99 : FunI Try.prog 99 := funI_of Try.func99 (by kernel_rfl) (by kernel_rfl)
instance fn100 : FunI Try.prog 100 := funI_of Try.func100 (by kernel_rfl) (by kernel_rfl)
instance fn101 : FunI Try.prog 101 := funI_of Try.func101 (by kernel_rfl) (by kernel_rfl)
instance fn102 : FunI Try.prog 102 := funI_of Try.func102 (by kernel_rfl) (by kernel_rfl)
instance fn103 : FunI Try.prog 103 := funI_of Try.func103 (by kernel_rfl) (by kernel_rfl)
instance fn104 : FunI Try.prog 104 := funI_of Try.func104 (by kernel_rfl) (by kernel_rfl)
instance fn105 : FunI Try.prog 105 := funI_of Try.func105 (by kernel_rfl) (by kernel_rfl)
instance fn106 : FunI Try.prog 106 := funI_of Try.func106 (by kernel_rfl) (by kernel_rfl)
instance fn107 : FunI Try.prog 107 := funI_of Try.func107 (by kernel_rfl) (by kernel_rfl)
instance fn108 : FunI Try.prog 108 := funI_of Try.func108 (by kernel_rfl) (by kernel_rfl)
instance fn109 : FunI Try.prog 109 := funI_of Try.func109 (by kernel_rfl) (by kernel_rfl)
instance fn110 : FunI Try.prog 110 := funI_of Try.func110 (by kernel_rfl) (by kernel_rfl)
instance fn111 : FunI Try.prog 111 := funI_of Try.func111 (by kernel_rfl) (by kernel_rfl)
instance fn112 : FunI Try.prog 112 := funI_of Try.func112 (by kernel_rfl) (by kernel_rfl)
instance fn113 : FunI Try.prog 113 := funI_of Try.func113 (by kernel_rfl) (by kernel_rfl)
instance fn114 : FunI Try.prog 114 := funI_of Try.func114 (by kernel_rfl) (by kernel_rfl)
instance fn115 : FunI Try.prog 115 := funI_of Try.func115 (by kernel_rfl) (by kernel_rfl)
instance fn116 : FunI Try.prog 116 := funI_of Try.func116 (by kernel_rfl) (by kernel_rfl)
instance fn117 : FunI Try.prog 117 := funI_of Try.func117 (by kernel_rfl) (by kernel_rfl)
instance fn118 : FunI Try.prog 118 := funI_of Try.func118 (by kernel_rfl) (by kernel_rfl)
instance fn119 : FunI Try.prog 119 := funI_of Try.func119 (by kernel_rfl) (by kernel_rfl)
instance fn120 : FunI Try.prog 120 := funI_of Try.func120 (by kernel_rfl) (by kernel_rfl)
instance fn121 : FunI Try.prog 121 := funI_of Try.func121 (by kernel_rfl) (by kernel_rfl)
instance fn122 : FunI Try.prog 122 := funI_of Try.func122 (by kernel_rfl) (by kernel_rfl)
instance fn123 : FunI Try.prog 123 := funI_of Try.func123 (by kernel_rfl) (by kernel_rfl)
instance fn124 : FunI Try.prog 124 := funI_of Try.func124 (by kernel_rfl) (by kernel_rfl)
instance fn125 : FunI Try.prog 125 := funI_of Try.func125 (by kernel_rfl) (by kernel_rfl)
instance fn126 : FunI Try.prog 126 := funI_of Try.func126 (by kernel_rfl) (by kernel_rfl)
instance fn127 : FunI Try.prog 127 := funI_of Try.func127 (by kernel_rfl) (by kernel_rfl)
instance fn128 : FunI Try.prog 128 := funI_of Try.func128 (by kernel_rfl) (by kernel_rfl)
instance fn129 : FunI Try.prog 129 := funI_of Try.func129 (by kernel_rfl) (by kernel_rfl)
instance fn130 : FunI Try.prog 130 := funI_of Try.func130 (by kernel_rfl) (by kernel_rfl)
instance fn131 : FunI Try.prog 131 := funI_of Try.func131 (by kernel_rfl) (by kernel_rfl)
instance fn132 : FunI Try.prog 132 := funI_of Try.func132 (by kernel_rfl) (by kernel_rfl)
instance fn133 : FunI Try.prog 133 := funI_of Try.func133 (by kernel_rfl) (by kernel_rfl)
instance fn134 : FunI Try.prog 134 := funI_of Try.func134 (by kernel_rfl) (by kernel_rfl)
instance fn135 : FunI Try.prog 135 := funI_of Try.func135 (by kernel_rfl) (by kernel_rfl)
instance fn136 : FunI Try.prog 136 := funI_of Try.func136 (by kernel_rfl) (by kernel_rfl)
instance fn137 : FunI Try.prog 137 := funI_of Try.func137 (by kernel_rfl) (by kernel_rfl)
instance fn138 : FunI Try.prog 138 := funI_of Try.func138 (by kernel_rfl) (by kernel_rfl)
instance fn139 : FunI Try.prog 139 := funI_of Try.func139 (by kernel_rfl) (by kernel_rfl)
instance fn140 : FunI Try.prog 140 := funI_of Try.func140 (by kernel_rfl) (by kernel_rfl)
instance fn141 : FunI Try.prog 141 := funI_of Try.func141 (by kernel_rfl) (by kernel_rfl)
instance fn142 : FunI Try.prog 142 := funI_of Try.func142 (by kernel_rfl) (by kernel_rfl)
instance fn143 : FunI Try.prog 143 := funI_of Try.func143 (by kernel_rfl) (by kernel_rfl)
instance fn144 : FunI Try.prog 144 := funI_of Try.func144 (by kernel_rfl) (by kernel_rfl)
instance fn145 : FunI Try.prog 145 := funI_of Try.func145 (by kernel_rfl) (by kernel_rfl)
instance fn146 : FunI Try.prog 146 := funI_of Try.func146 (by kernel_rfl) (by kernel_rfl)
instance pl7 : PlcI Try.prog 7 [(0, 1), (1, 1), (2, 1), (3, 1)] := plc_of Try.underlying7 (by kernel_rfl) (by kernel_rfl)
instance pl8 : PlcI Try.prog 8 [(0, 1), (1, 1), (2, 1), (3, 1)] := plc_of Try.underlying8 (by kernel_rfl) (by kernel_rfl)
instance pl13 : PlcI Try.prog 13 [(0, 1), (1, 1)] := plc_of Try.underlying13 (by kernel_rfl) (by kernel_rfl)
instance pl14 : PlcI Try.prog 14 [(0, 1), (1, 1)] := plc_of Try.underlying14 (by kernel_rfl) (by kernel_rfl)
instance pl18 : PlcI Try.prog 18 [(0, 1)] := plc_of Try.underlying18 (by kernel_rfl) (by kernel_rfl)
instance pl19 : PlcI Try.prog 19 [(0, 1)] := plc_of Try.underlying19 (by kernel_rfl) (by kernel_rfl)
instance pl24 : PlcI Try.prog 24 [(0, 1), (1, 1)] := plc_of Try.underlying24 (by kernel_rfl) (by kernel_rfl)
instance pl25 : PlcI Try.prog 25 [(0, 1), (1, 1)] := plc_of Try.underlying25 (by kernel_rfl) (by kernel_rfl)
instance pl27 : PlcI Try.prog 27 [(0, 1), (1, 1), (2, 1), (3, 2), (5, 2), (7, 1), (8, 1)] := plc_of Try.underlying27 (by kernel_rfl) (by kernel_rfl)
instance pl28 : PlcI Try.prog 28 [(0, 1), (1, 1), (2, 1), (3, 2), (5, 2), (7, 1), (8, 1)] := plc_of Try.underlying28 (by kernel_rfl) (by kernel_rfl)
instance pl39 : PlcI Try.prog 39 [(0, 1), (1, 1)] := plc_of Try.underlying39 (by kernel_rfl) (by kernel_rfl)
instance pl40 : PlcI Try.prog 40 [(0, 1), (1, 1)] := plc_of Try.underlying40 (by kernel_rfl) (by kernel_rfl)
instance pl42 : PlcI Try.prog 42 [(0, 1), (1, 1), (2, 1), (3, 2), (5, 2), (7, 1), (8, 1)] := plc_of Try.underlying42 (by kernel_rfl) (by kernel_rfl)
instance pl43 : PlcI Try.prog 43 [(0, 1), (1, 1), (2, 1), (3, 2), (5, 2), (7, 1), (8, 1)] := plc_of Try.underlying43 (by kernel_rfl) (by kernel_rfl)
instance pl97 : PlcI Try.prog 97 [(0, 1), (1, 1)] := plc_of Try.underlying97 (by kernel_rfl) (by kernel_rfl)
instance pl98 : PlcI Try.prog 98 [(0, 1), (1, 1)] := plc_of Try.underlying98 (by kernel_rfl) (by kernel_rfl)
instance pl128 : PlcI Try.prog 128 [(0, 1), (1, 2)] := plc_of Try.underlying128 (by kernel_rfl) (by kernel_rfl)
instance pl129 : PlcI Try.prog 129 [(0, 1), (1, 2)] := plc_of Try.underlying129 (by kernel_rfl) (by kernel_rfl)
instance pl142 : PlcI Try.prog 142 [(0, 1), (1, 1), (2, 1), (3, 1)] := plc_of Try.underlying142 (by kernel_rfl) (by kernel_rfl)
instance pl143 : PlcI Try.prog 143 [(0, 1), (1, 1), (2, 1), (3, 1)] := plc_of Try.underlying143 (by kernel_rfl) (by kernel_rfl)
instance pl145 : PlcI Try.prog 145 [(0, 0)] := plc_of Try.underlying145 (by kernel_rfl) (by kernel_rfl)
instance pl146 : PlcI Try.prog 146 [(0, 0)] := plc_of Try.underlying146 (by kernel_rfl) (by kernel_rfl)
instance pl155 : PlcI Try.prog 155 [(0, 1), (1, 1), (2, 1), (3, 1), (4, 1), (5, 1), (6, 1), (7, 1), (8, 1), (9, 1), (10, 1)] := plc_of Try.underlying155 (by kernel_rfl) (by kernel_rfl)
instance pl156 : PlcI Try.prog 156 [(0, 1), (1, 1), (2, 1), (3, 1), (4, 1), (5, 1), (6, 1), (7, 1), (8, 1), (9, 1), (10, 1)] := plc_of Try.underlying156 (by kernel_rfl) (by kernel_rfl)
theorem mixed : Try.prog.follows .mixedOrders = true := by kernel_rfl
end Gw
end Go.Proofs.Ytlefgfdhlblahaa
namespace Go.Proofs.Ytlefgfdhlblahaa
open Go Go.RowKit
namespace Gw

/-- A slice of elements of sz cells each, in blocks that no longer change. -/
structure SlE (G : IM) (p : Option Addr) (n c sz : Nat) (es : List (List Value)) : Prop where
  sl : Sl G p n c sz es.flatten
  len : es.length = n
  all : ∀ e ∈ es, e.length = sz
  one : ∀ e ∈ es, e.all (·.oneCell') = true

theorem SlE.mono {G G' : IM} {p : Option Addr} {n c sz : Nat} {es : List (List Value)} (h : SlE G p n c sz es) (hg : IMle G G') : SlE G' p n c sz es := ⟨h.sl.mono hg, h.len, h.all, h.one⟩
theorem SlE.nil (G : IM) (sz : Nat) : SlE G none 0 0 sz [] := ⟨Sl.nil G sz, rfl, by simp, by simp⟩

theorem flat_get {sz : Nat} : ∀ {es : List (List Value)}, (∀ e ∈ es, e.length = sz) → ∀ {i : Nat} {e : List Value}, es[i]? = some e → ∀ j v, e[j]? = some v → es.flatten[i * sz + j]? = some v
  | [], _, i, e, h, _, _, _ => by simp at h
  | a :: r, hall, 0, e, h, j, v, hv => by
    simp at h; subst h
    have : j < a.length := (List.getElem?_eq_some_iff.1 hv).1
    simp [List.getElem?_append, this]
    simpa [List.getElem?_eq_getElem this] using hv
  | a :: r, hall, i + 1, e, h, j, v, hv => by
    have ih := flat_get (es := r) (fun x hx => hall x (List.mem_cons_of_mem _ hx)) (i := i) (e := e) (by simpa using h) j v hv
    have ha := hall a List.mem_cons_self
    rw [List.flatten_cons, List.getElem?_append, if_neg (by rw [ha, Nat.succ_mul]; omega)]
    rw [show (i + 1) * sz + j - a.length = i * sz + j by rw [ha, Nat.succ_mul]; omega]
    exact ih

theorem SlE.at {G : IM} {p : Option Addr} {n c sz : Nat} {es : List (List Value)} (h : SlE G p n c sz es) {i : Nat} {e : List Value} (hi : es[i]? = some e) :
    ∃ b o, p = some ⟨b, o, none⟩ ∧ ∀ hp, At hp G b (o + i * sz) e := by
  have hlt : i < es.length := (List.getElem?_eq_some_iff.1 hi).1
  obtain ⟨_, _, _, h4⟩ := h.sl
  have hn := h.len
  rcases h4 with h0 | ⟨b, o, full, hp, hg, hf⟩
  · omega
  · refine ⟨b, o, hp, fun hp => at_im hg fun j v hv => ?_⟩
    rw [Nat.add_assoc]
    exact hf _ v (flat_get h.all hi j v hv)

theorem SlE.get {G : IM} {p : Option Addr} {n c sz : Nat} {es : List (List Value)} (h : SlE G p n c sz es) {i : Nat} (hi : i < n) :
    ∃ e b o, es[i]? = some e ∧ p = some ⟨b, o, none⟩ ∧ e.length = sz ∧ e.all (·.oneCell') = true ∧ (∀ hp, At hp G b (o + i * sz) e) ∧ G b ≠ none := by
  have hlt : i < es.length := by rw [h.len]; exact hi
  have he : es[i]? = some es[i] := List.getElem?_eq_getElem hlt
  obtain ⟨b, o, h1, h2⟩ := h.at he
  refine ⟨es[i], b, o, he, h1, h.all _ (List.getElem_mem hlt), h.one _ (List.getElem_mem hlt), h2, ?_⟩
  obtain ⟨_, _, _, h4⟩ := h.sl
  rcases h4 with h0 | ⟨b', o', full, hp, hg, hf⟩
  · omega
  · rw [h1] at hp; cases hp; rw [hg]; simp
theorem SlE.le {G : IM} {p : Option Addr} {n c sz : Nat} {es : List (List Value)} (h : SlE G p n c sz es) : n ≤ 9223372036854775807 := by
  have h1 := h.sl.2.1; have h2 := h.sl.2.2.1; unfold maxLen at h2; omega

/-- An own slice, given up, element by element. -/
theorem SlE.of {G : IM} {p : Option Addr} {n c sz : Nat} {es : List (List Value)} (h : Sl G p n c sz es.flatten) (hl : es.length = n) (ha : ∀ e ∈ es, e.length = sz) (ho : ∀ e ∈ es, e.all (·.oneCell') = true) : SlE G p n c sz es := ⟨h, hl, ha, ho⟩

/-- Numbers that Go's int holds. -/
def I64 (n : Int) : Prop := -9223372036854775808 ≤ n ∧ n ≤ 9223372036854775807

inductive Ty where
  | mk (k : Int) (ks : List Ty)

def Ty.k : Ty → Int | .mk k _ => k
def Ty.ks : Ty → List Ty | .mk _ ks => ks

inductive Tm where
  | mk (k : Int) (nm : ByteArray) (num : Int) (ty fr : Ty) (lb : Int) (ks : List Tm)

def Tm.k : Tm → Int | .mk k _ _ _ _ _ _ => k
def Tm.nm : Tm → ByteArray | .mk _ n _ _ _ _ _ => n
def Tm.num : Tm → Int | .mk _ _ n _ _ _ _ => n
def Tm.ty : Tm → Ty | .mk _ _ _ t _ _ _ => t
def Tm.fr : Tm → Ty | .mk _ _ _ _ f _ _ => f
def Tm.lb : Tm → Int | .mk _ _ _ _ _ l _ => l
def Tm.ks : Tm → List Tm | .mk _ _ _ _ _ _ ks => ks

/- No list of the data is too long. -/
mutual
def Ty.small : Ty → Prop
  | .mk _ ks => ks.length ≤ 4294967296 ∧ Ty.smallL ks
def Ty.smallL : List Ty → Prop
  | [] => True
  | t :: ts => t.small ∧ Ty.smallL ts
end
mutual
def Tm.small : Tm → Prop
  | .mk _ nm _ ty fr _ ks => nm.size ≤ 4294967296 ∧ ty.small ∧ fr.small ∧ ks.length ≤ 4294967296 ∧ Tm.smallL ks
def Tm.smallL : List Tm → Prop
  | [] => True
  | t :: ts => t.small ∧ Tm.smallL ts
end
theorem Ty.smallL_mem : ∀ {ts : List Ty}, Ty.smallL ts → ∀ t ∈ ts, t.small
  | [], _, t, h => by simp at h
  | t' :: ts, h, t, ht => by
    simp only [Ty.smallL] at h
    rcases List.mem_cons.1 ht with rfl | ht
    · exact h.1
    · exact Ty.smallL_mem h.2 t ht
theorem Tm.smallL_mem : ∀ {ts : List Tm}, Tm.smallL ts → ∀ t ∈ ts, t.small
  | [], _, t, h => by simp at h
  | t' :: ts, h, t, ht => by
    simp only [Tm.smallL] at h
    rcases List.mem_cons.1 ht with rfl | ht
    · exact h.1
    · exact Tm.smallL_mem h.2 t ht

mutual
def RTy (G : IM) : Ty → List Value → Prop
  | .mk k ks, cells => ∃ p c es, cells = [.int .i64 k, .slice p ks.length c] ∧ I64 k ∧ SlE G p ks.length c 2 es ∧ RTyL G ks es
def RTyL (G : IM) : List Ty → List (List Value) → Prop
  | [], es => es = []
  | t :: ts, es => ∃ a r, es = a :: r ∧ RTy G t a ∧ RTyL G ts r
end

mutual
def RTm (G : IM) : Tm → List Value → Prop
  | .mk k nm num ty fr lb ks, cells => ∃ tc fc p c es, cells = [.int .i64 k, .string nm, .int .i64 num] ++ tc ++ fc ++ [.int .i64 lb, .slice p ks.length c] ∧ I64 k ∧ I64 num ∧ I64 lb ∧ RTy G ty tc ∧ RTy G fr fc ∧ SlE G p ks.length c 9 es ∧ RTmL G ks es
def RTmL (G : IM) : List Tm → List (List Value) → Prop
  | [], es => es = []
  | t :: ts, es => ∃ a r, es = a :: r ∧ RTm G t a ∧ RTmL G ts r
end

mutual
theorem RTy.mono {G G' : IM} (hg : IMle G G') : ∀ {t : Ty} {cells : List Value}, RTy G t cells → RTy G' t cells
  | .mk k ks, cells, h => by
    simp only [RTy] at h ⊢
    obtain ⟨p, c, es, h1, h2, h3, h4⟩ := h
    exact ⟨p, c, es, h1, h2, h3.mono hg, RTyL.mono hg h4⟩
theorem RTyL.mono {G G' : IM} (hg : IMle G G') : ∀ {ts : List Ty} {es : List (List Value)}, RTyL G ts es → RTyL G' ts es
  | [], es, h => by simpa only [RTyL] using h
  | t :: ts, es, h => by
    simp only [RTyL] at h ⊢
    obtain ⟨a, r, h1, h2, h3⟩ := h
    exact ⟨a, r, h1, RTy.mono hg h2, RTyL.mono hg h3⟩
end
mutual
theorem RTm.mono {G G' : IM} (hg : IMle G G') : ∀ {t : Tm} {cells : List Value}, RTm G t cells → RTm G' t cells
  | .mk k nm num ty fr lb ks, cells, h => by
    simp only [RTm] at h ⊢
    obtain ⟨tc, fc, p, c, es, h1, h2, h3, h4, h5, h6, h7, h8⟩ := h
    exact ⟨tc, fc, p, c, es, h1, h2, h3, h4, h5.mono hg, h6.mono hg, h7.mono hg, RTmL.mono hg h8⟩
theorem RTmL.mono {G G' : IM} (hg : IMle G G') : ∀ {ts : List Tm} {es : List (List Value)}, RTmL G ts es → RTmL G' ts es
  | [], es, h => by simpa only [RTmL] using h
  | t :: ts, es, h => by
    simp only [RTmL] at h ⊢
    obtain ⟨a, r, h1, h2, h3⟩ := h
    exact ⟨a, r, h1, RTm.mono hg h2, RTmL.mono hg h3⟩
end

theorem RTy.open {G : IM} {t : Ty} {cells : List Value} (h : RTy G t cells) : ∃ p c es, cells = [.int .i64 t.k, .slice p t.ks.length c] ∧ I64 t.k ∧ SlE G p t.ks.length c 2 es ∧ RTyL G t.ks es := by
  cases t; simpa only [RTy, Ty.k, Ty.ks] using h
theorem RTm.open {G : IM} {t : Tm} {cells : List Value} (h : RTm G t cells) : ∃ pt ct et pf cf ef p c es,
    cells = [.int .i64 t.k, .string t.nm, .int .i64 t.num, .int .i64 t.ty.k, .slice pt t.ty.ks.length ct, .int .i64 t.fr.k, .slice pf t.fr.ks.length cf, .int .i64 t.lb, .slice p t.ks.length c] ∧
    I64 t.k ∧ I64 t.num ∧ I64 t.lb ∧ (I64 t.ty.k ∧ SlE G pt t.ty.ks.length ct 2 et ∧ RTyL G t.ty.ks et) ∧ (I64 t.fr.k ∧ SlE G pf t.fr.ks.length cf 2 ef ∧ RTyL G t.fr.ks ef) ∧ SlE G p t.ks.length c 9 es ∧ RTmL G t.ks es := by
  obtain ⟨k, nm, num, ty, fr, lb, ks⟩ := t
  simp only [RTm] at h
  obtain ⟨tc, fc, p, c, es, h1, h2, h3, h4, h5, h6, h7, h8⟩ := h
  obtain ⟨pt, ct, et, rfl, t1, t2, t3⟩ := h5.open
  obtain ⟨pf, cf, ef, rfl, f1, f2, f3⟩ := h6.open
  exact ⟨pt, ct, et, pf, cf, ef, p, c, es, h1, h2, h3, h4, ⟨t1, t2, t3⟩, ⟨f1, f2, f3⟩, h7, h8⟩
theorem RTm.open9 {G : IM} {k : Int} {nm : ByteArray} {num : Int} {tk : Int} {tks : List Ty} {fk : Int} {fks : List Ty} {lb : Int} {ks : List Tm} {cells : List Value} (h : RTm G (.mk k nm num (.mk tk tks) (.mk fk fks) lb ks) cells) :
    ∃ pt ct pf cf p c es, cells = [.int .i64 k, .string nm, .int .i64 num, .int .i64 tk, .slice pt tks.length ct, .int .i64 fk, .slice pf fks.length cf, .int .i64 lb, .slice p ks.length c] ∧
    I64 k ∧ I64 num ∧ I64 lb ∧ RTy G (.mk tk tks) [.int .i64 tk, .slice pt tks.length ct] ∧ RTy G (.mk fk fks) [.int .i64 fk, .slice pf fks.length cf] ∧ SlE G p ks.length c 9 es ∧ RTmL G ks es := by
  obtain ⟨pt, ct, et, pf, cf, ef, p, c, es, h1, h2, h3, h4, ⟨t1, t2, t3⟩, ⟨f1, f2, f3⟩, h7, h8⟩ := h.open
  simp only [Tm.k, Tm.nm, Tm.num, Tm.ty, Tm.fr, Tm.lb, Tm.ks, Ty.k, Ty.ks] at h1 h2 h3 h4 t1 t2 t3 f1 f2 f3 h7 h8
  exact ⟨pt, ct, pf, cf, p, c, es, h1, h2, h3, h4, by simp only [RTy]; exact ⟨_, _, et, rfl, t1, t2, t3⟩, by simp only [RTy]; exact ⟨_, _, ef, rfl, f1, f2, f3⟩, h7, h8⟩
theorem RTy.len {G : IM} {t : Ty} {cells : List Value} (h : RTy G t cells) : cells.length = 2 := by
  obtain ⟨_, _, _, rfl, _⟩ := h.open; rfl
theorem RTm.len {G : IM} {t : Tm} {cells : List Value} (h : RTm G t cells) : cells.length = 9 := by
  obtain ⟨_, _, _, _, _, _, _, _, _, rfl, _⟩ := h.open; rfl

theorem RTyL.len {G : IM} : ∀ {ts : List Ty} {es : List (List Value)}, RTyL G ts es → es.length = ts.length
  | [], es, h => by simp only [RTyL] at h; subst h; rfl
  | t :: ts, es, h => by
    simp only [RTyL] at h
    obtain ⟨a, r, rfl, _, h3⟩ := h
    simp [h3.len]
theorem RTmL.len {G : IM} : ∀ {ts : List Tm} {es : List (List Value)}, RTmL G ts es → es.length = ts.length
  | [], es, h => by simp only [RTmL] at h; subst h; rfl
  | t :: ts, es, h => by
    simp only [RTmL] at h
    obtain ⟨a, r, rfl, _, h3⟩ := h
    simp [h3.len]
theorem RTyL.get {G : IM} : ∀ {ts : List Ty} {es : List (List Value)}, RTyL G ts es → ∀ {i : Nat} {t : Ty}, ts[i]? = some t → ∃ e, es[i]? = some e ∧ RTy G t e
  | [], es, h, i, t, hi => by simp at hi
  | t' :: ts, es, h, i, t, hi => by
    simp only [RTyL] at h
    obtain ⟨a, r, rfl, h2, h3⟩ := h
    cases i with
    | zero => simp at hi; subst hi; exact ⟨a, rfl, h2⟩
    | succ i => obtain ⟨e, he, hr⟩ := h3.get (i := i) (by simpa using hi); exact ⟨e, by simpa using he, hr⟩
theorem RTmL.get {G : IM} : ∀ {ts : List Tm} {es : List (List Value)}, RTmL G ts es → ∀ {i : Nat} {t : Tm}, ts[i]? = some t → ∃ e, es[i]? = some e ∧ RTm G t e
  | [], es, h, i, t, hi => by simp at hi
  | t' :: ts, es, h, i, t, hi => by
    simp only [RTmL] at h
    obtain ⟨a, r, rfl, h2, h3⟩ := h
    cases i with
    | zero => simp at hi; subst hi; exact ⟨a, rfl, h2⟩
    | succ i => obtain ⟨e, he, hr⟩ := h3.get (i := i) (by simpa using hi); exact ⟨e, by simpa using he, hr⟩
theorem RTyL.all {G : IM} {ts : List Ty} {es : List (List Value)} (h : RTyL G ts es) : ∀ e ∈ es, e.length = 2 := by
  intro e he
  obtain ⟨i, hi⟩ := List.getElem?_of_mem he
  have hlt : i < ts.length := by have := (List.getElem?_eq_some_iff.1 hi).1; rw [h.len] at this; exact this
  obtain ⟨e', he', hr⟩ := h.get (i := i) (t := ts[i]) (by simp [hlt])
  rw [hi] at he'; cases he'; exact hr.len
theorem RTmL.all {G : IM} {ts : List Tm} {es : List (List Value)} (h : RTmL G ts es) : ∀ e ∈ es, e.length = 9 := by
  intro e he
  obtain ⟨i, hi⟩ := List.getElem?_of_mem he
  have hlt : i < ts.length := by have := (List.getElem?_eq_some_iff.1 hi).1; rw [h.len] at this; exact this
  obtain ⟨e', he', hr⟩ := h.get (i := i) (t := ts[i]) (by simp [hlt])
  rw [hi] at he'; cases he'; exact hr.len

theorem RTy.one {G : IM} {t : Ty} {cells : List Value} (h : RTy G t cells) : cells.all (·.oneCell') = true := by
  obtain ⟨_, _, _, rfl, _⟩ := h.open; rfl
theorem RTm.one {G : IM} {t : Tm} {cells : List Value} (h : RTm G t cells) : cells.all (·.oneCell') = true := by
  obtain ⟨_, _, _, _, _, _, _, _, _, rfl, _⟩ := h.open; rfl

theorem Ty.ind {C : Ty → Prop} (h : ∀ k ks, (∀ t ∈ ks, C t) → C (.mk k ks)) : ∀ t, C t
  | .mk k ks => h k ks fun t ht => Ty.ind h t
termination_by t => SizeOf.sizeOf t
decreasing_by
  have := List.sizeOf_lt_of_mem ht
  simp only [Ty.mk.sizeOf_spec]; omega
theorem Tm.ind {C : Tm → Prop} (h : ∀ k nm num ty fr lb ks, (∀ t ∈ ks, C t) → C (.mk k nm num ty fr lb ks)) : ∀ t, C t
  | .mk k nm num ty fr lb ks => h k nm num ty fr lb ks fun t ht => Tm.ind h t
termination_by t => SizeOf.sizeOf t
decreasing_by
  have := List.sizeOf_lt_of_mem ht
  simp only [Tm.mk.sizeOf_spec]; omega

/-- What is in G' and not in G. -/
def Dif (G' G : IM) : IM := fun b => match G b with | none => G' b | some _ => none
theorem Dif.le (G' G : IM) : IMle (Dif G' G) G' := by
  intro b l h
  unfold Dif at h
  split at h
  · exact h
  · cases h
theorem Dif.mono {G' G'' G : IM} (h : IMle G' G'') : IMle (Dif G' G) (Dif G'' G) := by
  intro b l hb
  unfold Dif at hb ⊢
  split at hb
  · exact h b l hb
  · cases hb
theorem Dif.anti {G' G G0 : IM} (h : IMle G0 G) : IMle (Dif G' G) (Dif G' G0) := by
  intro b l hb
  unfold Dif at hb ⊢
  split at hb
  · rename_i h0
    cases h1 : G0 b with
    | none => exact hb
    | some l' => rw [h b l' h1] at h0; cases h0
  · cases hb
theorem Dif.out {G' G : IM} {b : Nat} (h : Dif G' G b ≠ none) : G b = none := by
  unfold Dif at h
  split at h
  · assumption
  · exact absurd rfl h
theorem Sl.dif {G' G G0 : IM} {p : Option Addr} {n c sz : Nat} {cs : List Value} (h : Sl G' p n c sz cs) (hp : ∀ b ∈ vfp p, G b = none) (hle : IMle G0 G) : Sl (Dif G' G0) p n c sz cs := by
  obtain ⟨h1, h2, h3, h4⟩ := h
  refine ⟨h1, h2, h3, h4.imp id ?_⟩
  rintro ⟨b, o, full, rfl, e2, e3⟩
  refine ⟨b, o, full, rfl, ?_, e3⟩
  have hb := hp b (by simp [vfp])
  have h0 : G0 b = none := by
    cases h1 : G0 b with
    | none => rfl
    | some l => rw [hle b l h1] at hb; cases hb
  simp [Dif, h0, e2]

/- Data in memory of its own: every slice in a block that nothing else of it lies in; F: these blocks. -/
mutual
def STy (G : IM) : Ty → List Value → List Nat → Prop
  | .mk k ks, cells, F => ∃ p c es Fs, cells = [.int .i64 k, .slice p ks.length c] ∧ I64 k ∧ SlE G p ks.length c 2 es ∧ STyL G ks es Fs ∧ F = vfp p ++ Fs ∧ (∀ b ∈ vfp p, G b ≠ none)
def STyL (G : IM) : List Ty → List (List Value) → List Nat → Prop
  | [], es, F => es = [] ∧ F = []
  | t :: ts, es, F => ∃ a r Fa Fr, es = a :: r ∧ STy G t a Fa ∧ STyL G ts r Fr ∧ F = Fa ++ Fr
end
mutual
theorem STy.R {G : IM} : ∀ {t : Ty} {cells : List Value} {F : List Nat}, STy G t cells F → RTy G t cells
  | .mk k ks, cells, F, h => by
    simp only [STy] at h
    obtain ⟨p, c, es, Fs, h1, h2, h3, h4, _⟩ := h
    simp only [RTy]
    exact ⟨p, c, es, h1, h2, h3, STyL.R h4⟩
theorem STyL.R {G : IM} : ∀ {ts : List Ty} {es : List (List Value)} {F : List Nat}, STyL G ts es F → RTyL G ts es
  | [], es, F, h => by simp only [STyL] at h; simp only [RTyL]; exact h.1
  | t :: ts, es, F, h => by
    simp only [STyL] at h
    obtain ⟨a, r, Fa, Fr, h1, h2, h3, _⟩ := h
    simp only [RTyL]
    exact ⟨a, r, h1, STy.R h2, STyL.R h3⟩
end
mutual
theorem STy.mono {G G' : IM} (hg : IMle G G') : ∀ {t : Ty} {cells : List Value} {F : List Nat}, STy G t cells F → STy G' t cells F
  | .mk k ks, cells, F, h => by
    simp only [STy] at h ⊢
    obtain ⟨p, c, es, Fs, h1, h2, h3, h4, h5, h6⟩ := h
    exact ⟨p, c, es, Fs, h1, h2, h3.mono hg, STyL.mono hg h4, h5, fun b hb => by cases hgb : G b with | none => exact absurd hgb (h6 b hb) | some l => rw [hg b l hgb]; simp⟩
theorem STyL.mono {G G' : IM} (hg : IMle G G') : ∀ {ts : List Ty} {es : List (List Value)} {F : List Nat}, STyL G ts es F → STyL G' ts es F
  | [], es, F, h => by simpa only [STyL] using h
  | t :: ts, es, F, h => by
    simp only [STyL] at h ⊢
    obtain ⟨a, r, Fa, Fr, h1, h2, h3, h4⟩ := h
    exact ⟨a, r, Fa, Fr, h1, STy.mono hg h2, STyL.mono hg h3, h4⟩
end
mutual
theorem STy.inG {G : IM} : ∀ {t : Ty} {cells : List Value} {F : List Nat}, STy G t cells F → ∀ b ∈ F, G b ≠ none
  | .mk k ks, cells, F, h => by
    simp only [STy] at h
    obtain ⟨p, c, es, Fs, h1, h2, h3, h4, rfl, h6⟩ := h
    intro b hb
    rcases List.mem_append.1 hb with hb | hb
    · exact h6 b hb
    · exact STyL.inG h4 b hb
theorem STyL.inG {G : IM} : ∀ {ts : List Ty} {es : List (List Value)} {F : List Nat}, STyL G ts es F → ∀ b ∈ F, G b ≠ none
  | [], es, F, h => by simp only [STyL] at h; rw [h.2]; simp
  | t :: ts, es, F, h => by
    simp only [STyL] at h
    obtain ⟨a, r, Fa, Fr, h1, h2, h3, rfl⟩ := h
    intro b hb
    rcases List.mem_append.1 hb with hb | hb
    · exact STy.inG h2 b hb
    · exact STyL.inG h3 b hb
end
theorem STyL.snoc {G : IM} : ∀ {ts : List Ty} {es : List (List Value)} {F : List Nat} {t : Ty} {a : List Value} {Fa : List Nat}, STyL G ts es F → STy G t a Fa → STyL G (ts ++ [t]) (es ++ [a]) (F ++ Fa)
  | [], es, F, t, a, Fa, h, h2 => by
    simp only [STyL] at h
    obtain ⟨rfl, rfl⟩ := h
    simp only [List.nil_append, STyL]
    exact ⟨a, [], Fa, [], rfl, h2, ⟨rfl, rfl⟩, by simp⟩
  | t' :: ts, es, F, t, a, Fa, h, h2 => by
    simp only [STyL] at h
    obtain ⟨a', r, Fa', Fr, rfl, h3, h4, rfl⟩ := h
    simp only [List.cons_append, STyL]
    exact ⟨a', r ++ [a], Fa', Fr ++ Fa, rfl, h3, STyL.snoc h4 h2, by simp⟩

theorem SlE.kidTy {G : IM} {p : Option Addr} {n c : Nat} {es : List (List Value)} {ks : List Ty} (h : SlE G p n c 2 es) (hk : RTyL G ks es) {i : Nat} (hi : i < n) (hn : i < ks.length) :
    ∃ b o p2 c2, p = some ⟨b, o, none⟩ ∧ (∀ hp, At hp G b (o + i * 2) [.int .i64 ks[i].k, .slice p2 ks[i].ks.length c2]) ∧ RTy G ks[i] [.int .i64 ks[i].k, .slice p2 ks[i].ks.length c2] ∧ G b ≠ none := by
  obtain ⟨e, b, o, he, h1, h2, h3, h4, h5⟩ := h.get hi
  obtain ⟨e', he', hr⟩ := hk.get (i := i) (t := ks[i]) (by simp [hn])
  rw [he] at he'; cases he'
  obtain ⟨p2, c2, _, rfl, _⟩ := hr.open
  exact ⟨b, o, p2, c2, h1, h4, hr, h5⟩

theorem STyL.step {G Gi G1 : IM} {ks : List Ty} {i : Nat} {es : List (List Value)} {F F' : List Nat} {a : List Value} (h : STyL (Dif Gi G) (ks.take i) es F) (hn : F.Nodup) (hle : IMle G Gi) (hle1 : IMle Gi G1) (hi : i < ks.length)
    (ha : STy (Dif G1 Gi) ks[i] a F') (hn' : F'.Nodup) : STyL (Dif G1 G) (ks.take (i + 1)) (es ++ [a]) (F ++ F') ∧ (F ++ F').Nodup := by
  constructor
  · rw [List.take_succ_eq_append_getElem hi]
    exact STyL.snoc (h.mono (Dif.mono hle1)) (ha.mono (Dif.anti hle))
  · rw [List.nodup_append]
    refine ⟨hn, hn', ?_⟩
    rintro x hx y hy rfl
    have h1 := h.inG x hx
    have h2 := Dif.out (ha.inG x hy)
    apply h1
    cases hd : Dif Gi G x with
    | none => rfl
    | some l => rw [Dif.le _ _ x l hd] at h2; cases h2
theorem STy.fin {G Gi G2 : IM} {k : Int} {ks : List Ty} {es : List (List Value)} {F : List Nat} {p : Option Addr} {c : Nat} (h : STyL (Dif Gi G) ks es F) (hn : F.Nodup) (hle : IMle G Gi) (hle2 : IMle Gi G2)
    (hsl : Sl G2 p ks.length c 2 es.flatten) (hnn : ∀ b ∈ vfp p, Gi b = none ∧ G2 b ≠ none) (hk : I64 k) :
    ∃ F', STy (Dif G2 G) (.mk k ks) [.int .i64 k, .slice p ks.length c] F' ∧ F'.Nodup := by
  have hno := fun b hb => (hnn b hb).1
  have hin := fun b hb => (hnn b hb).2
  have hR := h.R
  refine ⟨vfp p ++ F, ?_, ?_⟩
  · simp only [STy]
    refine ⟨p, c, es, F, rfl, hk, SlE.of (hsl.dif hno hle) hR.len hR.all ?_, h.mono (Dif.mono hle2), rfl, ?_⟩
    · intro e he
      obtain ⟨i, hi⟩ := List.getElem?_of_mem he
      have hlt : i < ks.length := by have := (List.getElem?_eq_some_iff.1 hi).1; rw [hR.len] at this; exact this
      obtain ⟨e', he', hr⟩ := hR.get (i := i) (t := ks[i]) (by simp [hlt])
      rw [hi] at he'; cases he'; exact hr.one
    · intro b hb
      have h0 := hno b hb
      cases hg : G b with
      | none => simpa [Dif, hg] using hin b hb
      | some l => rw [hle b l hg] at h0; cases h0
  · rw [List.nodup_append]
    refine ⟨by cases p <;> simp [vfp], hn, ?_⟩
    rintro x hx y hy rfl
    have h1 := h.inG x hy
    have h2 := hno x hx
    apply h1
    cases hd : Dif Gi G x with
    | none => rfl
    | some l => rw [Dif.le _ _ x l hd] at h2; cases h2

/-- The first index below n at which q says yes. -/
def firstIx (q : Nat → Bool) (n : Nat) : Int := match (List.range n).find? q with | some i => i | none => -1
theorem firstIx_none {q : Nat → Bool} {n : Nat} (h : ∀ j, j < n → q j = false) : firstIx q n = -1 := by
  have : (List.range n).find? q = none := by
    rw [List.find?_eq_none]
    intro x hx
    rw [h x (List.mem_range.1 hx)]; simp
  simp [firstIx, this]
theorem firstIx_some {q : Nat → Bool} {n i : Nat} (hi : i < n) (h : ∀ j, j < i → q j = false) (hq : q i = true) : firstIx q n = i := by
  have : (List.range n).find? q = some i := by
    rw [List.find?_eq_some_iff_append]
    refine ⟨hq, List.range i, (List.range n).drop (i + 1), ?_, ?_⟩
    · apply List.ext_getElem?
      intro k
      simp only [List.getElem?_append, List.length_range, List.getElem?_range', List.getElem?_cons, List.getElem?_drop]
      by_cases h1 : k < i
      · simp [h1, show k < n by omega]
      · by_cases h2 : k = i
        · subst h2; simp [hi]
        · have h3 : k - i ≠ 0 := by omega
          simp only [h1, if_false, h3]
          rw [show i + 1 + (k - i - 1) = k by omega]
    · intro a ha
      simp [h a (List.mem_range.1 ha)]
  simp [firstIx, this]
end Gw
end Go.Proofs.Ytlefgfdhlblahaa
namespace Go.Proofs.Ytlefgfdhlblahaa
open Go Go.RowKit
namespace Gw

def withinB (n lo hi : Int) : Bool := decide (lo ≤ n ∧ n ≤ hi)
theorem withinB_t {n lo hi : Int} (h : withinB n lo hi = true) : lo ≤ n ∧ n ≤ hi := by simpa [withinB] using h
theorem withinB_f {n lo hi : Int} (h : withinB n lo hi = false) : ¬(lo ≤ n ∧ n ≤ hi) := by simpa [withinB] using h
/-- How many operands a kind of types has, -1 for no kind. -/
def tyOps (k : Int) : Int := if k = 1 ∨ k = 2 ∨ k = 3 then 0 else if k = 4 ∨ k = 5 then 2 else -1
theorem tyOps_spec (k : Int) : (k = 1 ∨ k = 2 ∨ k = 3 → tyOps k = 0) ∧ (k = 4 ∨ k = 5 → tyOps k = 2) ∧ (k ≠ 1 → k ≠ 2 → k ≠ 3 → k ≠ 4 → k ≠ 5 → tyOps k = -1) := by
  unfold tyOps; split <;> try split
  all_goals omega
/-- How many operands a kind of terms has, -1 for no kind. -/
def tmOps (k : Int) : Int := if k = 1 ∨ k = 2 ∨ k = 3 ∨ k = 4 then 0 else if k = 5 ∨ k = 11 ∨ k = 12 ∨ k = 13 ∨ k = 14 then 1 else if k = 6 ∨ k = 7 ∨ k = 8 ∨ k = 10 then 2 else if k = 9 then 3 else -1

mutual
def tScan : Ty → Int → Bool
  | .mk k ks, d => decide (d ≤ 4) && decide (tyOps k = ks.length) && tScanL ks (d + 1)
def tScanL : List Ty → Int → Bool
  | [], _ => true
  | t :: ts, d => tScan t d && tScanL ts d
end
theorem tScanL_iff : ∀ (ts : List Ty) (d : Int), tScanL ts d = true ↔ ∀ i, (h : i < ts.length) → tScan ts[i] d = true
  | [], d => by simp [tScanL]
  | t :: ts, d => by
    simp only [tScanL, Bool.and_eq_true, tScanL_iff ts d]
    constructor
    · rintro ⟨h1, h2⟩ i hi
      cases i with
      | zero => exact h1
      | succ i => exact h2 i (by simpa using hi)
    · intro h
      exact ⟨h 0 (by simp), fun i hi => h (i + 1) (by simpa using hi)⟩
def tValid (t : Ty) : Bool := tScan t 1
def tNone (t : Ty) : Bool := decide (t.k = 0 ∧ t.ks.length = 0)

mutual
def tCons : Ty → Ty → Bool
  | .mk k ks, t => decide (k = 1) || decide (t.k = 1) || (decide (k = t.k) && tConsL ks t.ks)
def tConsL : List Ty → List Ty → Bool
  | [], [] => true
  | a :: xs, b :: ys => tCons a b && tConsL xs ys
  | _, _ => false
end
theorem tCons_mk (k k' : Int) (ks ks' : List Ty) : tCons (.mk k ks) (.mk k' ks') = (decide (k = 1) || decide (k' = 1) || (decide (k = k') && tConsL ks ks')) := by rw [tCons]; rfl
theorem tConsL_iff : ∀ (xs ys : List Ty), tConsL xs ys = true ↔ xs.length = ys.length ∧ ∀ i, (h : i < xs.length) → (h' : i < ys.length) → tCons xs[i] ys[i] = true
  | [], [] => by simp [tConsL]
  | [], b :: ys => by simp [tConsL]
  | a :: xs, [] => by simp [tConsL]
  | a :: xs, b :: ys => by
    simp only [tConsL, Bool.and_eq_true, tConsL_iff xs ys, List.length_cons]
    constructor
    · rintro ⟨h1, h2, h3⟩
      refine ⟨by omega, fun i hi hi' => ?_⟩
      cases i with
      | zero => exact h1
      | succ i => exact h3 i (by simpa using hi) (by simpa using hi')
    · rintro ⟨h1, h2⟩
      exact ⟨h2 0 (by simp) (by simp), by omega, fun i hi hi' => h2 (i + 1) (by simpa using hi) (by simpa using hi')⟩
def tConsistent (a b : Ty) : Bool := tValid a && tValid b && tCons a b
def nameOk (s : ByteArray) : Bool := decide (s.size = 1 ∧ 97 ≤ (s.data.getD 0 0).toNat ∧ (s.data.getD 0 0).toNat ≤ 122)
def labelOk (n : Int) : Bool := withinB n 1 99 || withinB n (-99) (-1)

theorem ba_get {s : ByteArray} {j : Int} (h : j.toNat < s.size) : s[j.toNat]? = some (s.data.getD j.toNat 0) := by
  rw [getElem?_pos s j.toNat h]
  show some (s.data[j.toNat]'h) = _
  rw [Array.getD_eq_getD_getElem?, getElem?_pos s.data j.toNat h]
  rfl
theorem firstIx_neg {q : Nat → Bool} {n : Nat} : firstIx q n < 0 ↔ ∀ j, j < n → q j = false := by
  constructor
  · intro h j hj
    unfold firstIx at h
    split at h
    · omega
    · rename_i hf
      have := List.find?_eq_none.1 hf j (List.mem_range.2 hj)
      simpa using this
  · intro h; rw [firstIx_none h]; omega
theorem firstIx_ge {q : Nat → Bool} {n : Nat} : 0 ≤ firstIx q n ↔ ∃ j, j < n ∧ q j = true := by
  have h := @firstIx_neg q n
  constructor
  · intro h0
    apply Classical.byContradiction
    intro hn
    have : firstIx q n < 0 := h.2 fun j hj => by cases hq : q j with | false => rfl | true => exact absurd ⟨j, hj, hq⟩ hn
    omega
  · rintro ⟨j, hj, hq⟩
    apply Classical.byContradiction
    intro hn
    rw [h.1 (by omega) j hj] at hq
    exact absurd hq (by simp)
theorem contains_not {α : Type} (f : α → Bool) (ks : List α) (a : α) : decide (0 ≤ firstIx (fun i => !f (ks.getD i a)) ks.length) = !ks.all f := by
  cases h : ks.all f with
  | true =>
    rw [List.all_eq_true] at h
    apply decide_eq_false
    rw [firstIx_ge]
    rintro ⟨j, hj, hq⟩
    rw [List.getD_eq_getElem?_getD, List.getElem?_eq_getElem hj, Option.getD_some, h _ (List.getElem_mem hj)] at hq
    exact absurd hq (by simp)
  | false =>
    apply decide_eq_true
    rw [firstIx_ge]
    apply Classical.byContradiction
    intro hn
    have : ks.all f = true := by
      rw [List.all_eq_true]
      intro x hx
      obtain ⟨j, hj, rfl⟩ := List.getElem_of_mem hx
      cases hf : f ks[j] with
      | true => rfl
      | false => exact absurd ⟨j, hj, by rw [List.getD_eq_getElem?_getD, List.getElem?_eq_getElem hj, Option.getD_some, hf]; rfl⟩ hn
    rw [h] at this
    exact absurd this (by simp)
theorem tScanL_all : ∀ (ks : List Ty) (d : Int), tScanL ks d = ks.all (tScan · d)
  | [], d => rfl
  | t :: ts, d => by simp [tScanL, tScanL_all ts d]
theorem RTyL.inv {G : IM} : ∀ {ts : List Ty} {es : List (List Value)}, RTyL G ts es → ∀ {i : Nat} {e : List Value}, es[i]? = some e → ∀ a, ts.getD i a ∈ ts ∧ RTy G (ts.getD i a) e
  | [], es, h, i, e, he, a => by
    have := h.len
    simp only [List.length_nil, List.length_eq_zero_iff] at this
    subst this; simp at he
  | t :: ts, es, h, i, e, he, a => by
    have hi : i < es.length := by
      apply Classical.byContradiction; intro hn; rw [List.getElem?_eq_none (by omega)] at he; simp at he
    have hl := h.len
    obtain ⟨e', he', hr⟩ := h.get (i := i) (t := (t :: ts)[i]'(by omega)) (by rw [List.getElem?_eq_getElem])
    rw [he] at he'
    obtain rfl := Option.some.inj he'
    rw [List.getD_eq_getElem?_getD, List.getElem?_eq_getElem (by omega), Option.getD_some]
    exact ⟨List.getElem_mem _, hr⟩
theorem RTmL.inv {G : IM} : ∀ {ts : List Tm} {es : List (List Value)}, RTmL G ts es → ∀ {i : Nat} {e : List Value}, es[i]? = some e → ∀ a, ts.getD i a ∈ ts ∧ RTm G (ts.getD i a) e
  | [], es, h, i, e, he, a => by
    have := h.len
    simp only [List.length_nil, List.length_eq_zero_iff] at this
    subst this; simp at he
  | t :: ts, es, h, i, e, he, a => by
    have hi : i < es.length := by
      apply Classical.byContradiction; intro hn; rw [List.getElem?_eq_none (by omega)] at he; simp at he
    have hl := h.len
    obtain ⟨e', he', hr⟩ := h.get (i := i) (t := (t :: ts)[i]'(by omega)) (by rw [List.getElem?_eq_getElem])
    rw [he] at he'
    obtain rfl := Option.some.inj he'
    rw [List.getD_eq_getElem?_getD, List.getElem?_eq_getElem (by omega), Option.getD_some]
    exact ⟨List.getElem_mem _, hr⟩
def ty0 : Ty := .mk 0 []
theorem ite_iff {p : Prop} [Decidable p] {x y : Bool} : ((if p then x else y) = true) ↔ ((p → x = true) ∧ (¬p → y = true)) := by by_cases h : p <;> simp [h]
theorem tmOps_tab {k : Int} (h : 1 ≤ k ∧ k ≤ 14) : ([Value.int .i64 0, .int .i64 0, .int .i64 0, .int .i64 0, .int .i64 1, .int .i64 2, .int .i64 2, .int .i64 2, .int .i64 3, .int .i64 2, .int .i64 1, .int .i64 1, .int .i64 1, .int .i64 1])[(k - 1).toNat]? = some (.int .i64 (tmOps k)) := by
  have : k = 1 ∨ k = 2 ∨ k = 3 ∨ k = 4 ∨ k = 5 ∨ k = 6 ∨ k = 7 ∨ k = 8 ∨ k = 9 ∨ k = 10 ∨ k = 11 ∨ k = 12 ∨ k = 13 ∨ k = 14 := by omega
  rcases this with rfl | rfl | rfl | rfl | rfl | rfl | rfl | rfl | rfl | rfl | rfl | rfl | rfl | rfl <;> rfl
theorem tmOps_no {k : Int} (h : ¬(1 ≤ k ∧ k ≤ 14)) : tmOps k = -1 := by
  unfold tmOps; repeat (split; omega)
  rfl
theorem one_at {cs : List Value} {o : Nat} {v : Value} (h : cs[o]? = some v) : ∀ j u, [v][j]? = some u → cs[o + j]? = some u := by
  intro j u hj
  cases j with
  | zero => simpa using hj ▸ h
  | succ j => simp at hj
/-- A node is valid by itself. -/
def tmNode (k : Int) (nm : ByteArray) (num : Int) (ty fr : Ty) (lb : Int) (n : Nat) : Bool :=
  decide (tmOps k = n) && (if k = 1 ∨ k = 5 then nameOk nm else decide (nm = ⟨#[]⟩)) && (if k = 2 then withinB num 0 999 else withinB num 0 0) &&
  (if k = 5 ∨ k = 13 ∨ k = 14 then tValid ty else tNone ty) && (if k = 14 then tConsistent fr ty && labelOk lb else tNone fr && decide (lb = 0))
theorem tmNode_iff {k : Int} {nm : ByteArray} {num : Int} {ty fr : Ty} {lb : Int} {n : Nat} : tmNode k nm num ty fr lb n = true ↔
    tmOps k = n ∧ (k = 1 ∨ k = 5 → nameOk nm = true) ∧ (¬(k = 1 ∨ k = 5) → nm = ⟨#[]⟩) ∧ (k = 2 → withinB num 0 999 = true) ∧ (k ≠ 2 → withinB num 0 0 = true) ∧
    (k = 5 ∨ k = 13 ∨ k = 14 → tValid ty = true) ∧ (¬(k = 5 ∨ k = 13 ∨ k = 14) → tNone ty = true) ∧ (k = 14 → tConsistent fr ty = true ∧ labelOk lb = true) ∧ (k ≠ 14 → tNone fr = true ∧ lb = 0) := by
  simp only [tmNode, Bool.and_eq_true, ite_iff, decide_eq_true_eq, and_assoc, ne_eq]
mutual
/-- A node and what is below it is valid; how many nodes were met. -/
def mScan (M D N : Int) : Tm → Int → Int → Bool × Int
  | .mk k nm num ty fr lb ks, deep, c => if c + 1 > M ∨ deep > D ∨ k = N ∨ tmNode k nm num ty fr lb ks.length = false then (false, c + 1) else mScanL M D N ks (deep + 1) (c + 1)
def mScanL (M D N : Int) : List Tm → Int → Int → Bool × Int
  | [], _, c => (true, c)
  | t :: ts, deep, c => if (mScan M D N t deep c).1 = true then mScanL M D N ts deep (mScan M D N t deep c).2 else (false, (mScan M D N t deep c).2)
end
mutual
theorem mScan_le (M D N : Int) : ∀ (t : Tm) (deep c : Int), 0 ≤ c → c ≤ M → c < (mScan M D N t deep c).2 ∧ (mScan M D N t deep c).2 ≤ M + 1 ∧ ((mScan M D N t deep c).1 = true → (mScan M D N t deep c).2 ≤ M)
  | .mk k nm num ty fr lb ks, deep, c, h0, h1 => by
    rw [mScan]
    split
    · simp; omega
    · rename_i h
      have := mScanL_le M D N ks (deep + 1) (c + 1) (by omega) (by omega)
      exact ⟨by omega, this.2⟩
theorem mScanL_le (M D N : Int) : ∀ (ts : List Tm) (deep c : Int), 0 ≤ c → c ≤ M → c ≤ (mScanL M D N ts deep c).2 ∧ (mScanL M D N ts deep c).2 ≤ M + 1 ∧ ((mScanL M D N ts deep c).1 = true → (mScanL M D N ts deep c).2 ≤ M)
  | [], deep, c, h0, h1 => by rw [mScanL]; simp; omega
  | t :: ts, deep, c, h0, h1 => by
    have := mScan_le M D N t deep c h0 h1
    rw [mScanL]
    split
    · rename_i h
      have h2 := mScanL_le M D N ts deep (mScan M D N t deep c).2 (by omega) (this.2.2 h)
      exact ⟨by omega, h2.2⟩
    · simp; omega
end
def castValid (t : Tm) : Bool := (mScan 200 40 13 t 1 0).1
def termValid (t : Tm) : Bool := (mScan 30 12 14 t 1 0).1
theorem SlE.kidTm {G : IM} {p : Option Addr} {n c : Nat} {es : List (List Value)} {ks : List Tm} (h : SlE G p n c 9 es) (hk : RTmL G ks es) {i : Nat} (hi : i < n) (hn : i < ks.length) :
    ∃ b o e, p = some ⟨b, o, none⟩ ∧ e.length = 9 ∧ (∀ hp, At hp G b (o + i * 9) e) ∧ RTm G ks[i] e ∧ G b ≠ none := by
  obtain ⟨e, b, o, he, hp, hl, _, hat, hg⟩ := h.get hi
  have := (hk.inv he (ks[i])).2
  rw [List.getD_eq_getElem?_getD, List.getElem?_eq_getElem hn, Option.getD_some] at this
  exact ⟨b, o, e, hp, hl, hat, this, hg⟩
theorem mScan_no {M D N : Int} {k : Int} {nm : ByteArray} {num : Int} {ty fr : Ty} {lb : Int} {ks : List Tm} {deep c : Int} (h : c + 1 > M ∨ deep > D ∨ k = N ∨ tmNode k nm num ty fr lb ks.length = false) :
    mScan M D N (.mk k nm num ty fr lb ks) deep c = (false, c + 1) := by rw [mScan, if_pos h]
theorem mScan_go {M D N : Int} {k : Int} {nm : ByteArray} {num : Int} {ty fr : Ty} {lb : Int} {ks : List Tm} {deep c : Int} (h1 : ¬(c + 1 > M ∨ deep > D ∨ k = N)) (h2 : tmNode k nm num ty fr lb ks.length = true) :
    mScan M D N (.mk k nm num ty fr lb ks) deep c = mScanL M D N ks (deep + 1) (c + 1) := by
  rw [mScan, if_neg]
  rw [h2]
  intro h
  apply h1
  rcases h with h | h | h | h
  · exact .inl h
  · exact .inr (.inl h)
  · exact .inr (.inr h)
  · cases h
theorem mScanL_t {M D N : Int} {ks : List Tm} {i : Nat} {deep c : Int} (hi : i < ks.length) (h : (mScan M D N ks[i] deep c).1 = true) : mScanL M D N (ks.drop i) deep c = mScanL M D N (ks.drop (i + 1)) deep (mScan M D N ks[i] deep c).2 := by
  rw [List.drop_eq_getElem_cons hi, mScanL, if_pos h]
theorem mScanL_f {M D N : Int} {ks : List Tm} {i : Nat} {deep c : Int} (hi : i < ks.length) (h : (mScan M D N ks[i] deep c).1 = false) : mScanL M D N (ks.drop i) deep c = (false, (mScan M D N ks[i] deep c).2) := by
  rw [List.drop_eq_getElem_cons hi, mScanL, if_neg (by rw [h]; simp)]
theorem mScanL_end {M D N : Int} {ks : List Tm} {i : Nat} {deep c : Int} (hi : i = ks.length) : mScanL M D N (ks.drop i) deep c = (true, c) := by
  rw [hi, List.drop_length, mScanL]
end Gw
end Go.Proofs.Ytlefgfdhlblahaa
namespace Go.Proofs.Ytlefgfdhlblahaa
open Go Go.RowKit
namespace Gw
section blk
variable {P : Program} {Γ : Ctx} {env : Env} {hp : List Ent} {G : IM} {K : Po} {ops : Array Oper} {rest : List Oper}
/-- An own slice that fills its block is that block. -/
theorem St.slc_blk {a : Act} {w : World} {b el sz n : Nat} {cs : List Value} {hp' : List Ent} (hs : St Γ ⟨env, hp, G⟩ a w) (hk : Pk hp (.slc (some ⟨b, 0, none⟩) n el sz n cs) hp') :
    St Γ ⟨env, .blk b cs :: hp', G⟩ a w := by
  have hown : Own [.slc (some ⟨b, 0, none⟩) n el sz n cs] G w := hs.res.own.of_mem hk.perm
  have hr : Res [.slc (some ⟨b, 0, none⟩) n el sz n cs] G w [.blk b cs] G w := by
    refine ⟨⟨hown.inn, ?_, by simp [Fp, Ent.fp], ?_⟩, Ext.refl _ _, IMle.refl _, fun _ _ h => .inl h, ?_, fun b l h h0 => absurd h (by rw [h0]; simp)⟩
    · intro e he
      simp at he; subst he
      obtain ⟨hl, h⟩ := hown.ok _ List.mem_cons_self
      rcases h with ⟨hv, _⟩ | ⟨g, cap, cur, hv, _, hg, _, _, hsz, ht⟩
      · cases hv
      · cases hv
        refine ⟨el, ?_⟩
        rw [hg]
        have : cur.toList = cs := by rw [← ht, List.take_of_length_le]; simp [hsz]
        rw [← this]
    · intro b' hb; exact hown.disj b' (by simpa [Fp, Ent.fp, vfp] using hb)
    · intro b' hb; exact .inr (by simpa [Fp, Ent.fp, vfp] using hb)
  exact ⟨hs.size, hs.nod, hs.env, by have := (hs.res.perm hk.perm).frame hr; simpa using this⟩
theorem triL_slcblk {b el sz n : Nat} {cs : List Value} {hp' : List Ent} (hk : Pk hp (.slc (some ⟨b, 0, none⟩) n el sz n cs) hp') (h : TriL P Γ ops rest K ⟨env, .blk b cs :: hp', G⟩) : TriL P Γ ops rest K ⟨env, hp, G⟩ :=
  ⟨fun a w hs => h.run a w (hs.slc_blk hk)⟩
theorem seq_makeBlk {d : Nat} {t el : TypeId} {i : TyR} {sz by' : Nat} {zs : List Value} {ty : TypeId} {pos : String} {af : Array Edge} {gd : Option (Nat × Bool)} [hI : TyI P t i] (hd' : i.desc = .slice el) [hE : TySz P el sz by' zs] {x : Operand} {n : Nat}
    (hd : Nat.blt d Γ.n = true) (hx : evo env x = some (.int .i64 (n : Int))) (hb : by' * n ≤ 281474976710656) (hm : n ≤ maxLen) (hw : wantG ops env gd = some true)
    (k : ∀ b, TriL P Γ ops rest K ⟨(d, .slice (some ⟨b, 0, none⟩) n n) :: env, .blk b (zrep n zs) :: hp, G⟩) :
    TriL P Γ ops (⟨some d, .makeSlice t x x, ty, pos, af, gd⟩ :: rest) K ⟨env, hp, G⟩ :=
  seq_step (step_makeSlice hd' hd hx hb hm) hw (by rintro _ ⟨b, rfl⟩; exact triL_slcblk .here (k b))
end blk

theorem upd_at : ∀ {A B C V : List Value} {o : Nat}, A.length = o → B.length = V.length → upd (A ++ (B ++ C)) o V = some (A ++ (V ++ C))
  | [], B, C, V, o, h, hv => by
    simp at h; subst h
    simp only [List.nil_append]
    induction B generalizing V with
    | nil => cases V with
      | nil => cases C <;> rfl
      | cons v V => simp at hv
    | cons b B ih => cases V with
      | nil => simp at hv
      | cons v V =>
        simp only [List.cons_append, upd, ih (V := V) (by simpa using hv)]
  | a :: A, B, C, V, o, h, hv => by
    simp at h; subst h
    simp only [List.cons_append, upd, upd_at (A := A) (B := B) (C := C) rfl hv]
theorem flat_len {sz : Nat} : ∀ {es : List (List Value)}, (∀ e ∈ es, e.length = sz) → es.flatten.length = es.length * sz
  | [], _ => by simp
  | e :: es, h => by
    rw [List.flatten_cons, List.length_append, h e List.mem_cons_self, flat_len (es := es) fun x hx => h x (List.mem_cons_of_mem _ hx), List.length_cons, Nat.succ_mul]; omega
theorem upd_next {es : List (List Value)} {n i sz : Nat} {Z V : List Value} (hl : es.length = i) (ha : ∀ e ∈ es, e.length = sz) (hz : Z.length = sz) (hv : V.length = sz) (hi : i < n) :
    upd (es.flatten ++ zrep (n - i) Z) (0 + i * sz) V = some ((es ++ [V]).flatten ++ zrep (n - (i + 1)) Z) := by
  have hz' : zrep (n - i) Z = Z ++ zrep (n - (i + 1)) Z := by
    rw [show n - i = (n - (i + 1)) + 1 by omega]; rfl
  rw [hz', upd_at (by rw [flat_len ha, hl]; omega) (by rw [hz, hv])]
  simp
theorem zrep_self (X Z : List Value) (n : Nat) : X ++ zrep (n - n) Z = X := by rw [Nat.sub_self]; simp [zrep]
theorem sl_wi {G : IM} {b n sz : Nat} {cs : List Value} (hl : cs.length = n * sz) (hn : n ≤ maxLen) : Sl (Wi G [(b, cs)]) (some ⟨b, 0, none⟩) n n sz cs :=
  ⟨hl, Nat.le_refl _, hn, .inr ⟨b, 0, cs, rfl, by simp [Wi, List.lookup], fun j v h => by simpa using h⟩⟩
theorem wi_no {G : IM} {b : Nat} {cs : List Value} (hd : ∀ q ∈ [((b, cs) : Nat × List Value)], G q.1 = none) : ∀ x ∈ vfp (some ⟨b, 0, none⟩), G x = none ∧ Wi G [(b, cs)] x ≠ none := by
  intro x hx
  simp [vfp] at hx; subst hx
  exact ⟨hd _ List.mem_cons_self, by simp [Wi, List.lookup]⟩

/-- A slice of types in memory of its own. -/
def STyS (G : IM) (ks : List Ty) (p : Option Addr) (c : Nat) (F : List Nat) : Prop := ∃ es Fs, SlE G p ks.length c 2 es ∧ STyL G ks es Fs ∧ F = vfp p ++ Fs ∧ (∀ b ∈ vfp p, G b ≠ none)
theorem STyS.ty {G : IM} {k : Int} {ks : List Ty} {p : Option Addr} {c : Nat} {F : List Nat} (h : STyS G ks p c F) (hk : I64 k) : STy G (.mk k ks) [.int .i64 k, .slice p ks.length c] F := by
  obtain ⟨es, Fs, h1, h2, h3, h4⟩ := h
  simp only [STy]
  exact ⟨p, c, es, Fs, rfl, hk, h1, h2, h3, h4⟩
theorem STy.open {G : IM} {t : Ty} {cells : List Value} {F : List Nat} (h : STy G t cells F) : ∃ p c, cells = [.int .i64 t.k, .slice p t.ks.length c] ∧ I64 t.k ∧ STyS G t.ks p c F := by
  cases t
  simp only [STy] at h
  obtain ⟨p, c, es, Fs, h0, hk, h1, h2, h3, h4⟩ := h
  exact ⟨p, c, h0, hk, es, Fs, h1, h2, h3, h4⟩
theorem STyS.fin {G Gi G2 : IM} {ks : List Ty} {es : List (List Value)} {F : List Nat} {p : Option Addr} {c : Nat} (h : STyL (Dif Gi G) ks es F) (hn : F.Nodup) (hle : IMle G Gi) (hle2 : IMle Gi G2)
    (hsl : Sl G2 p ks.length c 2 es.flatten) (hnn : ∀ b ∈ vfp p, Gi b = none ∧ G2 b ≠ none) :
    ∃ F', STyS (Dif G2 G) ks p c F' ∧ F'.Nodup := by
  obtain ⟨F', h1, h2⟩ := STy.fin (k := 0) h hn hle hle2 hsl hnn ⟨by omega, by omega⟩
  obtain ⟨p', c', h3, _, h4⟩ := h1.open
  simp only [Ty.ks, Ty.k, List.cons.injEq, Value.slice.injEq, true_and, and_true] at h3
  obtain ⟨rfl, rfl⟩ := h3
  exact ⟨F', h4, h2⟩

mutual
def STm (G : IM) : Tm → List Value → List Nat → Prop
  | .mk k nm num ty fr lb ks, cells, F => ∃ tc fc p c es Ft Ff Fs, cells = [.int .i64 k, .string nm, .int .i64 num] ++ tc ++ fc ++ [.int .i64 lb, .slice p ks.length c] ∧ I64 k ∧ I64 num ∧ I64 lb ∧ STy G ty tc Ft ∧ STy G fr fc Ff ∧
      SlE G p ks.length c 9 es ∧ STmL G ks es Fs ∧ F = Ft ++ (Ff ++ (vfp p ++ Fs)) ∧ (∀ b ∈ vfp p, G b ≠ none)
def STmL (G : IM) : List Tm → List (List Value) → List Nat → Prop
  | [], es, F => es = [] ∧ F = []
  | t :: ts, es, F => ∃ a r Fa Fr, es = a :: r ∧ STm G t a Fa ∧ STmL G ts r Fr ∧ F = Fa ++ Fr
end
/-- A slice of terms in memory of its own. -/
def STmS (G : IM) (ks : List Tm) (p : Option Addr) (c : Nat) (F : List Nat) : Prop := ∃ es Fs, SlE G p ks.length c 9 es ∧ STmL G ks es Fs ∧ F = vfp p ++ Fs ∧ (∀ b ∈ vfp p, G b ≠ none)
mutual
theorem STm.R {G : IM} : ∀ {t : Tm} {cells : List Value} {F : List Nat}, STm G t cells F → RTm G t cells
  | .mk k nm num ty fr lb ks, cells, F, h => by
    simp only [STm] at h
    obtain ⟨tc, fc, p, c, es, Ft, Ff, Fs, h1, h2, h3, h4, h5, h6, h7, h8, _⟩ := h
    simp only [RTm]
    exact ⟨tc, fc, p, c, es, h1, h2, h3, h4, h5.R, h6.R, h7, STmL.R h8⟩
theorem STmL.R {G : IM} : ∀ {ts : List Tm} {es : List (List Value)} {F : List Nat}, STmL G ts es F → RTmL G ts es
  | [], es, F, h => by simp only [STmL] at h; simp only [RTmL]; exact h.1
  | t :: ts, es, F, h => by
    simp only [STmL] at h
    obtain ⟨a, r, Fa, Fr, h1, h2, h3, _⟩ := h
    simp only [RTmL]
    exact ⟨a, r, h1, STm.R h2, STmL.R h3⟩
end
theorem dmono {G G' : IM} (hg : IMle G G') {F : List Nat} (h : ∀ b ∈ F, G b ≠ none) : ∀ b ∈ F, G' b ≠ none := fun b hb => by
  cases hgb : G b with
  | none => exact absurd hgb (h b hb)
  | some l => rw [hg b l hgb]; simp
mutual
theorem STm.mono {G G' : IM} (hg : IMle G G') : ∀ {t : Tm} {cells : List Value} {F : List Nat}, STm G t cells F → STm G' t cells F
  | .mk k nm num ty fr lb ks, cells, F, h => by
    simp only [STm] at h ⊢
    obtain ⟨tc, fc, p, c, es, Ft, Ff, Fs, h1, h2, h3, h4, h5, h6, h7, h8, h9, h10⟩ := h
    exact ⟨tc, fc, p, c, es, Ft, Ff, Fs, h1, h2, h3, h4, h5.mono hg, h6.mono hg, h7.mono hg, STmL.mono hg h8, h9, dmono hg h10⟩
theorem STmL.mono {G G' : IM} (hg : IMle G G') : ∀ {ts : List Tm} {es : List (List Value)} {F : List Nat}, STmL G ts es F → STmL G' ts es F
  | [], es, F, h => by simpa only [STmL] using h
  | t :: ts, es, F, h => by
    simp only [STmL] at h ⊢
    obtain ⟨a, r, Fa, Fr, h1, h2, h3, h4⟩ := h
    exact ⟨a, r, Fa, Fr, h1, STm.mono hg h2, STmL.mono hg h3, h4⟩
end
mutual
theorem STm.inG {G : IM} : ∀ {t : Tm} {cells : List Value} {F : List Nat}, STm G t cells F → ∀ b ∈ F, G b ≠ none
  | .mk k nm num ty fr lb ks, cells, F, h => by
    simp only [STm] at h
    obtain ⟨tc, fc, p, c, es, Ft, Ff, Fs, h1, h2, h3, h4, h5, h6, h7, h8, rfl, h10⟩ := h
    intro b hb
    simp only [List.mem_append] at hb
    rcases hb with hb | hb | hb | hb
    · exact h5.inG b hb
    · exact h6.inG b hb
    · exact h10 b hb
    · exact STmL.inG h8 b hb
theorem STmL.inG {G : IM} : ∀ {ts : List Tm} {es : List (List Value)} {F : List Nat}, STmL G ts es F → ∀ b ∈ F, G b ≠ none
  | [], es, F, h => by simp only [STmL] at h; rw [h.2]; simp
  | t :: ts, es, F, h => by
    simp only [STmL] at h
    obtain ⟨a, r, Fa, Fr, h1, h2, h3, rfl⟩ := h
    intro b hb
    rcases List.mem_append.1 hb with hb | hb
    · exact STm.inG h2 b hb
    · exact STmL.inG h3 b hb
end
theorem STmL.snoc {G : IM} : ∀ {ts : List Tm} {es : List (List Value)} {F : List Nat} {t : Tm} {a : List Value} {Fa : List Nat}, STmL G ts es F → STm G t a Fa → STmL G (ts ++ [t]) (es ++ [a]) (F ++ Fa)
  | [], es, F, t, a, Fa, h, h2 => by
    simp only [STmL] at h
    obtain ⟨rfl, rfl⟩ := h
    simp only [List.nil_append, STmL]
    exact ⟨a, [], Fa, [], rfl, h2, ⟨rfl, rfl⟩, by simp⟩
  | t' :: ts, es, F, t, a, Fa, h, h2 => by
    simp only [STmL] at h
    obtain ⟨a', r, Fa', Fr, rfl, h3, h4, rfl⟩ := h
    simp only [List.cons_append, STmL]
    exact ⟨a', r ++ [a], Fa', Fr ++ Fa, rfl, h3, STmL.snoc h4 h2, by simp⟩
theorem dif_no {G Gi : IM} {F F' : List Nat} {G1 : IM} (h : ∀ b ∈ F, Dif Gi G b ≠ none) (h' : ∀ b ∈ F', Dif G1 Gi b ≠ none) : ∀ x ∈ F, ∀ y ∈ F', x ≠ y := by
  rintro x hx y hy rfl
  have h1 := h x hx
  have h2 := Dif.out (h' x hy)
  apply h1
  cases hd : Dif Gi G x with
  | none => rfl
  | some l => rw [Dif.le _ _ x l hd] at h2; cases h2
theorem STmL.step {G Gi G1 : IM} {ks : List Tm} {i : Nat} {es : List (List Value)} {F F' : List Nat} {a : List Value} (h : STmL (Dif Gi G) (ks.take i) es F) (hn : F.Nodup) (hle : IMle G Gi) (hle1 : IMle Gi G1) (hi : i < ks.length)
    (ha : STm (Dif G1 Gi) ks[i] a F') (hn' : F'.Nodup) : STmL (Dif G1 G) (ks.take (i + 1)) (es ++ [a]) (F ++ F') ∧ (F ++ F').Nodup := by
  constructor
  · rw [List.take_succ_eq_append_getElem hi]
    exact STmL.snoc (h.mono (Dif.mono hle1)) (ha.mono (Dif.anti hle))
  · rw [List.nodup_append]
    exact ⟨hn, hn', dif_no h.inG ha.inG⟩
theorem vfp_nodup (p : Option Addr) : (vfp p).Nodup := by cases p <;> simp [vfp]
theorem STmS.fin {G Gi G2 : IM} {ks : List Tm} {es : List (List Value)} {F : List Nat} {p : Option Addr} {c : Nat} (h : STmL (Dif Gi G) ks es F) (hn : F.Nodup) (hle : IMle G Gi) (hle2 : IMle Gi G2)
    (hsl : Sl G2 p ks.length c 9 es.flatten) (hnn : ∀ b ∈ vfp p, Gi b = none ∧ G2 b ≠ none) :
    ∃ F', STmS (Dif G2 G) ks p c F' ∧ F'.Nodup := by
  have hR := h.R
  have hin : ∀ b ∈ vfp p, Dif G2 G b ≠ none := by
    intro b hb
    have h0 := (hnn b hb).1
    cases hg : G b with
    | none => simpa [Dif, hg] using (hnn b hb).2
    | some l => rw [hle b l hg] at h0; cases h0
  refine ⟨vfp p ++ F, ⟨es, F, SlE.of (hsl.dif (fun b hb => (hnn b hb).1) hle) hR.len hR.all ?_, h.mono (Dif.mono hle2), rfl, hin⟩, ?_⟩
  · intro e he
    obtain ⟨i, hi⟩ := List.getElem?_of_mem he
    have hlt : i < ks.length := by have := (List.getElem?_eq_some_iff.1 hi).1; rw [hR.len] at this; exact this
    obtain ⟨e', he', hr⟩ := hR.get (i := i) (t := ks[i]) (by simp [hlt])
    rw [hi] at he'; cases he'; exact hr.one
  · rw [List.nodup_append]
    refine ⟨vfp_nodup p, hn, ?_⟩
    rintro x hx y hy rfl
    have h1 := h.inG x hy
    have h2 := (hnn x hx).1
    apply h1
    cases hd : Dif Gi G x with
    | none => rfl
    | some l => rw [Dif.le _ _ x l hd] at h2; cases h2
/-- A term put together out of parts that came one after the other. -/
theorem STm.mk3 {G G1 G2 G3 : IM} {k : Int} {nm : ByteArray} {num : Int} {ty fr : Ty} {lb : Int} {ks : List Tm} {tc fc : List Value} {p : Option Addr} {c : Nat} {F1 F2 F3 : List Nat} (hk : I64 k) (hnum : I64 num) (hlb : I64 lb)
    (hl1 : IMle G G1) (hl2 : IMle G1 G2) (hl3 : IMle G2 G3) (h1 : STy (Dif G1 G) ty tc F1) (n1 : F1.Nodup) (h2 : STy (Dif G2 G1) fr fc F2) (n2 : F2.Nodup) (h3 : STmS (Dif G3 G2) ks p c F3) (n3 : F3.Nodup) :
    ∃ F, STm (Dif G3 G) (.mk k nm num ty fr lb ks) ([.int .i64 k, .string nm, .int .i64 num] ++ tc ++ fc ++ [.int .i64 lb, .slice p ks.length c]) F ∧ F.Nodup := by
  obtain ⟨es, Fs, e1, e2, rfl, e4⟩ := h3
  have i3 : ∀ b ∈ vfp p ++ Fs, Dif G3 G2 b ≠ none := by
    intro b hb
    rcases List.mem_append.1 hb with hb | hb
    · exact e4 b hb
    · exact e2.inG b hb
  have a2 : IMle (Dif G2 G1) (Dif G3 G) := fun b l h => Dif.mono hl3 b l (Dif.anti hl1 b l h)
  have a3 : IMle (Dif G3 G2) (Dif G3 G) := Dif.anti (hl1.trans hl2)
  refine ⟨F1 ++ (F2 ++ (vfp p ++ Fs)), ?_, ?_⟩
  · simp only [STm]
    exact ⟨tc, fc, p, c, es, F1, F2, Fs, rfl, hk, hnum, hlb, h1.mono (Dif.mono (hl2.trans hl3)), h2.mono a2, e1.mono a3, e2.mono a3, rfl, dmono a3 e4⟩
  · rw [List.nodup_append, List.nodup_append]
    refine ⟨n1, ⟨n2, n3, dif_no h2.inG i3⟩, ?_⟩
    rintro x hx y hy rfl
    rcases List.mem_append.1 hy with hy | hy
    · exact dif_no h1.inG h2.inG x hx x hy rfl
    · have h1' : ∀ b ∈ F1, Dif G2 G b ≠ none := dmono (Dif.mono hl2) h1.inG
      exact dif_no h1' i3 x hx x hy rfl
end Gw
end Go.Proofs.Ytlefgfdhlblahaa
namespace Go.Proofs.Ytlefgfdhlblahaa
open Go Go.RowKit
namespace Gw
section clawss
variable {P : Program} {Γ : Ctx} {env : Env} {hp : List Ent} {G : IM} {ty : TypeId}
theorem pure_conv_u8 {s d : TypeId} {is id : TyR} [hS : TyI P s is] [hD : TyI P d id] (hd : id.desc = .int .u8) {k : IntKind} (hs : is.desc = .int k) {x : Operand} {n : Int} (hx : evo env x = some (.int k n)) (h0 : 0 ≤ n) (h1 : n ≤ 255) :
    PureOp P Γ ⟨env, hp, G⟩ (.convert s d x) ty (.int .u8 n) := by
  refine ⟨fun a _ hst _ _ _ _ w => ?_⟩
  have hu := hD.und
  rw [hd] at hu
  have hus := hS.und
  rw [hs] at hus
  have hw : IntKind.u8.wrap n = n := IntWalk.u8_in n ⟨h0, h1⟩
  simp [execOp, convert, run_underlying hus, run_underlying hu, (hst.evo hx : a.eval x = _), Conv.intToInt, hw]
theorem load_conv_str {s d e : TypeId} {is id ie : TyR} [hS : TyI P s is] [hD : TyI P d id] [hE : TyI P e ie] (hs : is.desc = .slice e) (he : ie.desc = .int .u8) (hd : id.desc = .string) {x : Operand} {b o n c : Nat} {xs : List Int}
    (hx : evo env x = some (.slice (some ⟨b, o, none⟩) n c)) (hl : xs.length = n) (hv : At hp G b o (xs.map (Value.int .u8))) : LoadOp P Γ ⟨env, hp, G⟩ (.convert s d x) ty b (.string (strOfNums xs)) := by
  refine ⟨fun a w hst => ?_⟩
  obtain ⟨full, e', f, hb, hf⟩ := hv.read hst
  refine ⟨lt_of_some hb, fun w' hw' d' pos af gd => ?_⟩
  have hus := hS.und
  rw [hs] at hus
  have hue := hE.und
  rw [he] at hue
  have hud := hD.und
  rw [hd] at hud
  have hc := run_convert_bytes_arg (P := P) w' s e hus hue b o n c xs hl (fun i hi => by
    have := hf i (.int .u8 (xs.getD i 0)) (by simp [List.getD, List.getElem?_eq_getElem (show i < xs.length by omega)])
    simp [World.cell?, hw', hb, this]) d hud
  have hx' : a.eval x = _ := hst.evo hx
  simp only [execOp, hx', Sem.run_bind]
  rw [hc]
  rfl
theorem pure_rem_nat {x y : Operand} {t t' : TypeId} {m n : Nat} (hx : evo env x = some (.int .i64 (m : Int))) (hy : evo env y = some (.int .i64 (n : Int))) (hn : 0 < n) :
    PureOp P Γ ⟨env, hp, G⟩ (.binOp .rem t x y t') ty (.int .i64 ((m % n : Nat) : Int)) := by
  have h := pure_rem (P := P) (Γ := Γ) (hp := hp) (G := G) (ty := ty) (t := t) (t' := t') hx hy (by omega)
  rwa [show ((m : Int).tmod n) = ((m % n : Nat) : Int) from rfl] at h
theorem pure_quo_nat {x y : Operand} {t t' : TypeId} {m n : Nat} (hx : evo env x = some (.int .i64 (m : Int))) (hy : evo env y = some (.int .i64 (n : Int))) (hn : 0 < n) (hm : m ≤ 9223372036854775807) :
    PureOp P Γ ⟨env, hp, G⟩ (.binOp .quo t x y t') ty (.int .i64 ((m / n : Nat) : Int)) := by
  have hd : m / n ≤ m := Nat.div_le_self _ _
  have e : ((m : Int).tdiv n) = ((m / n : Nat) : Int) := rfl
  have h := pure_quo (P := P) (Γ := Γ) (hp := hp) (G := G) (ty := ty) (t := t) (t' := t') hx hy (by omega) (by rw [e]; generalize m / n = q at *; omega) (by rw [e]; generalize m / n = q at *; omega)
  rwa [e] at h
end clawss
/-- The last digit's letter. -/
def dgi (k : Nat) : Int := 48 + ((k % 10 : Nat) : Int)
/-- The digits of a number ahead of a text. -/
def mDigs : Nat → Nat → ByteArray → ByteArray
  | 0, _, out => out
  | f + 1, k, out => if 0 < k then mDigs f (k / 10) (strOfNums [dgi k] ++ out) else out
theorem mDigs_go {f k : Nat} {out : ByteArray} (h : 0 < k) : mDigs (f + 1) k out = mDigs f (k / 10) (strOfNums [dgi k] ++ out) := by rw [mDigs, if_pos h]
theorem mDigs_end {f k : Nat} {out : ByteArray} (h : ¬ 0 < k) : mDigs f k out = out := by
  cases f with
  | zero => rfl
  | succ f => rw [mDigs, if_neg h]
def mText (k : Nat) : ByteArray := ⟨#[109]⟩ ++ mDigs 20 k ⟨⟨[]⟩⟩
theorem digs_step {f k : Nat} {out : ByteArray} (hk : k < 10 ^ f) (hs : out.size + f = 20) (h0 : 0 < k) : ∃ f', f = f' + 1 ∧ k / 10 < 10 ^ f' ∧ (strOfNums [dgi k] ++ out).size + f' = 20 := by
  cases f with
  | zero => simp at hk; omega
  | succ f =>
    refine ⟨f, rfl, ?_, ?_⟩
    · rw [Nat.pow_succ] at hk
      exact Nat.div_lt_of_lt_mul (by omega)
    · rw [ByteArray.size_append, strOfNums_size]
      simp; omega
theorem t20 (k : Nat) (h : k < 1000000000000000000) : k < 10 ^ 20 := by
  have : (10 : Nat) ^ 20 = 100000000000000000000 := by decide
  omega
set_option maxRecDepth 100000 in
theorem markText_fn (k : Nat) (h0 : 0 < k) (hk : k < 1000000000000000000) (G : IM) : Fn Try.prog 85 [.int .i64 (k : Int)] [] G (Val (.string (mText k)) G) := by
  have h20 := t20 k hk
  refine fn_enter Try.func85 rfl Try.ntmps85 Try.results85 rfl ?_
  intro w0
  refine tri_seq ?_
  refine tri_region ?_
  refine seq_pure (pure_assign rfl) rfl rfl ?_
  refine seq_done ?_
  refine nrm_seq ?_
  refine tri_seq ?_
  refine tri_seq ?_
  refine tri_region ?_
  refine seq_pure (pure_move rfl) rfl rfl ?_
  refine seq_pure (pure_leq_f rfl rfl (by omega)) rfl rfl ?_
  refine seq_done ?_
  refine nrm_seq ?_
  refine tri_cond_f rfl ?_
  refine tri_skip ?_
  refine nrm_seq ?_
  refine tri_seq ?_
  refine tri_region ?_
  refine seq_pure (pure_assign rfl) rfl rfl ?_
  refine seq_done ?_
  refine nrm_seq ?_
  refine tri_seq ?_
  refine tri_block ?_
  refine tri_loopN (fun (x : Nat × Nat × ByteArray) => ⟨[(0, .int .i64 (x.2.1 : Int)), (3, .string x.2.2)], [], G⟩) (fun x => x.2.1 < 1000000000000000000 ∧ x.2.1 < 10 ^ x.1 ∧ x.2.2.size + x.1 = 20 ∧ mDigs x.1 x.2.1 x.2.2 = mDigs 20 k ⟨⟨[]⟩⟩) (fun x => x.1) (20, k, ⟨⟨[]⟩⟩) ?_ ?_ ?_
  · (simp only [flat_snoc]; exact sub_mk (by repeat (first | exact SubE.nil | refine SubE.cons rfl ?_)) (by repeat (first | exact SubH.refl | exact SubH.nil | refine SubH.cons (by repeat (first | exact Pk.here | apply Pk.there)) ?_ | apply SubH.drop)))
  · exact ⟨hk, h20, rfl, rfl⟩
  · (rintro ⟨f, j, out⟩ ⟨hj, hjf, hsz, hd⟩; simp only [] at hj hjf hsz hd ⊢)
    refine tri_seq ?_
    refine tri_seq ?_
    refine tri_region ?_
    refine seq_pure (pure_move rfl) rfl rfl ?_
    refine seq_bool (pure_gtr rfl rfl) rfl rfl (fun h31 => ?_) (fun h31 => ?_)
    · refine seq_done ?_
      refine nrm_seq ?_
      refine tri_cond_t rfl ?_
      refine tri_skip ?_
      refine nrm_seq ?_
      refine tri_block ?_
      refine tri_seq ?_
      refine tri_region ?_
      refine seq_pure (pure_move rfl) rfl rfl ?_
      refine seq_pure (pure_rem_nat (n := 10) rfl rfl (by omega)) rfl rfl ?_
      refine seq_pure (pure_add rfl rfl (by omega) (by omega)) rfl rfl ?_
      refine seq_pure (pure_conv_u8 rfl rfl rfl (by omega) (by omega)) rfl rfl ?_
      (refine seq_step (step_buildSlice rfl rfl rfl (by omega) (by unfold maxLen; omega) rfl) rfl ?_; rintro _ ⟨b44, rfl⟩)
      refine seq_load (load_conv_str (xs := [dgi j]) rfl rfl rfl rfl rfl (at_slc_all (by repeat (first | exact List.Mem.head _ | apply List.Mem.tail)))) rfl rfl ?_
      refine seq_pure (pure_move rfl) rfl rfl ?_
      (obtain ⟨f', rfl, hf1, hf2⟩ := digs_step hjf hsz (by omega); have hf3 := hf2; rw [ByteArray.size_append] at hf3; refine seq_pure (pure_cat rfl rfl (by omega)) rfl rfl ?_)
      refine seq_pure (pure_assign rfl) rfl rfl ?_
      refine seq_done ?_
      refine nrm_seq ?_
      refine tri_region ?_
      refine seq_pure (pure_move rfl) rfl rfl ?_
      refine seq_pure (pure_quo_nat (n := 10) rfl rfl (by omega) (by omega)) rfl rfl ?_
      refine seq_pure (pure_assign rfl) rfl rfl ?_
      refine seq_done ?_
      refine nrm_block ?_
      refine nrm_loopN (f', j / 10, strOfNums [dgi j] ++ out) ?_ ?_ ?_
      · (simp only [flat_snoc]; exact sub_mk (by repeat (first | exact SubE.nil | refine SubE.cons rfl ?_)) (by repeat (first | exact SubH.refl | exact SubH.nil | refine SubH.cons (by repeat (first | exact Pk.here | apply Pk.there)) ?_ | apply SubH.drop)))
      · (dsimp only; exact ⟨by omega, hf1, hf2, by rw [← hd, mDigs_go (by omega)]⟩)
      · exact Nat.lt_succ_self _
    · refine seq_done ?_
      refine nrm_seq ?_
      refine tri_cond_f rfl ?_
      refine tri_exit ?_
      refine ext_seq ?_
      refine ext_loopN ?_
      refine ext_block_eq ?_
      refine nrm_seq ?_
      refine tri_seq ?_
      refine tri_region ?_
      refine seq_pure (pure_move rfl) rfl rfl ?_
      refine seq_pure (pure_cat rfl rfl (by have : (⟨#[109]⟩ : ByteArray).size = 1 := rfl; omega)) rfl rfl ?_
      refine seq_pure (pure_assign rfl) rfl rfl ?_
      refine seq_done ?_
      refine nrm_seq ?_
      refine tri_ret ?_
      refine ret_fin1 (res_tmp rfl) ?_
      exact ⟨rfl, by rw [mText, ← hd, mDigs_end (by omega)], rfl⟩
end Gw
end Go.Proofs.Ytlefgfdhlblahaa
namespace Go.Proofs.Ytlefgfdhlblahaa
open Go Go.RowKit
namespace Gw
def ints (l : List Int) : List Value := l.map (Value.int .i64 ·)
theorem ints_len (l : List Int) : (ints l).length = l.length := by simp [ints]
theorem ints_snoc (l : List Int) (i : Int) : ints (l ++ [i]) = ints l ++ [.int .i64 i] := by simp [ints]
theorem ints_one (l : List Int) : ∀ u ∈ ints l, u.oneCell' = true := by
  intro u hu
  obtain ⟨x, _, rfl⟩ := List.mem_map.1 hu
  rfl
mutual
def tmCount : Tm → Nat
  | .mk _ _ _ _ _ _ ks => tmCountL ks + 1
def tmCountL : List Tm → Nat
  | [] => 0
  | t :: ts => tmCount t + tmCountL ts
end
mutual
/-- The paths of all nodes, from a node's own path on. -/
def mPaths : Tm → List Int → List (List Int)
  | .mk _ _ _ _ _ _ ks, path => path :: mPathsL ks 0 path
def mPathsL : List Tm → Nat → List Int → List (List Int)
  | [], _, _ => []
  | t :: ts, i, path => mPaths t (path ++ [(i : Int)]) ++ mPathsL ts (i + 1) path
end
mutual
theorem mPaths_len : ∀ (t : Tm) (path : List Int), (mPaths t path).length = tmCount t
  | .mk _ _ _ _ _ _ ks, path => by rw [mPaths, tmCount, List.length_cons, mPathsL_len ks 0 path]
theorem mPathsL_len : ∀ (ts : List Tm) (i : Nat) (path : List Int), (mPathsL ts i path).length = tmCountL ts
  | [], i, path => by rw [mPathsL, tmCountL]; rfl
  | t :: ts, i, path => by rw [mPathsL, tmCountL, List.length_append, mPaths_len t, mPathsL_len ts]
end
theorem mPathsL_snoc : ∀ (ts : List Tm) (t : Tm) (i : Nat) (path : List Int), mPathsL (ts ++ [t]) i path = mPathsL ts i path ++ mPaths t (path ++ [((i + ts.length : Nat) : Int)])
  | [], t, i, path => by simp [mPathsL]
  | t' :: ts, t, i, path => by
    rw [List.cons_append, mPathsL, mPathsL, mPathsL_snoc ts t (i + 1) path, List.append_assoc, List.length_cons, Nat.add_right_comm i 1, Nat.add_assoc i]
theorem mPathsL_take {ks : List Tm} {i : Nat} (hi : i < ks.length) (path : List Int) : mPathsL (ks.take (i + 1)) 0 path = mPathsL (ks.take i) 0 path ++ mPaths ks[i] (path ++ [(i : Int)]) := by
  rw [List.take_succ_eq_append_getElem hi, mPathsL_snoc, List.length_take, Nat.zero_add, Nat.min_eq_left (by omega)]
theorem tmCount_mem : ∀ {ks : List Tm} {t : Tm}, t ∈ ks → tmCount t ≤ tmCountL ks
  | [], t, h => by simp at h
  | t' :: ts, t, h => by
    rw [tmCountL]
    rcases List.mem_cons.1 h with rfl | h
    · omega
    · have := tmCount_mem h; omega
theorem tmCountL_append : ∀ (a b : List Tm), tmCountL (a ++ b) = tmCountL a + tmCountL b
  | [], b => by simp [tmCountL]
  | t :: a, b => by rw [List.cons_append, tmCountL, tmCountL, tmCountL_append a b]; omega
theorem tmCountL_take {ks : List Tm} {i : Nat} (hi : i < ks.length) : tmCountL (ks.take i) + tmCount ks[i] ≤ tmCountL ks := by
  have h := tmCountL_append (ks.take (i + 1)) (ks.drop (i + 1))
  rw [List.take_append_drop, List.take_succ_eq_append_getElem hi, tmCountL_append] at h
  simp only [tmCountL] at h
  omega
theorem tmCountL_succ {ks : List Tm} {i : Nat} (hi : i < ks.length) : tmCountL (ks.take (i + 1)) = tmCountL (ks.take i) + tmCount ks[i] := by
  rw [List.take_succ_eq_append_getElem hi, tmCountL_append]
  simp only [tmCountL]; omega
theorem tmCount_pos (t : Tm) : 0 < tmCount t := by cases t; rw [tmCount]; omega
theorem len_le_count : ∀ (ks : List Tm), ks.length ≤ tmCountL ks
  | [] => by simp
  | .mk _ _ _ _ _ _ _ :: ts => by have := len_le_count ts; simp only [List.length_cons, tmCountL, tmCount]; omega

theorem Sl.nn {G : IM} {p : Option Addr} {n c sz : Nat} {cs : List Value} (h : Sl G p n c sz cs) : p = none → n = 0 := by
  rintro rfl
  rcases h.2.2.2 with h | ⟨b, o, full, h, _⟩
  · exact h
  · cases h
/-- Fresh paths: each in memory of its own. -/
def SPs (G : IM) : List (List Int) → List Value → List Nat → Prop
  | [], es, F => es = [] ∧ F = []
  | l :: ls, es, F => ∃ p c r Fr, es = .slice p l.length c :: r ∧ F = vfp p ++ Fr ∧ Sl G p l.length c 1 (ints l) ∧ (∀ b ∈ vfp p, G b ≠ none) ∧ (p = none → l.length = 0) ∧ SPs G ls r Fr
theorem SPs.mono {G G' : IM} (hg : IMle G G') : ∀ {ls : List (List Int)} {es : List Value} {F : List Nat}, SPs G ls es F → SPs G' ls es F
  | [], es, F, h => h
  | l :: ls, es, F, ⟨p, c, r, Fr, h1, h2, h3, h4, h5, h6⟩ => ⟨p, c, r, Fr, h1, h2, h3.mono hg, fun b hb => by
      cases hx : G b with
      | none => exact absurd hx (h4 b hb)
      | some l => rw [hg b l hx]; simp, h5, h6.mono hg⟩
theorem SPs.inG {G : IM} : ∀ {ls : List (List Int)} {es : List Value} {F : List Nat}, SPs G ls es F → ∀ b ∈ F, G b ≠ none
  | [], es, F, ⟨_, h⟩, b, hb => by rw [h] at hb; cases hb
  | l :: ls, es, F, ⟨p, c, r, Fr, h1, h2, h3, h4, h5, h6⟩, b, hb => by
    rw [h2] at hb
    rcases List.mem_append.1 hb with hb | hb
    · exact h4 b hb
    · exact h6.inG b hb
theorem SPs.len {G : IM} : ∀ {ls : List (List Int)} {es : List Value} {F : List Nat}, SPs G ls es F → es.length = ls.length
  | [], es, F, ⟨h, _⟩ => by rw [h]; rfl
  | l :: ls, es, F, ⟨p, c, r, Fr, h1, h2, h3, h4, h5, h6⟩ => by rw [h1, List.length_cons, h6.len, List.length_cons]
theorem SPs.one {G : IM} : ∀ {ls : List (List Int)} {es : List Value} {F : List Nat}, SPs G ls es F → ∀ u ∈ es, u.oneCell' = true
  | [], es, F, ⟨h, _⟩, u, hu => by rw [h] at hu; cases hu
  | l :: ls, es, F, ⟨p, c, r, Fr, h1, h2, h3, h4, h5, h6⟩, u, hu => by
    rw [h1] at hu
    rcases List.mem_cons.1 hu with rfl | hu
    · rfl
    · exact h6.one u hu
theorem SPs.append {G : IM} : ∀ {ls ls' : List (List Int)} {es es' : List Value} {F F' : List Nat}, SPs G ls es F → SPs G ls' es' F' → SPs G (ls ++ ls') (es ++ es') (F ++ F')
  | [], ls', es, es', F, F', ⟨h, h2⟩, h' => by rw [h, h2]; exact h'
  | l :: ls, ls', es, es', F, F', ⟨p, c, r, Fr, h1, h2, h3, h4, h5, h6⟩, h' => ⟨p, c, r ++ es', Fr ++ F', by rw [h1]; rfl, by rw [h2, List.append_assoc], h3, h4, h5, h6.append h'⟩
theorem dif_disj {G Gi G1 : IM} {F F' : List Nat} (h : ∀ b ∈ F, Dif Gi G b ≠ none) (h' : ∀ b ∈ F', Dif G1 Gi b ≠ none) (hn : F.Nodup) (hn' : F'.Nodup) : (F ++ F').Nodup := by
  rw [List.nodup_append]
  refine ⟨hn, hn', ?_⟩
  rintro x hx y hy rfl
  have h1 := h x hx
  have h2 := Dif.out (h' x hy)
  apply h1
  cases hd : Dif Gi G x with
  | none => rfl
  | some l => rw [Dif.le _ _ x l hd] at h2; cases h2
theorem dif_in {G Gi G2 : IM} {b : Nat} (hle : IMle G Gi) (h : Gi b = none ∧ G2 b ≠ none) : Dif G2 G b ≠ none := by
  cases hg : G b with
  | none => simpa [Dif, hg] using h.2
  | some l => rw [hle b l hg] at h; exact absurd h.1 (by simp)
/-- A call's paths come to the ones so far. -/
theorem SPs.step {G Gi Gf G1 : IM} {ls ls' : List (List Int)} {es es' : List Value} {F F' : List Nat} (h : SPs (Dif Gi G) ls es F) (hn : F.Nodup) (hle : IMle G Gi) (hlef : IMle Gi Gf) (hle1 : IMle Gf G1)
    (h' : SPs (Dif G1 Gf) ls' es' F') (hn' : F'.Nodup) : SPs (Dif G1 G) (ls ++ ls') (es ++ es') (F ++ F') ∧ (F ++ F').Nodup :=
  ⟨(h.mono (Dif.mono (hlef.trans hle1))).append (h'.mono (Dif.anti (hle.trans hlef))), dif_disj h.inG (h'.mono (Dif.anti hlef)).inG hn hn'⟩
theorem SPs.first {G G2 : IM} {l : List Int} {p : Option Addr} {c : Nat} (hsl : Sl G2 p l.length c 1 (ints l)) (hno : ∀ b ∈ vfp p, G b = none ∧ G2 b ≠ none) (hp : p = none → l.length = 0) (hle : IMle G G2) :
    SPs (Dif G2 G) [l] [.slice p l.length c] (vfp p) ∧ (vfp p).Nodup := by
  refine ⟨⟨p, c, [], [], rfl, by simp, hsl.dif (fun b hb => (hno b hb).1) (IMle.refl _), fun b hb => dif_in (IMle.refl _) (hno b hb), hp, rfl, rfl⟩, by cases p <;> simp [vfp]⟩
/-- What AllPaths hands back: the outer list and each path in memory of its own. -/
def RPs (G : IM) (ls : List (List Int)) (p : Option Addr) (c : Nat) : Prop := ∃ es F, Sl G p ls.length c 1 es ∧ (∀ b ∈ vfp p, G b ≠ none) ∧ SPs G ls es F ∧ (vfp p ++ F).Nodup
theorem RPs.fin {G Gi G2 : IM} {ls : List (List Int)} {es : List Value} {F : List Nat} {p : Option Addr} {c m : Nat} (h : SPs (Dif Gi G) ls es F) (hn : F.Nodup) (hle : IMle G Gi) (hle2 : IMle Gi G2)
    (hsl : Sl G2 p m c 1 es) (hm : m = ls.length) (hno : ∀ b ∈ vfp p, Gi b = none ∧ G2 b ≠ none) : RPs (Dif G2 G) ls p c := by
  subst hm
  refine ⟨es, F, hsl.dif (fun b hb => (hno b hb).1) hle, fun b hb => dif_in hle (hno b hb), h.mono (Dif.mono hle2), ?_⟩
  rw [List.nodup_append]
  refine ⟨by cases p <;> simp [vfp], hn, ?_⟩
  rintro x hx y hy rfl
  have h1 := h.inG x hy
  have h2 := (hno x hx).1
  apply h1
  cases hd : Dif Gi G x with
  | none => rfl
  | some l => rw [Dif.le _ _ x l hd] at h2; cases h2
mutual
theorem mScan_count (M D N : Int) : ∀ (t : Tm) (deep c : Int), (mScan M D N t deep c).1 = true → (mScan M D N t deep c).2 = c + tmCount t
  | .mk k nm num ty fr lb ks, deep, c, h => by
    rw [mScan] at h ⊢
    split at h
    · cases h
    · rename_i hc
      rw [if_neg hc, mScanL_count M D N ks (deep + 1) (c + 1) h, tmCount]
      omega
theorem mScanL_count (M D N : Int) : ∀ (ts : List Tm) (deep c : Int), (mScanL M D N ts deep c).1 = true → (mScanL M D N ts deep c).2 = c + tmCountL ts
  | [], deep, c, h => by rw [mScanL, tmCountL]; simp
  | t :: ts, deep, c, h => by
    rw [mScanL] at h ⊢
    split at h
    · rename_i h1
      rw [if_pos h1, mScanL_count M D N ts deep _ h, mScan_count M D N t deep c h1, tmCountL]
      omega
    · cases h
end
theorem castValid_count {t : Tm} (h : castValid t = true) : tmCount t ≤ 200 := by
  have h1 := mScan_count 200 40 13 t 1 0 h
  have h2 := (mScan_le 200 40 13 t 1 0 (by omega) (by omega)).2.2 h
  omega
/-- AllPaths in plain words. -/
def mAll (t : Tm) : List (List Int) := if castValid t = true then mPaths t [] else []
theorem RPs.nil (G : IM) : RPs G [] none 0 := ⟨[], [], Sl.nil G 1, by simp [vfp], ⟨rfl, rfl⟩, by simp [vfp]⟩
end Gw
end Go.Proofs.Ytlefgfdhlblahaa
