/- Types of scripts. -/
import Derived.Test.YtpfmoolpeecobaaE16
import Derived.Test.YtpfmoolpeecobaaBase
namespace Go.Proofs.Ytpfmoolpeecobaa
open Go Go.Proofs Go.Proofs.Ytpfmoolpeecobaa.Ev
set_option linter.unusedVariables false
set_option linter.unusedSimpArgs false
set_option maxRecDepth 100000
theorem pz94 : zeroV Try.prog 94 = some (.agg [.nilf, .nilf]) := by kernel_rfl
theorem ps94 : sizeT Try.prog 94 = some 2 := by kernel_rfl
theorem pa94 : isAggT Try.prog 94 = some true := by kernel_rfl
theorem pz81 : zeroV Try.prog 81 = some (.agg [.int .i64 0, .int .i64 0, .int .i64 0, .int .i64 0]) := by kernel_rfl
theorem ps81 : sizeT Try.prog 81 = some 4 := by kernel_rfl
theorem pa81 : isAggT Try.prog 81 = some true := by kernel_rfl
theorem pz83 : zeroV Try.prog 83 = some (.agg [.int .u8 0, .bool false, .int .i64 0, .int .i64 0, .int .i64 0, .int .i64 0]) := by kernel_rfl
theorem ps83 : sizeT Try.prog 83 = some 6 := by kernel_rfl
theorem pa83 : isAggT Try.prog 83 = some true := by kernel_rfl
theorem pz52 : zeroV Try.prog 52 = some (.agg [.int .u8 0, .int .u8 0, .int .u8 0, .int .u8 0, .int .u8 0]) := by kernel_rfl
theorem ps52 : sizeT Try.prog 52 = some 5 := by kernel_rfl
theorem pa52 : isAggT Try.prog 52 = some true := by kernel_rfl
theorem pz86 : zeroV Try.prog 86 = some (.agg [.int .i64 0, .int .i64 0, .str [], .int .u8 0, .int .i64 0, .int .i64 0, .int .i64 0, .int .i64 0, .int .i64 0]) := by kernel_rfl
theorem ps86 : sizeT Try.prog 86 = some 9 := by kernel_rfl
theorem pa86 : isAggT Try.prog 86 = some true := by kernel_rfl
theorem pz54 : zeroV Try.prog 54 = some (.agg [.int .i64 0, .int .i64 0, .nils, .int .u8 0, .int .u8 0, .int .u8 0, .int .u8 0, .int .u8 0, .int .i64 0]) := by kernel_rfl
theorem ps54 : sizeT Try.prog 54 = some 9 := by kernel_rfl
theorem pa54 : isAggT Try.prog 54 = some true := by kernel_rfl
theorem pz57 : zeroV Try.prog 57 = some (.agg [.int .i64 0, .int .i64 0, .nils, .int .u8 0, .int .u8 0, .int .u8 0, .int .u8 0, .int .u8 0, .int .i64 0, .nils]) := by kernel_rfl
theorem ps57 : sizeT Try.prog 57 = some 10 := by kernel_rfl
theorem pa57 : isAggT Try.prog 57 = some true := by kernel_rfl
theorem pz38 : zeroV Try.prog 38 = some (.nils) := by kernel_rfl
theorem ps38 : sizeT Try.prog 38 = some 1 := by kernel_rfl
theorem pa38 : isAggT Try.prog 38 = some false := by kernel_rfl
theorem pz50 : zeroV Try.prog 50 = some (.nils) := by kernel_rfl
theorem ps50 : sizeT Try.prog 50 = some 1 := by kernel_rfl
theorem pa50 : isAggT Try.prog 50 = some false := by kernel_rfl
theorem pz55 : zeroV Try.prog 55 = some (.nils) := by kernel_rfl
theorem ps55 : sizeT Try.prog 55 = some 1 := by kernel_rfl
theorem pa55 : isAggT Try.prog 55 = some false := by kernel_rfl
theorem pz79 : zeroV Try.prog 79 = some (.nils) := by kernel_rfl
theorem ps79 : sizeT Try.prog 79 = some 1 := by kernel_rfl
theorem pa79 : isAggT Try.prog 79 = some false := by kernel_rfl
theorem pz31 : zeroV Try.prog 31 = some (.nilf) := by kernel_rfl
theorem ps31 : sizeT Try.prog 31 = some 1 := by kernel_rfl
theorem pa31 : isAggT Try.prog 31 = some false := by kernel_rfl
theorem pz3 : zeroV Try.prog 3 = some (.int .i64 0) := by kernel_rfl
theorem ps3 : sizeT Try.prog 3 = some 1 := by kernel_rfl
theorem pa3 : isAggT Try.prog 3 = some false := by kernel_rfl
theorem pz51 : zeroV Try.prog 51 = some (.int .u8 0) := by kernel_rfl
theorem ps51 : sizeT Try.prog 51 = some 1 := by kernel_rfl
theorem pa51 : isAggT Try.prog 51 = some false := by kernel_rfl
theorem pz5 : zeroV Try.prog 5 = some (.int .u8 0) := by kernel_rfl
theorem ps5 : sizeT Try.prog 5 = some 1 := by kernel_rfl
theorem pa5 : isAggT Try.prog 5 = some false := by kernel_rfl
theorem pz4 : zeroV Try.prog 4 = some (.bool false) := by kernel_rfl
theorem ps4 : sizeT Try.prog 4 = some 1 := by kernel_rfl
theorem pa4 : isAggT Try.prog 4 = some false := by kernel_rfl
theorem pz9 : zeroV Try.prog 9 = some (.str []) := by kernel_rfl
theorem ps9 : sizeT Try.prog 9 = some 1 := by kernel_rfl
theorem pa9 : isAggT Try.prog 9 = some false := by kernel_rfl
theorem pt38 : tySlice Try.prog 38 = some 5 := by kernel_rfl
theorem pi38 : tyInt Try.prog 38 = none := by kernel_rfl
theorem pt50 : tySlice Try.prog 50 = some 83 := by kernel_rfl
theorem pi50 : tyInt Try.prog 50 = none := by kernel_rfl
theorem pt55 : tySlice Try.prog 55 = some 86 := by kernel_rfl
theorem pi55 : tyInt Try.prog 55 = none := by kernel_rfl
theorem pt79 : tySlice Try.prog 79 = some 81 := by kernel_rfl
theorem pi79 : tyInt Try.prog 79 = none := by kernel_rfl
theorem pt3 : tySlice Try.prog 3 = none := by kernel_rfl
theorem pt5 : tySlice Try.prog 5 = none := by kernel_rfl
theorem pt9 : tySlice Try.prog 9 = none := by kernel_rfl
theorem pt31 : tySlice Try.prog 31 = none := by kernel_rfl
theorem pt51 : tySlice Try.prog 51 = none := by kernel_rfl
theorem pt94 : tySlice Try.prog 94 = none := by kernel_rfl
theorem par52 : tyArray Try.prog 52 = some (5, 51) := by kernel_rfl
theorem pstr9 : tyStr Try.prog 9 = true := by kernel_rfl
theorem pst94 : tyStruct Try.prog 94 = some #[{ name := "next", type := 31, offset := 0, embedded := false, tag := "", pkgPath := "marquee/script", byteOffset := 0 }, { name := "left", type := 31, offset := 1, embedded := false, tag := "", pkgPath := "marquee/script", byteOffset := 8 }] := by kernel_rfl
theorem pst54 : tyStruct Try.prog 54 = some #[{ name := "Rows", type := 3, offset := 0, embedded := false, tag := "", pkgPath := "", byteOffset := 0 }, { name := "Cols", type := 3, offset := 1, embedded := false, tag := "", pkgPath := "", byteOffset := 8 }, { name := "Sources", type := 50, offset := 2, embedded := false, tag := "", pkgPath := "", byteOffset := 16 }, { name := "Regs", type := 52, offset := 3, embedded := false, tag := "", pkgPath := "", byteOffset := 40 }, { name := "Ring", type := 3, offset := 8, embedded := false, tag := "", pkgPath := "", byteOffset := 48 }] := by kernel_rfl
theorem pst83 : tyStruct Try.prog 83 = some #[{ name := "Level", type := 51, offset := 0, embedded := false, tag := "", pkgPath := "", byteOffset := 0 }, { name := "Trusted", type := 4, offset := 1, embedded := false, tag := "", pkgPath := "", byteOffset := 1 }, { name := "Pane", type := 81, offset := 2, embedded := false, tag := "", pkgPath := "", byteOffset := 8 }] := by kernel_rfl
theorem pst86 : tyStruct Try.prog 86 = some #[{ name := "Kind", type := 3, offset := 0, embedded := false, tag := "", pkgPath := "", byteOffset := 0 }, { name := "Source", type := 3, offset := 1, embedded := false, tag := "", pkgPath := "", byteOffset := 8 }, { name := "Bytes", type := 9, offset := 2, embedded := false, tag := "", pkgPath := "", byteOffset := 16 }, { name := "Level", type := 51, offset := 3, embedded := false, tag := "", pkgPath := "", byteOffset := 32 }, { name := "Rect", type := 81, offset := 4, embedded := false, tag := "", pkgPath := "", byteOffset := 40 }, { name := "What", type := 3, offset := 8, embedded := false, tag := "", pkgPath := "", byteOffset := 72 }] := by kernel_rfl
theorem pst57 : tyStruct Try.prog 57 = some #[{ name := "Setup", type := 54, offset := 0, embedded := false, tag := "", pkgPath := "", byteOffset := 0 }, { name := "Events", type := 55, offset := 9, embedded := false, tag := "", pkgPath := "", byteOffset := 56 }] := by kernel_rfl
theorem pst81 : tyStruct Try.prog 81 = some #[{ name := "Top", type := 3, offset := 0, embedded := false, tag := "", pkgPath := "", byteOffset := 0 }, { name := "Left", type := 3, offset := 1, embedded := false, tag := "", pkgPath := "", byteOffset := 8 }, { name := "Rows", type := 3, offset := 2, embedded := false, tag := "", pkgPath := "", byteOffset := 16 }, { name := "Cols", type := 3, offset := 3, embedded := false, tag := "", pkgPath := "", byteOffset := 24 }] := by kernel_rfl
theorem pb5 : bytesT Try.prog 5 = some 1 := by kernel_rfl
theorem pu3 : Try.prog.underlying 3 = some (.int .i64) := by kernel_rfl
theorem pu4 : Try.prog.underlying 4 = some .bool := by kernel_rfl
theorem b_83 : bytesT Try.prog 83 = some 40 := by kernel_rfl
theorem b_86 : bytesT Try.prog 86 = some 80 := by kernel_rfl
theorem b_81 : bytesT Try.prog 81 = some 32 := by kernel_rfl
end Go.Proofs.Ytpfmoolpeecobaa
