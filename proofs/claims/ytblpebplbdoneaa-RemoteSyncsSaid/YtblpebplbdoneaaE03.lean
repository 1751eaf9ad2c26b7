/- Tools and contracts under the laws of this seat: DevTy to DvE1. -/
import Derived.Test.YtblpebplbdoneaaE02
import Derived.Test.YtblpebplbdoneaaProg
import Derived.KernelRfl
import Derived.Laws.Strings
import Derived.WideShapes
import Derived.Shelf.Sort.Plain
import Derived.Shelf.Slices.In.SortNone
set_option linter.unusedVariables false
set_option linter.unusedSimpArgs false
namespace Go.Ev.Ty
open Go.Proofs
theorem sz3 : sizeT Try.prog 3 = some 1 := by kernel_rfl
theorem ag3 : aggT Try.prog 3 = some false := by kernel_rfl
theorem zr3 : zeroT Try.prog 3 = some [.i .i64 0] := by kernel_rfl
theorem zo3 : zero1T Try.prog 3 = some (.i .i64 0) := by kernel_rfl
theorem zd3 : zD Try.prog 3 = .i .i64 0 := by kernel_rfl
theorem by3 : bytesT Try.prog 3 = some 8 := by kernel_rfl
theorem sl3 : isSliceT Try.prog 3 = false := by kernel_rfl
theorem st3 : isStrT Try.prog 3 = false := by kernel_rfl
theorem bo3 : isBoolT Try.prog 3 = false := by kernel_rfl
theorem pt3 : isPtrT Try.prog 3 = false := by kernel_rfl
theorem sz4 : sizeT Try.prog 4 = some 1 := by kernel_rfl
theorem ag4 : aggT Try.prog 4 = some false := by kernel_rfl
theorem zr4 : zeroT Try.prog 4 = some [.b false] := by kernel_rfl
theorem zo4 : zero1T Try.prog 4 = some (.b false) := by kernel_rfl
theorem zd4 : zD Try.prog 4 = .b false := by kernel_rfl
theorem by4 : bytesT Try.prog 4 = some 1 := by kernel_rfl
theorem sl4 : isSliceT Try.prog 4 = false := by kernel_rfl
theorem st4 : isStrT Try.prog 4 = false := by kernel_rfl
theorem bo4 : isBoolT Try.prog 4 = true := by kernel_rfl
theorem pt4 : isPtrT Try.prog 4 = false := by kernel_rfl
theorem sz5 : sizeT Try.prog 5 = some 1 := by kernel_rfl
theorem ag5 : aggT Try.prog 5 = some false := by kernel_rfl
theorem zr5 : zeroT Try.prog 5 = some [.i .u8 0] := by kernel_rfl
theorem zo5 : zero1T Try.prog 5 = some (.i .u8 0) := by kernel_rfl
theorem zd5 : zD Try.prog 5 = .i .u8 0 := by kernel_rfl
theorem by5 : bytesT Try.prog 5 = some 1 := by kernel_rfl
theorem sl5 : isSliceT Try.prog 5 = false := by kernel_rfl
theorem st5 : isStrT Try.prog 5 = false := by kernel_rfl
theorem bo5 : isBoolT Try.prog 5 = false := by kernel_rfl
theorem pt5 : isPtrT Try.prog 5 = false := by kernel_rfl
theorem sz9 : sizeT Try.prog 9 = some 1 := by kernel_rfl
theorem ag9 : aggT Try.prog 9 = some false := by kernel_rfl
theorem zr9 : zeroT Try.prog 9 = some [.s ⟨#[]⟩] := by kernel_rfl
theorem zo9 : zero1T Try.prog 9 = some (.s ⟨#[]⟩) := by kernel_rfl
theorem zd9 : zD Try.prog 9 = .s ⟨#[]⟩ := by kernel_rfl
theorem by9 : bytesT Try.prog 9 = some 16 := by kernel_rfl
theorem sl9 : isSliceT Try.prog 9 = false := by kernel_rfl
theorem un9 : Try.prog.underlying 9 = some .string := by kernel_rfl
theorem st9 : isStrT Try.prog 9 = true := by kernel_rfl
theorem bo9 : isBoolT Try.prog 9 = false := by kernel_rfl
theorem pt9 : isPtrT Try.prog 9 = false := by kernel_rfl
theorem sz22 : sizeT Try.prog 22 = some 1 := by kernel_rfl
theorem ag22 : aggT Try.prog 22 = some false := by kernel_rfl
theorem zr22 : zeroT Try.prog 22 = some [.nil] := by kernel_rfl
theorem zo22 : zero1T Try.prog 22 = some (.nil) := by kernel_rfl
theorem zd22 : zD Try.prog 22 = .nil := by kernel_rfl
theorem by22 : bytesT Try.prog 22 = some 24 := by kernel_rfl
theorem el22 : elemT Try.prog 22 = some 42 := by kernel_rfl
theorem sl22 : isSliceT Try.prog 22 = true := by kernel_rfl
theorem un22 : Try.prog.underlying 22 = some (.slice 42) := by kernel_rfl
theorem st22 : isStrT Try.prog 22 = false := by kernel_rfl
theorem bo22 : isBoolT Try.prog 22 = false := by kernel_rfl
theorem pt22 : isPtrT Try.prog 22 = false := by kernel_rfl
theorem sz23 : sizeT Try.prog 23 = some 1 := by kernel_rfl
theorem ag23 : aggT Try.prog 23 = some false := by kernel_rfl
theorem zr23 : zeroT Try.prog 23 = some [.nil] := by kernel_rfl
theorem zo23 : zero1T Try.prog 23 = some (.nil) := by kernel_rfl
theorem zd23 : zD Try.prog 23 = .nil := by kernel_rfl
theorem by23 : bytesT Try.prog 23 = some 24 := by kernel_rfl
theorem el23 : elemT Try.prog 23 = some 66 := by kernel_rfl
theorem sl23 : isSliceT Try.prog 23 = true := by kernel_rfl
theorem un23 : Try.prog.underlying 23 = some (.slice 66) := by kernel_rfl
theorem st23 : isStrT Try.prog 23 = false := by kernel_rfl
theorem bo23 : isBoolT Try.prog 23 = false := by kernel_rfl
theorem pt23 : isPtrT Try.prog 23 = false := by kernel_rfl
theorem sz25 : sizeT Try.prog 25 = some 6 := by kernel_rfl
theorem ag25 : aggT Try.prog 25 = some true := by kernel_rfl
theorem zr25 : zeroT Try.prog 25 = some [.b false, .nil, .nil, .i .i64 0, .i .i64 0, .nil] := by kernel_rfl
theorem zd25 : zD Try.prog 25 = .agg [.b false, .nil, .nil, .i .i64 0, .i .i64 0, .nil] := by kernel_rfl
theorem by25 : bytesT Try.prog 25 = some 96 := by kernel_rfl
theorem sl25 : isSliceT Try.prog 25 = false := by kernel_rfl
theorem st25 : isStrT Try.prog 25 = false := by kernel_rfl
theorem bo25 : isBoolT Try.prog 25 = false := by kernel_rfl
theorem pt25 : isPtrT Try.prog 25 = false := by kernel_rfl
theorem of25_0 : offT Try.prog 25 0 = some (0, 1) := by kernel_rfl
theorem fa25_0 : fieldT Try.prog 25 0 = some 4 := by kernel_rfl
theorem of25_1 : offT Try.prog 25 1 = some (1, 1) := by kernel_rfl
theorem fa25_1 : fieldT Try.prog 25 1 = some 22 := by kernel_rfl
theorem of25_2 : offT Try.prog 25 2 = some (2, 1) := by kernel_rfl
theorem fa25_2 : fieldT Try.prog 25 2 = some 22 := by kernel_rfl
theorem of25_3 : offT Try.prog 25 3 = some (3, 1) := by kernel_rfl
theorem fa25_3 : fieldT Try.prog 25 3 = some 3 := by kernel_rfl
theorem of25_4 : offT Try.prog 25 4 = some (4, 1) := by kernel_rfl
theorem fa25_4 : fieldT Try.prog 25 4 = some 3 := by kernel_rfl
theorem of25_5 : offT Try.prog 25 5 = some (5, 1) := by kernel_rfl
theorem fa25_5 : fieldT Try.prog 25 5 = some 23 := by kernel_rfl
theorem pl25 : placesT Try.prog 25 = some [(0, 1), (1, 1), (2, 1), (3, 1), (4, 1), (5, 1)] := by kernel_rfl
theorem sz26 : sizeT Try.prog 26 = some 1 := by kernel_rfl
theorem ag26 : aggT Try.prog 26 = some false := by kernel_rfl
theorem zr26 : zeroT Try.prog 26 = some [.nil] := by kernel_rfl
theorem zo26 : zero1T Try.prog 26 = some (.nil) := by kernel_rfl
theorem zd26 : zD Try.prog 26 = .nil := by kernel_rfl
theorem by26 : bytesT Try.prog 26 = some 24 := by kernel_rfl
theorem el26 : elemT Try.prog 26 = some 44 := by kernel_rfl
theorem sl26 : isSliceT Try.prog 26 = true := by kernel_rfl
theorem un26 : Try.prog.underlying 26 = some (.slice 44) := by kernel_rfl
theorem st26 : isStrT Try.prog 26 = false := by kernel_rfl
theorem bo26 : isBoolT Try.prog 26 = false := by kernel_rfl
theorem pt26 : isPtrT Try.prog 26 = false := by kernel_rfl
theorem sz30 : sizeT Try.prog 30 = some 1 := by kernel_rfl
theorem ag30 : aggT Try.prog 30 = some false := by kernel_rfl
theorem zr30 : zeroT Try.prog 30 = some [.i .i64 0] := by kernel_rfl
theorem zo30 : zero1T Try.prog 30 = some (.i .i64 0) := by kernel_rfl
theorem zd30 : zD Try.prog 30 = .i .i64 0 := by kernel_rfl
theorem by30 : bytesT Try.prog 30 = some 8 := by kernel_rfl
theorem sl30 : isSliceT Try.prog 30 = false := by kernel_rfl
theorem st30 : isStrT Try.prog 30 = false := by kernel_rfl
theorem bo30 : isBoolT Try.prog 30 = false := by kernel_rfl
theorem pt30 : isPtrT Try.prog 30 = false := by kernel_rfl
theorem sz40 : sizeT Try.prog 40 = some 5 := by kernel_rfl
theorem ag40 : aggT Try.prog 40 = some true := by kernel_rfl
theorem zr40 : zeroT Try.prog 40 = some [.s ⟨#[]⟩, .i .i64 0, .i .i64 0, .s ⟨#[]⟩, .s ⟨#[]⟩] := by kernel_rfl
theorem zd40 : zD Try.prog 40 = .agg [.s ⟨#[]⟩, .i .i64 0, .i .i64 0, .s ⟨#[]⟩, .s ⟨#[]⟩] := by kernel_rfl
theorem by40 : bytesT Try.prog 40 = some 64 := by kernel_rfl
theorem sl40 : isSliceT Try.prog 40 = false := by kernel_rfl
theorem st40 : isStrT Try.prog 40 = false := by kernel_rfl
theorem bo40 : isBoolT Try.prog 40 = false := by kernel_rfl
theorem pt40 : isPtrT Try.prog 40 = false := by kernel_rfl
theorem of40_0 : offT Try.prog 40 0 = some (0, 1) := by kernel_rfl
theorem fa40_0 : fieldT Try.prog 40 0 = some 9 := by kernel_rfl
theorem of40_1 : offT Try.prog 40 1 = some (1, 1) := by kernel_rfl
theorem fa40_1 : fieldT Try.prog 40 1 = some 3 := by kernel_rfl
theorem of40_2 : offT Try.prog 40 2 = some (2, 1) := by kernel_rfl
theorem fa40_2 : fieldT Try.prog 40 2 = some 3 := by kernel_rfl
theorem of40_3 : offT Try.prog 40 3 = some (3, 1) := by kernel_rfl
theorem fa40_3 : fieldT Try.prog 40 3 = some 9 := by kernel_rfl
theorem of40_4 : offT Try.prog 40 4 = some (4, 1) := by kernel_rfl
theorem fa40_4 : fieldT Try.prog 40 4 = some 9 := by kernel_rfl
theorem pl40 : placesT Try.prog 40 = some [(0, 1), (1, 1), (2, 1), (3, 1), (4, 1)] := by kernel_rfl
theorem ek40 : eqKs Try.prog 40 = some [.s, .i, .i, .s, .s] := by kernel_rfl
theorem sz42 : sizeT Try.prog 42 = some 8 := by kernel_rfl
theorem ag42 : aggT Try.prog 42 = some true := by kernel_rfl
theorem zr42 : zeroT Try.prog 42 = some [.i .i64 0, .i .i64 0, .i .i64 0, .s ⟨#[]⟩, .i .i64 0, .i .i64 0, .s ⟨#[]⟩, .s ⟨#[]⟩] := by kernel_rfl
theorem zd42 : zD Try.prog 42 = .agg [.i .i64 0, .i .i64 0, .i .i64 0, .s ⟨#[]⟩, .i .i64 0, .i .i64 0, .s ⟨#[]⟩, .s ⟨#[]⟩] := by kernel_rfl
theorem by42 : bytesT Try.prog 42 = some 88 := by kernel_rfl
theorem sl42 : isSliceT Try.prog 42 = false := by kernel_rfl
theorem st42 : isStrT Try.prog 42 = false := by kernel_rfl
theorem bo42 : isBoolT Try.prog 42 = false := by kernel_rfl
theorem pt42 : isPtrT Try.prog 42 = false := by kernel_rfl
theorem of42_0 : offT Try.prog 42 0 = some (0, 1) := by kernel_rfl
theorem fa42_0 : fieldT Try.prog 42 0 = some 3 := by kernel_rfl
theorem of42_1 : offT Try.prog 42 1 = some (1, 1) := by kernel_rfl
theorem fa42_1 : fieldT Try.prog 42 1 = some 3 := by kernel_rfl
theorem of42_2 : offT Try.prog 42 2 = some (2, 1) := by kernel_rfl
theorem fa42_2 : fieldT Try.prog 42 2 = some 3 := by kernel_rfl
theorem of42_3 : offT Try.prog 42 3 = some (3, 5) := by kernel_rfl
theorem fa42_3 : fieldT Try.prog 42 3 = some 40 := by kernel_rfl
theorem pl42 : placesT Try.prog 42 = some [(0, 1), (1, 1), (2, 1), (3, 5)] := by kernel_rfl
theorem ek42 : eqKs Try.prog 42 = some [.i, .i, .i, .s, .i, .i, .s, .s] := by kernel_rfl
theorem sz44 : sizeT Try.prog 44 = some 10 := by kernel_rfl
theorem ag44 : aggT Try.prog 44 = some true := by kernel_rfl
theorem zr44 : zeroT Try.prog 44 = some [.i .i64 0, .i .i64 0, .i .i64 0, .i .i64 0, .i .i64 0, .s ⟨#[]⟩, .i .i64 0, .i .i64 0, .s ⟨#[]⟩, .s ⟨#[]⟩] := by kernel_rfl
theorem zd44 : zD Try.prog 44 = .agg [.i .i64 0, .i .i64 0, .i .i64 0, .i .i64 0, .i .i64 0, .s ⟨#[]⟩, .i .i64 0, .i .i64 0, .s ⟨#[]⟩, .s ⟨#[]⟩] := by kernel_rfl
theorem by44 : bytesT Try.prog 44 = some 104 := by kernel_rfl
theorem sl44 : isSliceT Try.prog 44 = false := by kernel_rfl
theorem st44 : isStrT Try.prog 44 = false := by kernel_rfl
theorem bo44 : isBoolT Try.prog 44 = false := by kernel_rfl
theorem pt44 : isPtrT Try.prog 44 = false := by kernel_rfl
theorem of44_0 : offT Try.prog 44 0 = some (0, 1) := by kernel_rfl
theorem fa44_0 : fieldT Try.prog 44 0 = some 3 := by kernel_rfl
theorem of44_1 : offT Try.prog 44 1 = some (1, 1) := by kernel_rfl
theorem fa44_1 : fieldT Try.prog 44 1 = some 3 := by kernel_rfl
theorem of44_2 : offT Try.prog 44 2 = some (2, 8) := by kernel_rfl
theorem fa44_2 : fieldT Try.prog 44 2 = some 42 := by kernel_rfl
theorem pl44 : placesT Try.prog 44 = some [(0, 1), (1, 1), (2, 8)] := by kernel_rfl
theorem ek44 : eqKs Try.prog 44 = some [.i, .i, .i, .i, .i, .s, .i, .i, .s, .s] := by kernel_rfl
theorem sz59 : sizeT Try.prog 59 = some 1 := by kernel_rfl
theorem ag59 : aggT Try.prog 59 = some false := by kernel_rfl
theorem zr59 : zeroT Try.prog 59 = some [.nil] := by kernel_rfl
theorem zo59 : zero1T Try.prog 59 = some (.nil) := by kernel_rfl
theorem zd59 : zD Try.prog 59 = .nil := by kernel_rfl
theorem by59 : bytesT Try.prog 59 = some 24 := by kernel_rfl
theorem el59 : elemT Try.prog 59 = some 3 := by kernel_rfl
theorem sl59 : isSliceT Try.prog 59 = true := by kernel_rfl
theorem un59 : Try.prog.underlying 59 = some (.slice 3) := by kernel_rfl
theorem st59 : isStrT Try.prog 59 = false := by kernel_rfl
theorem bo59 : isBoolT Try.prog 59 = false := by kernel_rfl
theorem pt59 : isPtrT Try.prog 59 = false := by kernel_rfl
theorem sz66 : sizeT Try.prog 66 = some 2 := by kernel_rfl
theorem ag66 : aggT Try.prog 66 = some true := by kernel_rfl
theorem zr66 : zeroT Try.prog 66 = some [.i .i64 0, .i .i64 0] := by kernel_rfl
theorem zd66 : zD Try.prog 66 = .agg [.i .i64 0, .i .i64 0] := by kernel_rfl
theorem by66 : bytesT Try.prog 66 = some 16 := by kernel_rfl
theorem sl66 : isSliceT Try.prog 66 = false := by kernel_rfl
theorem st66 : isStrT Try.prog 66 = false := by kernel_rfl
theorem bo66 : isBoolT Try.prog 66 = false := by kernel_rfl
theorem pt66 : isPtrT Try.prog 66 = false := by kernel_rfl
theorem of66_0 : offT Try.prog 66 0 = some (0, 1) := by kernel_rfl
theorem fa66_0 : fieldT Try.prog 66 0 = some 3 := by kernel_rfl
theorem of66_1 : offT Try.prog 66 1 = some (1, 1) := by kernel_rfl
theorem fa66_1 : fieldT Try.prog 66 1 = some 3 := by kernel_rfl
theorem pl66 : placesT Try.prog 66 = some [(0, 1), (1, 1)] := by kernel_rfl
theorem ek66 : eqKs Try.prog 66 = some [.i, .i] := by kernel_rfl
theorem sz86 : sizeT Try.prog 86 = some 1 := by kernel_rfl
theorem ag86 : aggT Try.prog 86 = some false := by kernel_rfl
theorem by86 : bytesT Try.prog 86 = some 8 := by kernel_rfl
theorem sl86 : isSliceT Try.prog 86 = false := by kernel_rfl
theorem st86 : isStrT Try.prog 86 = false := by kernel_rfl
theorem bo86 : isBoolT Try.prog 86 = false := by kernel_rfl
theorem pt86 : isPtrT Try.prog 86 = false := by kernel_rfl
theorem mt86 : mapT Try.prog 86 = some (3, 94) := by kernel_rfl
theorem sz94 : sizeT Try.prog 94 = some 1 := by kernel_rfl
theorem ag94 : aggT Try.prog 94 = some false := by kernel_rfl
theorem zr94 : zeroT Try.prog 94 = some [.np] := by kernel_rfl
theorem zo94 : zero1T Try.prog 94 = some (.np) := by kernel_rfl
theorem zd94 : zD Try.prog 94 = .np := by kernel_rfl
theorem by94 : bytesT Try.prog 94 = some 8 := by kernel_rfl
theorem sl94 : isSliceT Try.prog 94 = false := by kernel_rfl
theorem st94 : isStrT Try.prog 94 = false := by kernel_rfl
theorem bo94 : isBoolT Try.prog 94 = false := by kernel_rfl
theorem pt94 : isPtrT Try.prog 94 = true := by kernel_rfl
theorem sz97 : sizeT Try.prog 97 = some 4 := by kernel_rfl
theorem ag97 : aggT Try.prog 97 = some true := by kernel_rfl
theorem zr97 : zeroT Try.prog 97 = some [.i .i64 0, .i .i64 0, .i .i64 0, .i .i64 0] := by kernel_rfl
theorem zd97 : zD Try.prog 97 = .agg [.i .i64 0, .i .i64 0, .i .i64 0, .i .i64 0] := by kernel_rfl
theorem by97 : bytesT Try.prog 97 = some 32 := by kernel_rfl
theorem sl97 : isSliceT Try.prog 97 = false := by kernel_rfl
theorem st97 : isStrT Try.prog 97 = false := by kernel_rfl
theorem bo97 : isBoolT Try.prog 97 = false := by kernel_rfl
theorem pt97 : isPtrT Try.prog 97 = false := by kernel_rfl
theorem of97_0 : offT Try.prog 97 0 = some (0, 1) := by kernel_rfl
theorem fa97_0 : fieldT Try.prog 97 0 = some 3 := by kernel_rfl
theorem of97_1 : offT Try.prog 97 1 = some (1, 1) := by kernel_rfl
theorem fa97_1 : fieldT Try.prog 97 1 = some 3 := by kernel_rfl
theorem of97_2 : offT Try.prog 97 2 = some (2, 1) := by kernel_rfl
theorem fa97_2 : fieldT Try.prog 97 2 = some 3 := by kernel_rfl
theorem of97_3 : offT Try.prog 97 3 = some (3, 1) := by kernel_rfl
theorem fa97_3 : fieldT Try.prog 97 3 = some 3 := by kernel_rfl
theorem pl97 : placesT Try.prog 97 = some [(0, 1), (1, 1), (2, 1), (3, 1)] := by kernel_rfl
theorem ek97 : eqKs Try.prog 97 = some [.i, .i, .i, .i] := by kernel_rfl
theorem sz100 : sizeT Try.prog 100 = some 1 := by kernel_rfl
theorem ag100 : aggT Try.prog 100 = some false := by kernel_rfl
theorem zr100 : zeroT Try.prog 100 = some [.i .u64 0] := by kernel_rfl
theorem zo100 : zero1T Try.prog 100 = some (.i .u64 0) := by kernel_rfl
theorem zd100 : zD Try.prog 100 = .i .u64 0 := by kernel_rfl
theorem by100 : bytesT Try.prog 100 = some 8 := by kernel_rfl
theorem sl100 : isSliceT Try.prog 100 = false := by kernel_rfl
theorem st100 : isStrT Try.prog 100 = false := by kernel_rfl
theorem bo100 : isBoolT Try.prog 100 = false := by kernel_rfl
theorem pt100 : isPtrT Try.prog 100 = false := by kernel_rfl
theorem sz104 : sizeT Try.prog 104 = some 1 := by kernel_rfl
theorem ag104 : aggT Try.prog 104 = some false := by kernel_rfl
theorem zr104 : zeroT Try.prog 104 = some [.i .i64 0] := by kernel_rfl
theorem zo104 : zero1T Try.prog 104 = some (.i .i64 0) := by kernel_rfl
theorem zd104 : zD Try.prog 104 = .i .i64 0 := by kernel_rfl
theorem by104 : bytesT Try.prog 104 = some 8 := by kernel_rfl
theorem sl104 : isSliceT Try.prog 104 = false := by kernel_rfl
theorem st104 : isStrT Try.prog 104 = false := by kernel_rfl
theorem bo104 : isBoolT Try.prog 104 = false := by kernel_rfl
theorem pt104 : isPtrT Try.prog 104 = false := by kernel_rfl
theorem sz113 : sizeT Try.prog 113 = some 1 := by kernel_rfl
theorem ag113 : aggT Try.prog 113 = some false := by kernel_rfl
theorem zr113 : zeroT Try.prog 113 = some [.i .u32 0] := by kernel_rfl
theorem zo113 : zero1T Try.prog 113 = some (.i .u32 0) := by kernel_rfl
theorem zd113 : zD Try.prog 113 = .i .u32 0 := by kernel_rfl
theorem by113 : bytesT Try.prog 113 = some 4 := by kernel_rfl
theorem sl113 : isSliceT Try.prog 113 = false := by kernel_rfl
theorem st113 : isStrT Try.prog 113 = false := by kernel_rfl
theorem bo113 : isBoolT Try.prog 113 = false := by kernel_rfl
theorem pt113 : isPtrT Try.prog 113 = false := by kernel_rfl
theorem sz115 : sizeT Try.prog 115 = some 1 := by kernel_rfl
theorem ag115 : aggT Try.prog 115 = some false := by kernel_rfl
theorem zr115 : zeroT Try.prog 115 = some [.i .u64 0] := by kernel_rfl
theorem zo115 : zero1T Try.prog 115 = some (.i .u64 0) := by kernel_rfl
theorem zd115 : zD Try.prog 115 = .i .u64 0 := by kernel_rfl
theorem by115 : bytesT Try.prog 115 = some 8 := by kernel_rfl
theorem sl115 : isSliceT Try.prog 115 = false := by kernel_rfl
theorem st115 : isStrT Try.prog 115 = false := by kernel_rfl
theorem bo115 : isBoolT Try.prog 115 = false := by kernel_rfl
theorem pt115 : isPtrT Try.prog 115 = false := by kernel_rfl
theorem sz118 : sizeT Try.prog 118 = some 1 := by kernel_rfl
theorem ag118 : aggT Try.prog 118 = some false := by kernel_rfl
theorem zr118 : zeroT Try.prog 118 = some [.i .u64 0] := by kernel_rfl
theorem zo118 : zero1T Try.prog 118 = some (.i .u64 0) := by kernel_rfl
theorem zd118 : zD Try.prog 118 = .i .u64 0 := by kernel_rfl
theorem by118 : bytesT Try.prog 118 = some 8 := by kernel_rfl
theorem sl118 : isSliceT Try.prog 118 = false := by kernel_rfl
theorem st118 : isStrT Try.prog 118 = false := by kernel_rfl
theorem bo118 : isBoolT Try.prog 118 = false := by kernel_rfl
theorem pt118 : isPtrT Try.prog 118 = false := by kernel_rfl
theorem sz122 : sizeT Try.prog 122 = some 1 := by kernel_rfl
theorem ag122 : aggT Try.prog 122 = some false := by kernel_rfl
theorem zr122 : zeroT Try.prog 122 = some [.np] := by kernel_rfl
theorem zo122 : zero1T Try.prog 122 = some (.np) := by kernel_rfl
theorem zd122 : zD Try.prog 122 = .np := by kernel_rfl
theorem by122 : bytesT Try.prog 122 = some 8 := by kernel_rfl
theorem sl122 : isSliceT Try.prog 122 = false := by kernel_rfl
theorem st122 : isStrT Try.prog 122 = false := by kernel_rfl
theorem bo122 : isBoolT Try.prog 122 = false := by kernel_rfl
theorem pt122 : isPtrT Try.prog 122 = true := by kernel_rfl

end Go.Ev.Ty

namespace Go.Ev

/-! ## Reading data as typed data -/
def decI (k : IntKind) : D → Option Int
  | .i k' n => if k' = k then some n else none
  | _ => none
def decB : D → Option Bool
  | .b x => some x
  | _ => none
def decS : D → Option ByteArray
  | .s x => some x
  | _ => none
def decM {α : Type} (f : D → Option α) : List D → Option (List α)
  | [] => some []
  | d :: l => match f d, decM f l with
    | some x, some r => some (x :: r)
    | _, _ => none
/-- A slice of elements of z cells. -/
def decL {α : Type} (z : Nat) (f : D → Option α) : D → Option (List α)
  | .nil => some []
  | .sl z' l => if z' = z then decM f l else none
  | _ => none
def encLs {α : Type} (z : Nat) (f : α → D) (l : List α) : D := .sl z (l.map f)
theorem decI_enc (k : IntKind) (n : Int) : decI k (D.i k n) = some n := by simp [decI]
theorem decB_enc (n : Bool) : decB (D.b n) = some n := rfl
theorem decS_enc (n : ByteArray) : decS (D.s n) = some n := rfl
theorem decI_le {k : IntKind} {d : D} {n : Int} (h : decI k d = some n) : dle d (D.i k n) := by
  unfold decI at h
  split at h
  · split at h
    · cases h; rename_i e; subst e; exact dle_refl _
    · cases h
  · cases h
theorem decB_le {d : D} {n : Bool} (h : decB d = some n) : dle d (D.b n) := by
  unfold decB at h
  split at h
  · cases h; exact dle_refl _
  · cases h
theorem decS_le {d : D} {n : ByteArray} (h : decS d = some n) : dle d (D.s n) := by
  unfold decS at h
  split at h
  · cases h; exact dle_refl _
  · cases h
theorem decM_nil {α : Type} {f : D → Option α} : decM f [] = some [] := rfl
theorem decM_cons {α : Type} {f : D → Option α} {d : D} {l : List D} : decM f (d :: l) = (match f d, decM f l with
    | some x, some r => some (x :: r)
    | _, _ => none) := rfl
theorem take_map_snoc {α : Type} {f : α → D} {l : List α} {d : D} : (l.map f ++ [d]).take (l.length + 1) = l.map f ++ [d] := List.take_of_length_le (by simp)
theorem decM_map {α : Type} {f : D → Option α} {g : α → D} (h : ∀ x, f (g x) = some x) : ∀ l : List α, decM f (l.map g) = some l
  | [] => rfl
  | x :: l => by simp [decM, h, decM_map h l]
theorem decM_append {α : Type} {f : D → Option α} : ∀ {l m : List D}, decM f (l ++ m) = (match decM f l, decM f m with
    | some x, some y => some (x ++ y)
    | _, _ => none)
  | [], m => by
    simp only [List.nil_append, decM]
    cases decM f m <;> rfl
  | d :: l, m => by
    simp only [List.cons_append, decM, decM_append (l := l) (m := m)]
    cases f d <;> cases decM f l <;> cases decM f m <;> rfl
theorem decL_nil {α : Type} {f : D → Option α} {z : Nat} : decL z f .nil = some [] := rfl
theorem decL_sl {α : Type} {f : D → Option α} {z z' : Nat} {l : List D} : decL z f (.sl z' l) = if z' = z then decM f l else none := rfl
theorem decL_map {α : Type} {f : D → Option α} {g : α → D} {z : Nat} (h : ∀ x, f (g x) = some x) (l : List α) : decL z f (.sl z (l.map g)) = some l := by simp [decL, decM_map h]
theorem dles_of_eq {l m : List D} (h : l = m) : dles l m := h ▸ dles_refl l
theorem decM_le {α : Type} {f : D → Option α} {g : α → D} (h : ∀ {d x}, f d = some x → dle d (g x)) : ∀ {l : List D} {x : List α}, decM f l = some x → dles l (x.map g)
  | [], x, hl => by cases hl; simp [dles]
  | d :: l, x, hl => by
    unfold decM at hl
    split at hl
    · rename_i a r h1 h2
      cases hl
      simp only [List.map_cons, dles]
      exact ⟨h h1, decM_le h h2⟩
    · cases hl
theorem decL_le {α : Type} {f : D → Option α} {g : α → D} {z : Nat} (h : ∀ {d x}, f d = some x → dle d (g x)) {d : D} {x : List α} (hd : decL z f d = some x) : dle d (.sl z (x.map g)) := by
  unfold decL at hd
  split at hd
  · cases hd; simp [dle]
  · split at hd
    · rename_i e
      subst e
      simp only [dle]
      exact ⟨trivial, decM_le h hd⟩
    · cases hd
  · cases hd
theorem seq_iff (x y : ByteArray) : seq x y = true ↔ x = y := by
  unfold seq
  rw [beq_iff_eq, ByteArray.toList_eq, ByteArray.toList_eq]
  exact ⟨fun h => Go.WideShapes.bytes_inj h, fun h => by rw [h]⟩
theorem seq_dec (x y : ByteArray) : seq x y = decide (x = y) := by
  rw [Bool.eq_iff_iff, seq_iff, decide_eq_true_iff]
theorem getD_i (k : IntKind) (l : List Int) (j : Nat) : (l.map (D.i k)).getD j (.i k 0) = .i k (l.getD j 0) := by
  simp only [List.getD, List.getElem?_map]
  cases l[j]? <;> rfl
theorem getD_s (l : List ByteArray) (j : Nat) : (l.map D.s).getD j (.s ⟨#[]⟩) = .s (l.getD j ⟨#[]⟩) := by
  simp only [List.getD, List.getElem?_map]
  cases l[j]? <;> rfl
theorem getD_b (l : List Bool) (j : Nat) : (l.map D.b).getD j (.b false) = .b (l.getD j false) := by
  simp only [List.getD, List.getElem?_map]
  cases l[j]? <;> rfl

end Go.Ev

namespace Go.Ev

structure Change where
  file : ByteArray
  kind : Int
  rrn : Int
  before : ByteArray
  after : ByteArray
deriving DecidableEq
def encChange (x : Change) : D := .agg [.s x.file, .i .i64 x.kind, .i .i64 x.rrn, .s x.before, .s x.after]
def zChange : Change := ⟨⟨#[]⟩, 0, 0, ⟨#[]⟩, ⟨#[]⟩⟩
theorem etaChange (x : Change) : (⟨x.file, x.kind, x.rrn, x.before, x.after⟩ : Change) = x := rfl
def decChange : D → Option Change
  | .agg [.s a0, .i .i64 a1, .i .i64 a2, .s a3, .s a4] => some ⟨a0, a1, a2, a3, a4⟩
  | _ => none
theorem decChange_enc (x : Change) : decChange (encChange x) = some x := rfl
theorem decChange_le {d : D} {x : Change} (h : decChange d = some x) : dle d (encChange x) := by
  unfold decChange at h
  split at h
  · cases h; exact dle_refl _
  · cases h
theorem zfChange : (⟨⟨#[]⟩, 0, 0, ⟨#[]⟩, ⟨#[]⟩⟩ : Change) = zChange := rfl
theorem eqbChange {a0 b0 : ByteArray} {a1 b1 : Int} {a2 b2 : Int} {a3 b3 : ByteArray} {a4 b4 : ByteArray} : (decide (a0 = b0) && ((a1 == b1) && ((a2 == b2) && (decide (a3 = b3) && decide (a4 = b4))))) = decide ((⟨a0, a1, a2, a3, a4⟩ : Change) = ⟨b0, b1, b2, b3, b4⟩) := by
  rw [Bool.eq_iff_iff]; simp
theorem ceqChange {a0 b0 : ByteArray} {a1 b1 : Int} {a2 b2 : Int} {a3 b3 : ByteArray} {a4 b4 : ByteArray} : cellsEq [.s, .i, .i, .s, .s] [.s a0, .i .i64 a1, .i .i64 a2, .s a3, .s a4] [.s b0, .i .i64 b1, .i .i64 b2, .s b3, .s b4] = some (eqB (⟨a0, a1, a2, a3, a4⟩ : Change) ⟨b0, b1, b2, b3, b4⟩) := by
  simp only [cellsEq, cellEq, seq_dec, ↓reduceIte, Option.some.injEq, Bool.and_true]; rw [Bool.eq_iff_iff]; simp [eqB]
theorem getD_Change (l : List Change) (k : Nat) : (l.map encChange).getD k (encChange zChange) = encChange (l.getD k zChange) := by
  simp only [List.getD, List.getElem?_map]
  cases l[k]? <;> rfl
theorem getDz_Change (l : List Change) (k : Nat) : (l.map encChange).getD k (.agg [.s ⟨#[]⟩, .i .i64 0, .i .i64 0, .s ⟨#[]⟩, .s ⟨#[]⟩]) = encChange (l.getD k zChange) := getD_Change l k
theorem dL_Change (l : List Change) : decL 5 decChange (.sl 5 (l.map encChange)) = some l := decL_map decChange_enc l
theorem dM_Change (l : List Change) : decM decChange (l.map encChange) = some l := decM_map decChange_enc l

structure Entry where
  number : Int
  kind : Int
  unit : Int
  change : Change
deriving DecidableEq
def encEntry (x : Entry) : D := .agg [.i .i64 x.number, .i .i64 x.kind, .i .i64 x.unit, .s x.change.file, .i .i64 x.change.kind, .i .i64 x.change.rrn, .s x.change.before, .s x.change.after]
def zEntry : Entry := ⟨0, 0, 0, zChange⟩
theorem etaEntry (x : Entry) : (⟨x.number, x.kind, x.unit, x.change⟩ : Entry) = x := rfl
def decEntry : D → Option Entry
  | .agg [.i .i64 a0, .i .i64 a1, .i .i64 a2, .s a3, .i .i64 a4, .i .i64 a5, .s a6, .s a7] => some ⟨a0, a1, a2, ⟨a3, a4, a5, a6, a7⟩⟩
  | _ => none
theorem decEntry_enc (x : Entry) : decEntry (encEntry x) = some x := rfl
theorem decEntry_le {d : D} {x : Entry} (h : decEntry d = some x) : dle d (encEntry x) := by
  unfold decEntry at h
  split at h
  · cases h; exact dle_refl _
  · cases h
theorem zfEntry : (⟨0, 0, 0, zChange⟩ : Entry) = zEntry := rfl
theorem eqbEntry {a0 b0 : Int} {a1 b1 : Int} {a2 b2 : Int} {a3 b3 : Change} : ((a0 == b0) && ((a1 == b1) && ((a2 == b2) && decide (a3 = b3)))) = decide ((⟨a0, a1, a2, a3⟩ : Entry) = ⟨b0, b1, b2, b3⟩) := by
  rw [Bool.eq_iff_iff]; simp
theorem ceqEntry {a0 b0 : Int} {a1 b1 : Int} {a2 b2 : Int} {a3 b3 : ByteArray} {a4 b4 : Int} {a5 b5 : Int} {a6 b6 : ByteArray} {a7 b7 : ByteArray} : cellsEq [.i, .i, .i, .s, .i, .i, .s, .s] [.i .i64 a0, .i .i64 a1, .i .i64 a2, .s a3, .i .i64 a4, .i .i64 a5, .s a6, .s a7] [.i .i64 b0, .i .i64 b1, .i .i64 b2, .s b3, .i .i64 b4, .i .i64 b5, .s b6, .s b7] = some (eqB (⟨a0, a1, a2, ⟨a3, a4, a5, a6, a7⟩⟩ : Entry) ⟨b0, b1, b2, ⟨b3, b4, b5, b6, b7⟩⟩) := by
  simp only [cellsEq, cellEq, seq_dec, ↓reduceIte, Option.some.injEq, Bool.and_true]; rw [Bool.eq_iff_iff]; simp [eqB]
theorem getD_Entry (l : List Entry) (k : Nat) : (l.map encEntry).getD k (encEntry zEntry) = encEntry (l.getD k zEntry) := by
  simp only [List.getD, List.getElem?_map]
  cases l[k]? <;> rfl
theorem getDz_Entry (l : List Entry) (k : Nat) : (l.map encEntry).getD k (.agg [.i .i64 0, .i .i64 0, .i .i64 0, .s ⟨#[]⟩, .i .i64 0, .i .i64 0, .s ⟨#[]⟩, .s ⟨#[]⟩]) = encEntry (l.getD k zEntry) := getD_Entry l k
theorem dL_Entry (l : List Entry) : decL 8 decEntry (.sl 8 (l.map encEntry)) = some l := decL_map decEntry_enc l
theorem dM_Entry (l : List Entry) : decM decEntry (l.map encEntry) = some l := decM_map decEntry_enc l

structure Packet where
  kind : Int
  number : Int
deriving DecidableEq
def encPacket (x : Packet) : D := .agg [.i .i64 x.kind, .i .i64 x.number]
def zPacket : Packet := ⟨0, 0⟩
theorem etaPacket (x : Packet) : (⟨x.kind, x.number⟩ : Packet) = x := rfl
def decPacket : D → Option Packet
  | .agg [.i .i64 a0, .i .i64 a1] => some ⟨a0, a1⟩
  | _ => none
theorem decPacket_enc (x : Packet) : decPacket (encPacket x) = some x := rfl
theorem decPacket_le {d : D} {x : Packet} (h : decPacket d = some x) : dle d (encPacket x) := by
  unfold decPacket at h
  split at h
  · cases h; exact dle_refl _
  · cases h
theorem zfPacket : (⟨0, 0⟩ : Packet) = zPacket := rfl
theorem eqbPacket {a0 b0 : Int} {a1 b1 : Int} : ((a0 == b0) && (a1 == b1)) = decide ((⟨a0, a1⟩ : Packet) = ⟨b0, b1⟩) := by
  rw [Bool.eq_iff_iff]; simp
theorem ceqPacket {a0 b0 : Int} {a1 b1 : Int} : cellsEq [.i, .i] [.i .i64 a0, .i .i64 a1] [.i .i64 b0, .i .i64 b1] = some (eqB (⟨a0, a1⟩ : Packet) ⟨b0, b1⟩) := by
  simp only [cellsEq, cellEq, seq_dec, ↓reduceIte, Option.some.injEq, Bool.and_true]; rw [Bool.eq_iff_iff]; simp [eqB]
theorem getD_Packet (l : List Packet) (k : Nat) : (l.map encPacket).getD k (encPacket zPacket) = encPacket (l.getD k zPacket) := by
  simp only [List.getD, List.getElem?_map]
  cases l[k]? <;> rfl
theorem getDz_Packet (l : List Packet) (k : Nat) : (l.map encPacket).getD k (.agg [.i .i64 0, .i .i64 0]) = encPacket (l.getD k zPacket) := getD_Packet l k
theorem dL_Packet (l : List Packet) : decL 2 decPacket (.sl 2 (l.map encPacket)) = some l := decL_map decPacket_enc l
theorem dM_Packet (l : List Packet) : decM decPacket (l.map encPacket) = some l := decM_map decPacket_enc l

structure Remote where
  sync : Bool
  source : List Entry
  target : List Entry
  sent : Int
  acked : Int
  wire : List Packet
deriving DecidableEq
def encRemote (x : Remote) : D := .agg [.b x.sync, .sl 8 (x.source.map encEntry), .sl 8 (x.target.map encEntry), .i .i64 x.sent, .i .i64 x.acked, .sl 2 (x.wire.map encPacket)]
def zRemote : Remote := ⟨false, [], [], 0, 0, []⟩
theorem etaRemote (x : Remote) : (⟨x.sync, x.source, x.target, x.sent, x.acked, x.wire⟩ : Remote) = x := rfl
def decRemote : D → Option Remote
  | .agg [.b a0, a1, a2, .i .i64 a3, .i .i64 a4, a5] => match (decL 8 decEntry) a1, (decL 8 decEntry) a2, (decL 2 decPacket) a5 with
    | some b1, some b2, some b5 => some ⟨a0, b1, b2, a3, a4, b5⟩
    | _, _, _ => none
  | _ => none
theorem decRemote_enc (x : Remote) : decRemote (encRemote x) = some x := by
  simp [decRemote, encRemote, (decL_map decEntry_enc), (decL_map decPacket_enc)]
theorem decRemote_le {d : D} {x : Remote} (h : decRemote d = some x) : dle d (encRemote x) := by
  unfold decRemote at h
  split at h
  · split at h
    · rename_i h1 h2 h5
      cases h
      simp only [dle, dles, encRemote, and_true, true_and]
      exact ⟨(decL_le decEntry_le) h1, (decL_le decEntry_le) h2, (decL_le decPacket_le) h5⟩
    · cases h
  · cases h
theorem zfRemote : (⟨false, [], [], 0, 0, []⟩ : Remote) = zRemote := rfl
theorem getD_Remote (l : List Remote) (k : Nat) : (l.map encRemote).getD k (encRemote zRemote) = encRemote (l.getD k zRemote) := by
  simp only [List.getD, List.getElem?_map]
  cases l[k]? <;> rfl
theorem dL_Remote (l : List Remote) : decL 6 decRemote (.sl 6 (l.map encRemote)) = some l := decL_map decRemote_enc l
theorem dM_Remote (l : List Remote) : decM decRemote (l.map encRemote) = some l := decM_map decRemote_enc l

structure RAct where
  kind : Int
  n : Int
  entry : Entry
deriving DecidableEq
def encRAct (x : RAct) : D := .agg [.i .i64 x.kind, .i .i64 x.n, .i .i64 x.entry.number, .i .i64 x.entry.kind, .i .i64 x.entry.unit, .s x.entry.change.file, .i .i64 x.entry.change.kind, .i .i64 x.entry.change.rrn, .s x.entry.change.before, .s x.entry.change.after]
def zRAct : RAct := ⟨0, 0, zEntry⟩
theorem etaRAct (x : RAct) : (⟨x.kind, x.n, x.entry⟩ : RAct) = x := rfl
def decRAct : D → Option RAct
  | .agg [.i .i64 a0, .i .i64 a1, .i .i64 a2, .i .i64 a3, .i .i64 a4, .s a5, .i .i64 a6, .i .i64 a7, .s a8, .s a9] => some ⟨a0, a1, ⟨a2, a3, a4, ⟨a5, a6, a7, a8, a9⟩⟩⟩
  | _ => none
theorem decRAct_enc (x : RAct) : decRAct (encRAct x) = some x := rfl
theorem decRAct_le {d : D} {x : RAct} (h : decRAct d = some x) : dle d (encRAct x) := by
  unfold decRAct at h
  split at h
  · cases h; exact dle_refl _
  · cases h
theorem zfRAct : (⟨0, 0, zEntry⟩ : RAct) = zRAct := rfl
theorem eqbRAct {a0 b0 : Int} {a1 b1 : Int} {a2 b2 : Entry} : ((a0 == b0) && ((a1 == b1) && decide (a2 = b2))) = decide ((⟨a0, a1, a2⟩ : RAct) = ⟨b0, b1, b2⟩) := by
  rw [Bool.eq_iff_iff]; simp
theorem ceqRAct {a0 b0 : Int} {a1 b1 : Int} {a2 b2 : Int} {a3 b3 : Int} {a4 b4 : Int} {a5 b5 : ByteArray} {a6 b6 : Int} {a7 b7 : Int} {a8 b8 : ByteArray} {a9 b9 : ByteArray} : cellsEq [.i, .i, .i, .i, .i, .s, .i, .i, .s, .s] [.i .i64 a0, .i .i64 a1, .i .i64 a2, .i .i64 a3, .i .i64 a4, .s a5, .i .i64 a6, .i .i64 a7, .s a8, .s a9] [.i .i64 b0, .i .i64 b1, .i .i64 b2, .i .i64 b3, .i .i64 b4, .s b5, .i .i64 b6, .i .i64 b7, .s b8, .s b9] = some (eqB (⟨a0, a1, ⟨a2, a3, a4, ⟨a5, a6, a7, a8, a9⟩⟩⟩ : RAct) ⟨b0, b1, ⟨b2, b3, b4, ⟨b5, b6, b7, b8, b9⟩⟩⟩) := by
  simp only [cellsEq, cellEq, seq_dec, ↓reduceIte, Option.some.injEq, Bool.and_true]; rw [Bool.eq_iff_iff]; simp [eqB]
theorem getD_RAct (l : List RAct) (k : Nat) : (l.map encRAct).getD k (encRAct zRAct) = encRAct (l.getD k zRAct) := by
  simp only [List.getD, List.getElem?_map]
  cases l[k]? <;> rfl
theorem getDz_RAct (l : List RAct) (k : Nat) : (l.map encRAct).getD k (.agg [.i .i64 0, .i .i64 0, .i .i64 0, .i .i64 0, .i .i64 0, .s ⟨#[]⟩, .i .i64 0, .i .i64 0, .s ⟨#[]⟩, .s ⟨#[]⟩]) = encRAct (l.getD k zRAct) := getD_RAct l k
theorem dL_RAct (l : List RAct) : decL 10 decRAct (.sl 10 (l.map encRAct)) = some l := decL_map decRAct_enc l
theorem dM_RAct (l : List RAct) : decM decRAct (l.map encRAct) = some l := decM_map decRAct_enc l

structure AUnit where
  unit : Int
  first : Int
  last : Int
  state : Int
deriving DecidableEq
def encAUnit (x : AUnit) : D := .agg [.i .i64 x.unit, .i .i64 x.first, .i .i64 x.last, .i .i64 x.state]
def zAUnit : AUnit := ⟨0, 0, 0, 0⟩
theorem etaAUnit (x : AUnit) : (⟨x.unit, x.first, x.last, x.state⟩ : AUnit) = x := rfl
def decAUnit : D → Option AUnit
  | .agg [.i .i64 a0, .i .i64 a1, .i .i64 a2, .i .i64 a3] => some ⟨a0, a1, a2, a3⟩
  | _ => none
theorem decAUnit_enc (x : AUnit) : decAUnit (encAUnit x) = some x := rfl
theorem decAUnit_le {d : D} {x : AUnit} (h : decAUnit d = some x) : dle d (encAUnit x) := by
  unfold decAUnit at h
  split at h
  · cases h; exact dle_refl _
  · cases h
theorem zfAUnit : (⟨0, 0, 0, 0⟩ : AUnit) = zAUnit := rfl
theorem eqbAUnit {a0 b0 : Int} {a1 b1 : Int} {a2 b2 : Int} {a3 b3 : Int} : ((a0 == b0) && ((a1 == b1) && ((a2 == b2) && (a3 == b3)))) = decide ((⟨a0, a1, a2, a3⟩ : AUnit) = ⟨b0, b1, b2, b3⟩) := by
  rw [Bool.eq_iff_iff]; simp
theorem ceqAUnit {a0 b0 : Int} {a1 b1 : Int} {a2 b2 : Int} {a3 b3 : Int} : cellsEq [.i, .i, .i, .i] [.i .i64 a0, .i .i64 a1, .i .i64 a2, .i .i64 a3] [.i .i64 b0, .i .i64 b1, .i .i64 b2, .i .i64 b3] = some (eqB (⟨a0, a1, a2, a3⟩ : AUnit) ⟨b0, b1, b2, b3⟩) := by
  simp only [cellsEq, cellEq, seq_dec, ↓reduceIte, Option.some.injEq, Bool.and_true]; rw [Bool.eq_iff_iff]; simp [eqB]
theorem getD_AUnit (l : List AUnit) (k : Nat) : (l.map encAUnit).getD k (encAUnit zAUnit) = encAUnit (l.getD k zAUnit) := by
  simp only [List.getD, List.getElem?_map]
  cases l[k]? <;> rfl
theorem getDz_AUnit (l : List AUnit) (k : Nat) : (l.map encAUnit).getD k (.agg [.i .i64 0, .i .i64 0, .i .i64 0, .i .i64 0]) = encAUnit (l.getD k zAUnit) := getD_AUnit l k
theorem dL_AUnit (l : List AUnit) : decL 4 decAUnit (.sl 4 (l.map encAUnit)) = some l := decL_map decAUnit_enc l
theorem dM_AUnit (l : List AUnit) : decM decAUnit (l.map encAUnit) = some l := decM_map decAUnit_enc l

end Go.Ev

namespace Go.Ev

def fewGo : Nat → List Entry → Bool
  | _, [] => true
  | i, e :: r => decide (i ≤ 81) && (decide (e.change.before.size ≤ 300) && decide (e.change.after.size ≤ 300)) && fewGo (i + 1) r
def few35 (l : List Entry) : Bool := fewGo 0 l
/-- The byte at i. -/
def chr (s : ByteArray) (i : Nat) : Int := ((s.data.toList.getD i 0).toNat : Int)
def nameC (first : Bool) (c : Int) : Bool := (decide (65 ≤ c) && decide (c ≤ 90) || c == 35 || c == 36 || c == 64) || (!first && (c == 95 || c == 46 || decide (48 ≤ c) && decide (c ≤ 57)))
def isName (s : ByteArray) : Bool := decide (1 ≤ s.size) && decide (s.size ≤ 10) && (List.range s.size).all fun i => nameC (i == 0) (chr s i)
theorem chr_u8 (s : ByteArray) (i : Nat) : 0 ≤ chr s i ∧ chr s i ≤ 255 := by
  unfold chr
  have := (s.data.toList.getD i 0).toNat_lt
  omega
theorem chr_eq (s : ByteArray) (i : Nat) : ((s.data.toList.getD i 0).toNat : Int) = chr s i := rfl
theorem isName_no {s : ByteArray} {i : Nat} (h : i < s.size) (hc : nameC (i == 0) (chr s i) = false) : isName s = false := by
  unfold isName
  rw [Bool.and_eq_false_iff]
  right
  rw [List.all_eq_false]
  exact ⟨i, by simpa using h, by simp [hc]⟩
theorem isName_yes {s : ByteArray} (h1 : 1 ≤ s.size) (h2 : s.size ≤ 10) (h : ∀ j, j < s.size → nameC (j == 0) (chr s j) = true) : isName s = true := by
  unfold isName
  simp only [Bool.and_eq_true, decide_eq_true_eq, List.all_eq_true, List.mem_range]
  exact ⟨⟨h1, h2⟩, h⟩
theorem isName_len {s : ByteArray} (h : (s.size : Int) < 1 ∨ 10 < (s.size : Int)) : isName s = false := by
  unfold isName
  rw [Bool.and_eq_false_iff]
  left
  simp only [Bool.and_eq_false_iff, decide_eq_false_iff_not]
  omega
theorem nameC_iff (i : Nat) (c : Int) : nameC (i == 0) c = true ↔ (((65 ≤ c ∧ c ≤ 90) ∨ c = 35 ∨ c = 36 ∨ c = 64) ∨ (i ≠ 0 ∧ (c = 95 ∨ c = 46 ∨ (48 ≤ c ∧ c ≤ 57)))) := by
  simp [nameC]
  omega
theorem ba_empty (s : ByteArray) : s = ⟨#[]⟩ ↔ s.size = 0 := by
  constructor
  · rintro rfl; rfl
  · intro h
    cases s with | mk d => simp only [ByteArray.size, Array.size_eq_zero_iff] at h; rw [h]
def changeErr (c : Change) : Int :=
  if ¬(0 ≤ c.kind ∧ c.kind ≤ 2) then 4 else if ¬(1 ≤ c.rrn ∧ c.rrn ≤ 60) then 3 else if 200 < c.before.size ∨ 200 < c.after.size then 18
  else if ¬(c.before = ⟨#[]⟩ ↔ c.kind = 0) ∨ ¬(c.after = ⟨#[]⟩ ↔ c.kind = 2) then 5 else 0
/-- What the kind of an entry uses. -/
def formUsed (e : Entry) : Entry :=
  if e.kind = 0 then e else if e.kind = 1 ∨ e.kind = 2 ∨ e.kind = 3 then ⟨e.number, e.kind, e.unit, zChange⟩
  else if e.kind = 4 then ⟨e.number, e.kind, 0, { zChange with file := e.change.file }⟩ else ⟨e.number, e.kind, 0, zChange⟩
theorem entry_ext (a b : Entry) : a = b ↔ a.number = b.number ∧ a.kind = b.kind ∧ a.unit = b.unit ∧ a.change.file = b.change.file ∧ a.change.kind = b.change.kind ∧ a.change.rrn = b.change.rrn ∧ a.change.before = b.change.before ∧ a.change.after = b.change.after := by
  cases a with | mk a1 a2 a3 a4 => cases a4; cases b with | mk b1 b2 b3 b4 => cases b4; simp
theorem change_ext (a b : Change) : a = b ↔ a.file = b.file ∧ a.kind = b.kind ∧ a.rrn = b.rrn ∧ a.before = b.before ∧ a.after = b.after := by
  cases a; cases b; simp
def formErr (e : Entry) : Int := if formUsed e = e then 0 else 5
def entryErr (e : Entry) : Int :=
  if ¬(0 ≤ e.kind ∧ e.kind ≤ 5) then 4 else if ¬(1 ≤ e.number ∧ e.number ≤ 9999) then 3
  else if (e.kind = 1 ∨ e.kind = 2 ∨ e.kind = 3) ∧ ¬(1 ≤ e.unit ∧ e.unit ≤ 999) then 3
  else if e.kind = 0 ∧ ¬(0 ≤ e.unit ∧ e.unit ≤ 999) then 3
  else if ¬formUsed e = e then 5 else if e.kind ≠ 0 ∧ e.kind ≠ 4 then 0 else if isName e.change.file = false then 7
  else if e.kind = 4 then 0 else changeErr e.change
/-! ## Entries: cycles -/
def pBegin (u : Int) (e : Entry) : Bool := e.kind == 1 && e.unit == u
def pEnd (u : Int) (e : Entry) : Bool := (e.kind == 2 || e.kind == 3) && e.unit == u
def begins (l : List Entry) (u : Int) : Bool := l.any (pBegin u)
def ends? (l : List Entry) (u : Int) : Option Entry := l.find? (pEnd u)
def ends (l : List Entry) (u : Int) : Int := match ends? l u with | some e => e.kind | none => -1
def isOpen (l : List Entry) (u : Int) : Bool := begins l u && ends l u == -1
def stateErr (b : List Entry) (e : Entry) : Int :=
  if e.kind = 1 then (if isOpen b e.unit = true then 26 else if begins b e.unit = true then 13 else 0)
  else if e.kind = 2 ∨ e.kind = 3 then (if isOpen b e.unit = true then 0 else 26)
  else if e.kind = 0 then (if e.unit ≠ 0 ∧ isOpen b e.unit = false then 26 else 0) else 0

/-- From entry i on (n entries are left): the index of the first wrong entry, and its error. -/
def checkFrom (l : List Entry) : Nat → Nat → Int × Int
  | 0, _ => (0, 0)
  | n + 1, i =>
    if entryErr (l.getD i zEntry) ≠ 0 then (i, entryErr (l.getD i zEntry))
    else if 0 < i ∧ (l.getD i zEntry).number ≠ IntKind.i64.wrap ((l.getD ((i : Int) - 1).toNat zEntry).number + 1) then (i, 14)
    else if stateErr (l.take i) (l.getD i zEntry) ≠ 0 then (i, stateErr (l.take i) (l.getD i zEntry))
    else checkFrom l n (i + 1)
def check (l : List Entry) : Int × Int := if 80 < l.length then (0, 2) else checkFrom l l.length 0
theorem checkFrom_lt {l : List Entry} {i : Nat} (h : i < l.length) : checkFrom l (l.length - i) i =
    if entryErr (l.getD i zEntry) ≠ 0 then ((i : Int), entryErr (l.getD i zEntry))
    else if 0 < i ∧ (l.getD i zEntry).number ≠ IntKind.i64.wrap ((l.getD ((i : Int) - 1).toNat zEntry).number + 1) then ((i : Int), 14)
    else if stateErr (l.take i) (l.getD i zEntry) ≠ 0 then ((i : Int), stateErr (l.take i) (l.getD i zEntry))
    else checkFrom l (l.length - (i + 1)) (i + 1) := by
  obtain ⟨n, hn⟩ : ∃ n, l.length - i = n + 1 := ⟨l.length - i - 1, by omega⟩
  rw [hn, show l.length - (i + 1) = n by omega]
  rfl
theorem checkFrom_end {l : List Entry} {i : Nat} (h : l.length ≤ i) : checkFrom l (l.length - i) i = (0, 0) := by
  rw [show l.length - i = 0 by omega]; rfl

theorem int_pred (i : Nat) : ((i : Int) - 1).toNat = i - 1 := by omega
section
variable {l : List Entry} {c : Int × Int} {i : Nat}
theorem checkFrom_bad1 (h : checkFrom l (l.length - i) i = c) (hi : i < l.length) (h1 : ¬entryErr (l.getD i zEntry) = 0) : c.1 = i ∧ c.2 = entryErr (l.getD i zEntry) := by
  rw [checkFrom_lt hi, if_pos h1] at h
  rw [← h]; exact ⟨rfl, rfl⟩
theorem checkFrom_bad2 (h : checkFrom l (l.length - i) i = c) (hi : i < l.length) (h1 : entryErr (l.getD i zEntry) = 0) (h0 : 0 < (i : Int)) (h2 : ¬(l.getD i zEntry).number = IntKind.i64.wrap ((l.getD ((i : Int) - 1).toNat zEntry).number + 1)) : c.1 = i ∧ c.2 = 14 := by
  rw [checkFrom_lt hi, if_neg (fun e => e h1), if_pos ⟨by omega, h2⟩] at h
  rw [← h]; exact ⟨rfl, rfl⟩
theorem checkFrom_bad3 (h : checkFrom l (l.length - i) i = c) (hi : i < l.length) (h1 : entryErr (l.getD i zEntry) = 0) (h2 : (i : Int) ≤ 0 ∨ (l.getD i zEntry).number = IntKind.i64.wrap ((l.getD ((i : Int) - 1).toNat zEntry).number + 1)) (h3 : ¬stateErr (l.take i) (l.getD i zEntry) = 0) :
    c.1 = i ∧ c.2 = stateErr (l.take i) (l.getD i zEntry) := by
  rw [checkFrom_lt hi, if_neg (fun e => e h1), if_neg (by omega), if_pos h3] at h
  rw [← h]; exact ⟨rfl, rfl⟩
theorem checkFrom_next (h : checkFrom l (l.length - i) i = c) (hi : i < l.length) (h1 : entryErr (l.getD i zEntry) = 0) (h2 : (i : Int) ≤ 0 ∨ (l.getD i zEntry).number = IntKind.i64.wrap ((l.getD ((i : Int) - 1).toNat zEntry).number + 1)) (h3 : stateErr (l.take i) (l.getD i zEntry) = 0) :
    checkFrom l (l.length - (i + 1)) (i + 1) = c := by
  rwa [checkFrom_lt hi, if_neg (fun e => e h1), if_neg (by omega), if_neg (fun e => e h3)] at h
end

section
variable {l : List Entry} {u : Int} {i : Nat}
theorem getD_mem {α : Type} {l : List α} {i : Nat} (z : α) (h : i < l.length) : l.getD i z ∈ l := by
  simp only [List.getD, List.getElem?_eq_getElem h, Option.getD_some]
  exact List.getElem_mem h
theorem begins_yes (h : i < l.length) (h1 : (l.getD i zEntry).kind = 1) (h2 : (l.getD i zEntry).unit = u) : begins l u = true := by
  unfold begins
  rw [List.any_eq_true]
  exact ⟨_, getD_mem zEntry h, by simp only [pBegin, Bool.and_eq_true, beq_iff_eq]; exact ⟨h1, h2⟩⟩
theorem begins_step (hb : begins (l.take i) u = false) (h : i < l.length) (hn : ¬((l.getD i zEntry).kind = 1 ∧ (l.getD i zEntry).unit = u)) : begins (l.take (i + 1)) u = false := by
  unfold begins at hb ⊢
  rw [take_getD zEntry h, List.any_append, hb]
  simp only [List.any_cons, List.any_nil, Bool.or_false, Bool.false_or, pBegin]
  rw [Bool.and_eq_false_iff]
  simp only [beq_eq_false_iff_ne, ne_eq]
  omega
theorem begins_end (hb : begins (l.take i) u = false) (h : l.length ≤ i) : begins l u = false := by
  rwa [List.take_of_length_le h] at hb
theorem ends_yes (hb : ends? (l.take i) u = none) (h : i < l.length) (h1 : (l.getD i zEntry).kind = 2 ∨ (l.getD i zEntry).kind = 3) (h2 : (l.getD i zEntry).unit = u) : ends l u = (l.getD i zEntry).kind := by
  have : ends? l u = some (l.getD i zEntry) := by
    unfold ends? at hb ⊢
    rw [← List.take_append_drop i l, List.find?_append, hb, Option.none_or, List.take_append_drop, drop_getD zEntry h, List.find?_cons]
    have : pEnd u (l.getD i zEntry) = true := by
      simp only [pEnd, Bool.and_eq_true, Bool.or_eq_true, beq_iff_eq]
      exact ⟨h1, h2⟩
    rw [this]
  unfold ends
  rw [this]
theorem ends_step (hb : ends? (l.take i) u = none) (h : i < l.length) (hn : ¬(((l.getD i zEntry).kind = 2 ∨ (l.getD i zEntry).kind = 3) ∧ (l.getD i zEntry).unit = u)) : ends? (l.take (i + 1)) u = none := by
  unfold ends? at hb ⊢
  rw [take_getD zEntry h, List.find?_append, hb, Option.none_or, List.find?_cons]
  have : pEnd u (l.getD i zEntry) = false := by
    rw [← Bool.not_eq_true]
    simp only [pEnd, Bool.and_eq_true, Bool.or_eq_true, beq_iff_eq]
    exact hn
  rw [this]; rfl
theorem ends_end (hb : ends? (l.take i) u = none) (h : l.length ≤ i) : ends l u = -1 := by
  rw [List.take_of_length_le h] at hb
  unfold ends; rw [hb]
end
/-! ## Systems -/
theorem take_eq_step {α : Type} {a b : List α} {i : Nat} {z : α} (h : a.take i = b.take i) (ha : i < a.length) (hb : i < b.length) (he : a.getD i z = b.getD i z) : a.take (i + 1) = b.take (i + 1) := by
  rw [take_getD z ha, take_getD z hb, h, he]
theorem take_eq_end {α : Type} {a b : List α} {i : Nat} (h : a.take i = b.take i) (ha : a.length ≤ i) (hb : b.length ≤ i) : a = b := by
  rwa [List.take_of_length_le ha, List.take_of_length_le hb] at h
def beginsWith (l first : List Entry) : Bool := decide (first.length ≤ l.length) && decide (l.take first.length = first)
def wireErr (ns nt : Nat) : List Packet → Int
  | [] => 0
  | p :: r => if ¬(0 ≤ p.kind ∧ p.kind ≤ 1) then 4 else if p.kind = 0 ∧ ¬(1 ≤ p.number ∧ p.number ≤ (ns : Int)) ∨ p.kind = 1 ∧ ¬(0 ≤ p.number ∧ p.number ≤ (nt : Int)) then 3 else wireErr ns nt r
def remoteErr (x : Remote) : Int :=
  if (check x.source).2 ≠ 0 then (check x.source).2
  else if 40 < x.source.length then 2
  else if 0 < x.source.length ∧ (x.source.getD 0 zEntry).number ≠ 1 then 14
  else if beginsWith x.source x.target = false then 41
  else if ¬(0 ≤ x.sent ∧ x.sent ≤ (x.source.length : Int)) ∨ ¬(0 ≤ x.acked ∧ x.acked ≤ (x.target.length : Int) ∧ x.acked ≤ x.sent) then 3
  else if 12 < x.wire.length then 2
  else wireErr x.source.length x.target.length x.wire

def few36 (x : Remote) : Bool := few35 x.source && few35 x.target && decide (x.wire.length ≤ 14)
def lightGo : Nat → List RAct → Bool
  | _, [] => true
  | i, a :: r => decide (i ≤ 81) && few35 [a.entry] && lightGo (i + 1) r
def light (l : List RAct) : Bool := lightGo 0 l
/-- The source waits for what must be confirmed. -/
def waits (x : Remote) : Bool := x.sync && decide (x.acked ≠ x.source.length) && (decide ((x.source.getD (x.source.length - 1) zEntry).kind = 2) || decide ((x.source.getD (x.source.length - 1) zEntry).kind = 0) && decide ((x.source.getD (x.source.length - 1) zEntry).unit = 0))

def appendedR (x : Remote) (e : Entry) : Remote × Int :=
  if e.number ≠ 0 then (zRemote, 5) else if waits x = true then (zRemote, 26) else if 40 ≤ x.source.length then (zRemote, 30)
  else if (check (x.source ++ [{ e with number := x.source.length + 1 }])).2 ≠ 0 then (zRemote, (check (x.source ++ [{ e with number := x.source.length + 1 }])).2)
  else ({ x with source := x.source ++ [{ e with number := x.source.length + 1 }] }, 0)
def arrivedR (x : Remote) (p : Packet) : Remote :=
  if p.kind = 1 then { x with acked := if x.acked < p.number then p.number else x.acked, sent := if x.sent < (if x.acked < p.number then p.number else x.acked) then (if x.acked < p.number then p.number else x.acked) else x.sent }
  else
    let t := if p.number = x.target.length + 1 then x.target ++ [x.source.getD (p.number - 1).toNat zEntry] else x.target
    { x with target := t, wire := if x.wire.length < 12 then x.wire ++ [⟨1, t.length⟩] else x.wire }

/-- What right systems are, as far as acts look. -/
structure goodR (x : Remote) : Prop where
  s : x.source.length ≤ 40
  t : x.target.length ≤ x.source.length
  w : x.wire.length ≤ 12
  s0 : 0 ≤ x.sent
  s1 : x.sent ≤ x.source.length
  a0 : 0 ≤ x.acked
  a1 : x.acked ≤ x.target.length
  p : ∀ j, j < x.wire.length → (x.wire.getD j zPacket).kind ≠ 1 → 1 ≤ (x.wire.getD j zPacket).number ∧ (x.wire.getD j zPacket).number ≤ x.source.length
  q : ∀ j, j < x.wire.length → (x.wire.getD j zPacket).kind = 1 → (x.wire.getD j zPacket).number ≤ x.target.length
def actR (x : Remote) (a : RAct) : Remote × Int :=
  if a.kind < 0 ∨ 6 ≤ a.kind then (zRemote, 4)
  else if (¬(a.kind = 2 ∨ a.kind = 3 ∨ a.kind = 4) ∧ a.n ≠ 0) ∨ (a.kind ≠ 0 ∧ a.entry ≠ zEntry) then (zRemote, 5)
  else if (a.kind = 2 ∨ a.kind = 3 ∨ a.kind = 4) ∧ (a.n < 0 ∨ (x.wire.length : Int) ≤ a.n) then (zRemote, 3)
  else if a.kind = 0 then appendedR x a.entry
  else if a.kind = 1 then (if x.sent = x.source.length then (zRemote, 40) else if (12 : Int) ≤ x.wire.length then (zRemote, 30) else ({ x with sent := x.sent + 1, wire := x.wire ++ [⟨0, x.sent + 1⟩] }, 0))
  else if a.kind = 2 then (arrivedR { x with wire := x.wire.eraseIdx a.n.toNat } (x.wire.getD a.n.toNat zPacket), 0)
  else if a.kind = 3 then ({ x with wire := x.wire.eraseIdx a.n.toNat }, 0)
  else if a.kind = 4 then (if (12 : Int) ≤ x.wire.length then (zRemote, 30) else ({ x with wire := x.wire ++ [x.wire.getD a.n.toNat zPacket] }, 0))
  else (if x.acked = x.sent then (zRemote, 40) else ({ x with sent := x.acked }, 0))

/-- The systems behind acts; i acts are done. -/
def runGo (x : Remote) (i : Nat) : List RAct → Remote × Int × Int
  | [] => (x, i, 0)
  | a :: r => if (actR x a).2 ≠ 0 then (zRemote, i, (actR x a).2) else runGo (actR x a).1 (i + 1) r
def runR (x : Remote) (l : List RAct) : Remote × Int × Int :=
  if remoteErr x ≠ 0 then (zRemote, 0, remoteErr x) else if 80 < l.length then (zRemote, 0, 2) else runGo x 0 l
theorem wireErr_spec {ns nt : Nat} : ∀ {l : List Packet}, wireErr ns nt l = 0 → ∀ p ∈ l, (p.kind = 0 ∨ p.kind = 1) ∧ (p.kind = 0 → 1 ≤ p.number ∧ p.number ≤ (ns : Int)) ∧ (p.kind = 1 → 0 ≤ p.number ∧ p.number ≤ (nt : Int))
  | [], _, p, hp => by cases hp
  | q :: l, h, p, hp => by
    unfold wireErr at h
    split at h
    · cases h
    · split at h
      · cases h
      · rcases List.mem_cons.1 hp with rfl | hp
        · omega
        · exact wireErr_spec h p hp
theorem remoteErr_good {x : Remote} (h : remoteErr x = 0) : goodR x := by
  unfold remoteErr at h
  split at h
  · exact absurd h ‹_›
  · split at h
    · cases h
    · split at h
      · cases h
      · split at h
        · cases h
        · split at h
          · cases h
          · split at h
            · cases h
            · rename_i h1 h2 h3 h4 h5 h6
              simp only [Bool.not_eq_false, beginsWith, Bool.and_eq_true, decide_eq_true_eq] at h4
              refine ⟨by omega, h4.1, by omega, by omega, by omega, by omega, by omega, fun j hj hk => ?_, fun j hj hk => ?_⟩
              · have := wireErr_spec h _ (getD_mem zPacket hj)
                omega
              · have := wireErr_spec h _ (getD_mem zPacket hj)
                omega

end Go.Ev

namespace Go.Ev
theorem getD_append_one {α : Type} {l : List α} {y z : α} {j : Nat} : (l ++ [y]).getD j z = if j < l.length then l.getD j z else if j = l.length then y else z := by
  simp only [List.getD, List.getElem?_append]
  by_cases h : j < l.length
  · simp [h]
  · simp only [h, if_false]
    by_cases e : j = l.length
    · subst e; simp
    · have : j - l.length ≠ 0 := by omega
      simp [e, List.getElem?_cons, this]
theorem getD_eraseIdx {α : Type} {l : List α} {z : α} {n j : Nat} : (l.eraseIdx n).getD j z = if j < n then l.getD j z else l.getD (j + 1) z := by
  simp only [List.getD, List.getElem?_eraseIdx]
  split <;> rfl
theorem good_arrived {x : Remote} {n : Nat} (h : goodR x) (hn : n < x.wire.length) : goodR (arrivedR { x with wire := x.wire.eraseIdx n } (x.wire.getD n zPacket)) := by
  obtain ⟨g1, g2, g3, g4, g5, g6, g7, g8, g9⟩ := h
  have hp := g8 n hn
  have hq := g9 n hn
  have hl : (x.wire.eraseIdx n).length = x.wire.length - 1 := by rw [List.length_eraseIdx]; split <;> omega
  have gw : ∀ j, j < (x.wire.eraseIdx n).length → ((x.wire.eraseIdx n).getD j zPacket).kind ≠ 1 → 1 ≤ ((x.wire.eraseIdx n).getD j zPacket).number ∧ ((x.wire.eraseIdx n).getD j zPacket).number ≤ x.source.length := fun j hj hk => by
    rw [getD_eraseIdx] at hk ⊢
    split at hk
    · rw [if_pos ‹_›]; exact g8 j (by omega) hk
    · rw [if_neg ‹_›]; exact g8 (j + 1) (by omega) hk
  have gq : ∀ j, j < (x.wire.eraseIdx n).length → ((x.wire.eraseIdx n).getD j zPacket).kind = 1 → ((x.wire.eraseIdx n).getD j zPacket).number ≤ x.target.length := fun j hj hk => by
    rw [getD_eraseIdx] at hk ⊢
    split at hk
    · rw [if_pos ‹_›]; exact g9 j (by omega) hk
    · rw [if_neg ‹_›]; exact g9 (j + 1) (by omega) hk
  unfold arrivedR
  split
  · rename_i hk
    have hq := hq hk
    refine ⟨g1, g2, ?_, ?_, ?_, ?_, ?_, gw, gq⟩
    · simp only; omega
    · simp only; split <;> omega
    · simp only; split <;> split <;> omega
    · simp only; split <;> omega
    · simp only; split <;> omega
  · rename_i hk
    have hp := hp hk
    simp only
    refine ⟨g1, ?_, ?_, g4, g5, g6, ?_, ?_, ?_⟩
    · simp only; split <;> (try simp) <;> omega
    · simp only; split <;> (try simp) <;> omega
    · simp only; split <;> (try simp) <;> omega
    · simp only
      split
      · intro j hj hk
        rw [getD_append_one] at hk ⊢
        split at hk
        · rw [if_pos ‹_›]; exact gw j ‹_› hk
        · rename_i hj2
          rw [if_neg hj2]
          split at hk
          · exact absurd rfl hk
          · simp at hj; omega
      · exact gw
    · have ht : (x.target.length : Int) ≤ (if (x.wire.getD n zPacket).number = x.target.length + 1 then x.target ++ [x.source.getD ((x.wire.getD n zPacket).number - 1).toNat zEntry] else x.target).length := by
        split <;> simp
        omega
      simp only
      split
      · intro j hj hk
        rw [getD_append_one] at hk ⊢
        split at hk
        · rw [if_pos ‹_›]; exact Int.le_trans (gq j ‹_› hk) ht
        · rename_i hj2
          rw [if_neg hj2]
          split at hk
          · rw [if_pos ‹_›]; exact Int.le_refl _
          · simp at hj; omega
      · intro j hj hk; exact Int.le_trans (gq j hj hk) ht
theorem good_appended {x : Remote} {e : Entry} (h : goodR x) (h0 : (appendedR x e).2 = 0) : goodR (appendedR x e).1 := by
  obtain ⟨g1, g2, g3, g4, g5, g6, g7, g8, g9⟩ := h
  unfold appendedR at h0 ⊢
  split at h0
  · cases h0
  split at h0
  · cases h0
  split at h0
  · cases h0
  split at h0
  · exact absurd h0 ‹_›
  rw [if_neg ‹_›, if_neg ‹_›, if_neg ‹_›, if_neg ‹_›]
  refine ⟨?_, ?_, g3, g4, ?_, g6, g7, fun j hj hk => ?_, g9⟩
  · simp only [List.length_append, List.length_cons, List.length_nil]; omega
  · simp only [List.length_append, List.length_cons, List.length_nil]; omega
  · simp only [List.length_append, List.length_cons, List.length_nil]; omega
  · have := g8 j hj hk
    simp only [List.length_append, List.length_cons, List.length_nil]
    omega
theorem good_act {x : Remote} {a : RAct} (h : goodR x) (h0 : (actR x a).2 = 0) : goodR (actR x a).1 := by
  have hg := h
  obtain ⟨g1, g2, g3, g4, g5, g6, g7, g8, g9⟩ := h
  unfold actR at h0 ⊢
  split at h0
  · cases h0
  split at h0
  · cases h0
  split at h0
  · cases h0
  rename_i k1 k2 k3
  rw [if_neg k1, if_neg k2, if_neg k3]
  split at h0
  · rw [if_pos ‹_›]; exact good_appended hg h0
  rw [if_neg ‹_›]
  split at h0
  · rw [if_pos ‹_›]
    split at h0
    · cases h0
    split at h0
    · cases h0
    rw [if_neg ‹_›, if_neg ‹_›]
    refine ⟨g1, g2, ?_, ?_, ?_, g6, g7, fun j hj hk => ?_, fun j hj hk => ?_⟩
    · simp only [List.length_append, List.length_cons, List.length_nil]; omega
    · simp only; omega
    · simp only; omega
    · simp only at hk ⊢
      rw [getD_append_one] at hk ⊢
      split at hk
      · rw [if_pos ‹_›]; exact g8 j ‹_› hk
      · rename_i hj2
        rw [if_neg hj2]
        split at hk
        · rw [if_pos ‹_›]; simp only; omega
        · simp at hj; omega
    · simp only at hk ⊢
      rw [getD_append_one] at hk ⊢
      split at hk
      · rw [if_pos ‹_›]; exact g9 j ‹_› hk
      · rename_i hj2
        rw [if_neg hj2]
        split at hk
        · cases hk
        · simp at hj; omega
  rw [if_neg ‹_›]
  have hl : a.n.toNat < x.wire.length → (x.wire.eraseIdx a.n.toNat).length = x.wire.length - 1 := fun hh => by rw [List.length_eraseIdx]; split <;> omega
  split at h0
  · rw [if_pos ‹_›]; exact good_arrived hg (by omega)
  rw [if_neg ‹_›]
  split at h0
  · rw [if_pos ‹_›]
    have hn : a.n.toNat < x.wire.length := by omega
    have hl := hl hn
    refine ⟨g1, g2, by simp only; omega, g4, g5, g6, g7, fun j hj hk => ?_, fun j hj hk => ?_⟩
    · simp only at hk ⊢ hj
      rw [getD_eraseIdx] at hk ⊢
      split at hk
      · rw [if_pos ‹_›]; exact g8 j (by omega) hk
      · rw [if_neg ‹_›]; exact g8 (j + 1) (by omega) hk
    · simp only at hk ⊢ hj
      rw [getD_eraseIdx] at hk ⊢
      split at hk
      · rw [if_pos ‹_›]; exact g9 j (by omega) hk
      · rw [if_neg ‹_›]; exact g9 (j + 1) (by omega) hk
  rw [if_neg ‹_›]
  split at h0
  · rw [if_pos ‹_›]
    split at h0
    · cases h0
    rw [if_neg ‹_›]
    have hn : a.n.toNat < x.wire.length := by omega
    refine ⟨g1, g2, ?_, g4, g5, g6, g7, fun j hj hk => ?_, fun j hj hk => ?_⟩
    · simp only [List.length_append, List.length_cons, List.length_nil]; omega
    · simp only at hk ⊢
      rw [getD_append_one] at hk ⊢
      split at hk
      · rw [if_pos ‹_›]; exact g8 j ‹_› hk
      · rename_i hj2
        rw [if_neg hj2]
        split at hk
        · rw [if_pos ‹_›]; exact g8 _ hn hk
        · simp at hj; omega
    · simp only at hk ⊢
      rw [getD_append_one] at hk ⊢
      split at hk
      · rw [if_pos ‹_›]; exact g9 j ‹_› hk
      · rename_i hj2
        rw [if_neg hj2]
        split at hk
        · rw [if_pos ‹_›]; exact g9 _ hn hk
        · simp at hj; omega
  rw [if_neg ‹_›]
  split at h0
  · cases h0
  rw [if_neg ‹_›]
  exact ⟨g1, g2, g3, g6, by simp only; omega, g6, g7, g8, g9⟩
def actC (x : Remote) (a : RAct) : Remote × Int := if remoteErr x ≠ 0 then (zRemote, remoteErr x) else actR x a
theorem act_ext (a b : RAct) : a = b ↔ a.kind = b.kind ∧ a.n = b.n ∧ a.entry = b.entry := by
  cases a; cases b; simp
theorem waits_iff {x : Remote} (h1 : x.acked ≤ x.target.length) (h2 : x.target.length ≤ x.source.length) : waits x = true ↔ (x.sync = true ∧ x.acked < x.source.length) ∧
    ((x.source.getD (x.source.length - 1) zEntry).kind = 2 ∨ (x.source.getD (x.source.length - 1) zEntry).kind = 0 ∧ (x.source.getD (x.source.length - 1) zEntry).unit = 0) := by
  unfold waits
  simp only [Bool.and_eq_true, Bool.or_eq_true, decide_eq_true_eq, ne_eq]
  constructor
  · rintro ⟨⟨a, b⟩, c⟩; exact ⟨⟨a, by omega⟩, c⟩
  · rintro ⟨⟨a, b⟩, c⟩; exact ⟨⟨a, by omega⟩, c⟩
theorem appendedR_err {x : Remote} {e : Entry} (h : (appendedR x e).2 ≠ 0) : (appendedR x e).1 = zRemote := by
  unfold appendedR at h ⊢
  (repeat' split) <;> simp_all
theorem appendedR_ok {x : Remote} {e : Entry} (h : (appendedR x e).2 = 0) : (appendedR x e).1 = { x with source := x.source ++ [{ e with number := x.source.length + 1 }] } := by
  unfold appendedR at h ⊢
  (repeat' split) <;> simp_all
theorem actR_err {x : Remote} {a : RAct} (h : (actR x a).2 ≠ 0) : (actR x a).1 = zRemote := by
  unfold actR at h ⊢
  split at h
  · rw [if_pos ‹_›]
  rw [if_neg ‹_›]
  split at h
  · rw [if_pos ‹_›]
  rw [if_neg ‹_›]
  split at h
  · rw [if_pos ‹_›]
  rw [if_neg ‹_›]
  split at h
  · rw [if_pos ‹_›]; exact appendedR_err h
  rw [if_neg ‹_›]
  split at h
  · rw [if_pos ‹_›]
    split at h
    · rw [if_pos ‹_›]
    rw [if_neg ‹_›]
    split at h
    · rw [if_pos ‹_›]
    exact absurd rfl h
  rw [if_neg ‹_›]
  split at h
  · exact absurd rfl h
  rw [if_neg ‹_›]
  split at h
  · exact absurd rfl h
  rw [if_neg ‹_›]
  split at h
  · rw [if_pos ‹_›]
    split at h
    · rw [if_pos ‹_›]
    exact absurd rfl h
  rw [if_neg ‹_›]
  split at h
  · rw [if_pos ‹_›]
  exact absurd rfl h
theorem actR_ok {x : Remote} {a : RAct} (h : (actR x a).2 = 0) : 0 ≤ a.kind ∧ a.kind < 6 ∧ (a.kind = 2 ∨ a.kind = 3 ∨ a.kind = 4 → 0 ≤ a.n ∧ a.n < (x.wire.length : Int)) ∧
    (actR x a).1 = (if a.kind = 0 then { x with source := x.source ++ [{ a.entry with number := x.source.length + 1 }] }
      else if a.kind = 1 then { x with sent := x.sent + 1, wire := x.wire ++ [⟨0, x.sent + 1⟩] }
      else if a.kind = 2 then arrivedR { x with wire := x.wire.eraseIdx a.n.toNat } (x.wire.getD a.n.toNat zPacket)
      else if a.kind = 3 then { x with wire := x.wire.eraseIdx a.n.toNat }
      else if a.kind = 4 then { x with wire := x.wire ++ [x.wire.getD a.n.toNat zPacket] }
      else { x with sent := x.acked }) := by
  unfold actR at h ⊢
  split at h
  · cases h
  split at h
  · cases h
  split at h
  · cases h
  rename_i k1 k2 k3
  rw [if_neg k1, if_neg k2, if_neg k3]
  refine ⟨by omega, by omega, by omega, ?_⟩
  by_cases e0 : a.kind = 0
  · rw [if_pos e0] at h ⊢; rw [if_pos e0]; exact appendedR_ok h
  rw [if_neg e0] at h ⊢; rw [if_neg e0]
  by_cases e1 : a.kind = 1
  · rw [if_pos e1] at h ⊢; rw [if_pos e1]
    split at h
    · cases h
    rename_i q1
    split at h
    · cases h
    rename_i q2
    rw [if_neg q1, if_neg q2]
  rw [if_neg e1] at h ⊢; rw [if_neg e1]
  by_cases e2 : a.kind = 2
  · rw [if_pos e2, if_pos e2]
  rw [if_neg e2] at h ⊢; rw [if_neg e2]
  by_cases e3 : a.kind = 3
  · rw [if_pos e3, if_pos e3]
  rw [if_neg e3] at h ⊢; rw [if_neg e3]
  by_cases e4 : a.kind = 4
  · rw [if_pos e4] at h ⊢; rw [if_pos e4]
    split at h
    · cases h
    rename_i q1
    rw [if_neg q1]
  rw [if_neg e4] at h ⊢; rw [if_neg e4]
  split at h
  · cases h
  rename_i q1
  rw [if_neg q1]
theorem take_erase {l : List Packet} {n : Nat} (h : n < l.length) : List.take (n + (l.length - (n + 1))) (List.map encPacket (List.take n l) ++ List.map encPacket (List.take (l.length - (n + 1)) (List.drop (n + 1) l)) ++ List.map encPacket (List.drop (n + (l.length - (n + 1))) l)) = List.map encPacket (l.eraseIdx n) := by
  rw [← List.map_append, ← List.map_append, ← List.map_take, List.take_left' (by simp; omega), List.eraseIdx_eq_take_drop_succ, List.take_of_length_le (i := l.length - (n + 1)) (by simp)]
/-! ## Right systems stay right -/
def pktOk (ns nt : Nat) (p : Packet) : Prop := (p.kind = 0 ∨ p.kind = 1) ∧ (p.kind = 0 → 1 ≤ p.number ∧ p.number ≤ (ns : Int)) ∧ (p.kind = 1 → 0 ≤ p.number ∧ p.number ≤ (nt : Int))
theorem wireErr_iff {ns nt : Nat} : ∀ {l : List Packet}, wireErr ns nt l = 0 ↔ ∀ p ∈ l, pktOk ns nt p
  | [] => by simp [wireErr]
  | p :: l => by
    rw [List.forall_mem_cons, ← wireErr_iff (l := l), wireErr]
    unfold pktOk
    constructor
    · intro h
      split at h
      · cases h
      · split at h
        · cases h
        · exact ⟨by omega, h⟩
    · rintro ⟨h1, h2⟩
      rw [if_neg (by omega), if_neg (by omega)]; exact h2
structure rightR (x : Remote) : Prop where
  c : (check x.source).2 = 0
  n : x.source.length ≤ 40
  f : 0 < x.source.length → (x.source.getD 0 zEntry).number = 1
  t : x.target.length ≤ x.source.length
  b : x.source.take x.target.length = x.target
  s0 : 0 ≤ x.sent
  s1 : x.sent ≤ (x.source.length : Int)
  a0 : 0 ≤ x.acked
  a1 : x.acked ≤ (x.target.length : Int)
  a2 : x.acked ≤ x.sent
  w : x.wire.length ≤ 12
  p : ∀ p ∈ x.wire, pktOk x.source.length x.target.length p
theorem remoteErr_iff {x : Remote} : remoteErr x = 0 ↔ rightR x := by
  constructor
  · intro h
    unfold remoteErr at h
    split at h
    · exact absurd h ‹_›
    split at h
    · cases h
    split at h
    · cases h
    split at h
    · cases h
    split at h
    · cases h
    split at h
    · cases h
    rename_i h1 h2 h3 h4 h5 h6
    simp only [Bool.not_eq_false, beginsWith, Bool.and_eq_true, decide_eq_true_eq] at h4
    exact ⟨by omega, by omega, fun hl => by omega, h4.1, h4.2, by omega, by omega, by omega, by omega, by omega, by omega, wireErr_iff.1 h⟩
  · rintro ⟨h1, h2, h3, h4, h5, h6, h7, h8, h9, h10, h11, h12⟩
    unfold remoteErr
    rw [if_neg (by omega), if_neg (by omega), if_neg (fun h => h.2 (h3 h.1)), if_neg (by simp [beginsWith, h4, h5]), if_neg (by omega), if_neg (by omega)]
    exact wireErr_iff.2 h12
theorem rightR.err {x : Remote} (h : rightR x) : remoteErr x = 0 := remoteErr_iff.2 h
theorem pktOk.mono {ns nt ns' nt' : Nat} {p : Packet} (h : pktOk ns nt p) (h1 : ns ≤ ns') (h2 : nt ≤ nt') : pktOk ns' nt' p := by
  unfold pktOk at h ⊢
  omega
theorem getD_take_one {l : List Entry} {n : Nat} (h : n < l.length) : l.take (n + 1) = l.take n ++ [l.getD n zEntry] := take_getD zEntry h
theorem mem_erase {α : Type} {l : List α} {n : Nat} {x : α} (h : x ∈ l.eraseIdx n) : x ∈ l := List.mem_of_mem_eraseIdx h
theorem right_arrived {x : Remote} {n : Nat} (h : rightR x) (hn : n < x.wire.length) : rightR (arrivedR { x with wire := x.wire.eraseIdx n } (x.wire.getD n zPacket)) := by
  have hp := h.p _ (getD_mem zPacket hn)
  obtain ⟨h1, h2, h3, h4, h5, h6, h7, h8, h9, h10, h11, h12⟩ := h
  have hl : (x.wire.eraseIdx n).length = x.wire.length - 1 := by rw [List.length_eraseIdx]; split <;> omega
  generalize x.wire.getD n zPacket = p at hp ⊢
  unfold arrivedR
  unfold pktOk at hp
  split
  · refine ⟨h1, h2, h3, h4, h5, ?_, ?_, ?_, ?_, ?_, by simp only; omega, fun q hq => h12 q (mem_erase hq)⟩ <;> simp only <;> (repeat' split) <;> omega
  · rename_i hk
    have hq0 : ∀ t' : List Entry, x.target.length ≤ t'.length → ∀ q ∈ (if (x.wire.eraseIdx n).length < 12 then x.wire.eraseIdx n ++ [⟨1, (t'.length : Int)⟩] else x.wire.eraseIdx n), pktOk x.source.length t'.length q := fun t' ht q hq => by
      split at hq
      · rcases List.mem_append.1 hq with hq | hq
        · exact (h12 q (mem_erase hq)).mono (Nat.le_refl _) ht
        · rw [List.mem_singleton] at hq
          subst hq
          unfold pktOk
          simp
      · exact (h12 q (mem_erase hq)).mono (Nat.le_refl _) ht
    have hw : ∀ t' : List Entry, (if (x.wire.eraseIdx n).length < 12 then x.wire.eraseIdx n ++ [⟨1, (t'.length : Int)⟩] else x.wire.eraseIdx n).length ≤ 12 := fun t' => by
      split
      · rw [List.length_append]; simp; omega
      · omega
    by_cases he : p.number = x.target.length + 1
    · have hlt : x.target.length < x.source.length := by omega
      have hl2 : (x.target ++ [x.source.getD (p.number - 1).toNat zEntry]).length = x.target.length + 1 := by simp
      simp only [he, if_true]
      rw [he] at hl2
      refine ⟨h1, h2, h3, ?_, ?_, h6, h7, h8, ?_, h10, hw _, hq0 _ ?_⟩
      · simp only; omega
      · simp only
        rw [hl2, getD_take_one hlt, h5]
        congr 3
        omega
      · simp only; omega
      · omega
    · simp only [he, if_false]
      exact ⟨h1, h2, h3, h4, h5, h6, h7, h8, h9, h10, hw _, hq0 _ (Nat.le_refl _)⟩
theorem right_appended {x : Remote} {e : Entry} (h : rightR x) (h0 : (appendedR x e).2 = 0) : rightR (appendedR x e).1 := by
  obtain ⟨h1, h2, h3, h4, h5, h6, h7, h8, h9, h10, h11, h12⟩ := h
  have hs := appendedR_ok h0
  rw [hs]
  unfold appendedR at h0
  split at h0
  · cases h0
  split at h0
  · cases h0
  split at h0
  · cases h0
  split at h0
  · exact absurd h0 ‹_›
  rename_i k1 k2 k3 k4
  have hl : (x.source ++ [{ e with number := (x.source.length : Int) + 1 }]).length = x.source.length + 1 := by simp
  refine ⟨by simpa using k4, by rw [hl]; omega, fun _ => ?_, by simp only [hl]; omega, ?_, h6, by simp only [hl]; omega, h8, h9, h10, h11, fun p hp => (h12 p hp).mono (by simp only [hl]; omega) (Nat.le_refl _)⟩
  · rw [getD_append_one]
    by_cases hz : 0 < x.source.length
    · rw [if_pos hz]; exact h3 hz
    · rw [if_neg hz, if_pos (by omega)]; simp only; omega
  · simp only
    rw [List.take_append_of_le_length h4, h5]
theorem right_act {x : Remote} {a : RAct} (h : rightR x) (h0 : (actR x a).2 = 0) : rightR (actR x a).1 := by
  obtain ⟨q1, q2, q3, q4⟩ := actR_ok h0
  have hg := h
  obtain ⟨h1, h2, h3, h4, h5, h6, h7, h8, h9, h10, h11, h12⟩ := h
  unfold actR at h0
  split at h0
  · cases h0
  split at h0
  · cases h0
  split at h0
  · cases h0
  by_cases e0 : a.kind = 0
  · rw [if_pos e0] at h0
    have := right_appended hg h0
    rw [q4, if_pos e0]
    rwa [appendedR_ok h0] at this
  rw [if_neg e0] at h0
  rw [q4, if_neg e0]
  by_cases e1 : a.kind = 1
  · rw [if_pos e1] at h0 ⊢
    split at h0
    · cases h0
    split at h0
    · cases h0
    refine ⟨h1, h2, h3, h4, h5, by simp only; omega, by simp only; omega, h8, h9, by simp only; omega, ?_, fun p hp => ?_⟩
    · simp only [List.length_append, List.length_cons, List.length_nil]; omega
    · rcases List.mem_append.1 hp with hp | hp
      · exact h12 p hp
      · rw [List.mem_singleton] at hp
        subst hp
        exact ⟨.inl rfl, fun _ => by simp only; omega, fun h => by cases h⟩
  rw [if_neg e1] at h0 ⊢
  by_cases e2 : a.kind = 2
  · rw [if_pos e2]
    exact right_arrived hg (by omega)
  rw [if_neg e2] at h0 ⊢
  by_cases e3 : a.kind = 3
  · rw [if_pos e3]
    refine ⟨h1, h2, h3, h4, h5, h6, h7, h8, h9, h10, ?_, fun p hp => h12 p (mem_erase hp)⟩
    simp only
    rw [List.length_eraseIdx]; split <;> omega
  rw [if_neg e3] at h0 ⊢
  by_cases e4 : a.kind = 4
  · rw [if_pos e4] at h0 ⊢
    split at h0
    · cases h0
    refine ⟨h1, h2, h3, h4, h5, h6, h7, h8, h9, h10, ?_, fun p hp => ?_⟩
    · simp only [List.length_append, List.length_cons, List.length_nil]; omega
    · rcases List.mem_append.1 hp with hp | hp
      · exact h12 p hp
      · rw [List.mem_singleton] at hp
        subst hp
        exact h12 _ (getD_mem zPacket (by omega))
  rw [if_neg e4]
  exact ⟨h1, h2, h3, h4, h5, h8, by simp only; omega, h8, h9, Int.le_refl _, h11, h12⟩
theorem err_act {x : Remote} {a : RAct} (h : remoteErr x = 0) (h0 : (actR x a).2 = 0) : remoteErr (actR x a).1 = 0 := remoteErr_iff.2 (right_act (remoteErr_iff.1 h) h0)
theorem actC_of {x : Remote} (h : remoteErr x = 0) (a : RAct) : actC x a = actR x a := by rw [actC, if_neg (by omega)]
theorem remote_ext (a b : Remote) : a = b ↔ a.sync = b.sync ∧ a.source = b.source ∧ a.target = b.target ∧ a.sent = b.sent ∧ a.acked = b.acked ∧ a.wire = b.wire := by
  cases a; cases b; simp
theorem fewGo_len : ∀ {l : List Entry} {i : Nat}, fewGo i l = true → i ≤ 82 → l.length + i ≤ 82
  | [], i, _, h => by simpa using h
  | e :: l, i, h, hi => by
    simp only [fewGo, Bool.and_eq_true, decide_eq_true_eq] at h
    have := fewGo_len h.2 (by omega)
    simp only [List.length_cons]; omega
theorem few35_len {l : List Entry} (h : few35 l = true) : l.length ≤ 82 := fewGo_len h (by omega)
theorem few36_PR {x : Remote} (h : few36 x = true) : x.source.length ≤ 1000000 ∧ x.target.length ≤ 1000000 ∧ x.wire.length ≤ 1000000 := by
  simp only [few36, Bool.and_eq_true, decide_eq_true_eq] at h
  have h1 := few35_len h.1.1
  have h2 := few35_len h.1.2
  omega
theorem lightGo_len : ∀ {l : List RAct} {i : Nat}, lightGo i l = true → i ≤ 82 → l.length + i ≤ 82
  | [], i, _, h => by simpa using h
  | e :: l, i, h, hi => by
    simp only [lightGo, Bool.and_eq_true, decide_eq_true_eq] at h
    have := lightGo_len h.2 (by omega)
    simp only [List.length_cons]; omega
theorem light_len {l : List RAct} (h : light l = true) : l.length ≤ 1000000 := by
  have := lightGo_len h (by omega); omega
theorem nc0 : ((0 : Nat) : Int) = 0 := rfl
theorem nc1 : ((1 : Nat) : Int) = 1 := rfl
theorem nc2 : ((2 : Nat) : Int) = 2 := rfl
theorem awRun : runR zRemote [⟨0, 0, ⟨0, 5, 0, zChange⟩⟩, ⟨0, 0, ⟨0, 5, 0, zChange⟩⟩, ⟨1, 0, zEntry⟩, ⟨1, 0, zEntry⟩, ⟨3, 0, zEntry⟩, ⟨2, 0, zEntry⟩, ⟨5, 0, zEntry⟩] =
    (⟨false, [⟨1, 5, 0, zChange⟩, ⟨2, 5, 0, zChange⟩], [], 0, 0, [⟨1, 0⟩]⟩, 7, 0) := by decide +kernel
theorem right_PR {x : Remote} (h : remoteErr x = 0) : x.source.length ≤ 1000000 ∧ x.target.length ≤ 1000000 ∧ x.wire.length ≤ 1000000 := by
  have g := remoteErr_good h
  have h1 := g.s; have h2 := g.t; have h3 := g.w
  omega
theorem runGo_PR : ∀ {l : List RAct} {x : Remote} {i : Nat}, remoteErr x = 0 → (runGo x i l).1.source.length ≤ 1000000 ∧ (runGo x i l).1.target.length ≤ 1000000 ∧ (runGo x i l).1.wire.length ≤ 1000000
  | [], x, i, h => right_PR h
  | a :: l, x, i, h => by
    unfold runGo
    split
    · simp [zRemote]
    · exact runGo_PR (err_act h (by simpa using ‹¬(actR x a).2 ≠ 0›))
theorem runR_PR (x : Remote) (l : List RAct) : (runR x l).1.source.length ≤ 1000000 ∧ (runR x l).1.target.length ≤ 1000000 ∧ (runR x l).1.wire.length ≤ 1000000 := by
  unfold runR
  split
  · simp [zRemote]
  split
  · simp [zRemote]
  exact runGo_PR (by simpa using ‹¬remoteErr x ≠ 0›)
theorem actC_PR (x : Remote) (a : RAct) : (actC x a).1.source.length ≤ 1000000 ∧ (actC x a).1.target.length ≤ 1000000 ∧ (actC x a).1.wire.length ≤ 1000000 := by
  by_cases h : remoteErr x = 0
  · rw [actC_of h]
    by_cases h2 : (actR x a).2 = 0
    · exact right_PR (err_act h h2)
    · rw [actR_err h2]; simp [zRemote]
  · rw [actC, if_pos h]; simp [zRemote]
end Go.Ev

namespace Go.Ev

/-! ## A family of boxes: box k has the name fnm k -/
theorem fnm_ex0 (B : Nat) : ∃ p : (Nat → Nat) × (Nat → Option Nat), (∀ k, B ≤ p.1 k) ∧ (∀ k, p.2 (p.1 k) = some k) ∧ ∀ i k, p.2 i = some k → i = p.1 k := by
  refine ⟨(fun k => k + B, fun i => if B ≤ i then some (i - B) else none), fun k => Nat.le_add_left _ _, fun k => ?_, fun i k h => ?_⟩
  · show (if _ then _ else _) = _
    rw [if_pos (Nat.le_add_left _ _), Nat.add_sub_cancel]
  · have h : (if B ≤ i then some (i - B) else none) = some k := h
    show i = k + B
    split at h
    · cases h; omega
    · cases h
theorem fnm_ex : ∃ p : (Nat → Nat) × (Nat → Option Nat), (∀ k, 1000000 ≤ p.1 k) ∧ (∀ k, p.2 (p.1 k) = some k) ∧ ∀ i k, p.2 i = some k → i = p.1 k := fnm_ex0 1000000
noncomputable def fnm : Nat → Nat := (Classical.choose fnm_ex).1
noncomputable def finv : Nat → Option Nat := (Classical.choose fnm_ex).2
theorem fnm_ge (k : Nat) : 1000000 ≤ fnm k := (Classical.choose_spec fnm_ex).1 k
theorem finv_fnm (k : Nat) : finv (fnm k) = some k := (Classical.choose_spec fnm_ex).2.1 k
theorem fnm_finv {i k : Nat} (h : finv i = some k) : i = fnm k := (Classical.choose_spec fnm_ex).2.2 i k h
theorem fnm_inj {j k : Nat} : (fnm j = fnm k) = (j = k) := by
  refine propext ⟨fun h => ?_, fun h => by rw [h]⟩
  have := finv_fnm j
  rw [h, finv_fnm] at this
  exact (Option.some.inj this).symm
theorem lit_fnm {i k : Nat} (h : i < 1000000) : (i = fnm k) = False := by
  refine propext ⟨fun e => ?_, False.elim⟩
  have := fnm_ge k
  omega
theorem fnm_lit {i k : Nat} (h : i < 1000000) : (fnm k = i) = False := by
  refine propext ⟨fun e => ?_, False.elim⟩
  have := fnm_ge k
  omega
noncomputable def famF (t : TypeId) : Nat → List (List D) → List (Nat × HS)
  | _, [] => []
  | k, c :: r => (fnm k, .live (.box t (c.map .d))) :: famF t (k + 1) r
noncomputable def fam (t : TypeId) (cs : List (List D)) : List (Nat × HS) := famF t 0 cs
noncomputable def ptrs (n : Nat) : List V := (List.range n).map fun k => .ptr (fnm k) 0

theorem aget_famF {t : TypeId} : ∀ {cs : List (List D)} {j k : Nat}, aget (famF t j cs) (fnm k) = if j ≤ k then (cs[k - j]?).map fun c => HS.live (.box t (c.map .d)) else none
  | [], j, k => by simp [famF, aget]
  | c :: r, j, k => by
    simp only [famF, aget, fnm_inj]
    by_cases e : k = j
    · subst e; simp
    · rw [if_neg e, aget_famF]
      by_cases h : j ≤ k
      · rw [if_pos h, if_pos (by omega), show k - j = (k - (j + 1)) + 1 by omega, List.getElem?_cons_succ]
      · rw [if_neg h, if_neg (by omega)]
theorem aget_famF_no {t : TypeId} {i : Nat} (h : ∀ k, i ≠ fnm k) : ∀ {cs : List (List D)} {j : Nat}, aget (famF t j cs) i = none
  | [], j => rfl
  | c :: r, j => by
    simp only [famF, aget]
    rw [if_neg (h j), aget_famF_no h]
theorem aget_famF_lt {t : TypeId} {i : Nat} (h : i < 1000000) {cs : List (List D)} {j : Nat} : aget (famF t j cs) i = none :=
  aget_famF_no fun k e => by have := fnm_ge k; omega
theorem aget_fam {t : TypeId} {cs : List (List D)} {k : Nat} : aget (fam t cs) (fnm k) = (cs[k]?).map fun c => HS.live (.box t (c.map .d)) := by
  unfold fam; rw [aget_famF]; simp
theorem aget_fam_lt {t : TypeId} {cs : List (List D)} {i : Nat} (h : i < 1000000) : aget (fam t cs) i = none := aget_famF_lt h
theorem fam_nil {t : TypeId} : fam t [] = [] := rfl
theorem ptrs_zero : ptrs 0 = [] := rfl
theorem ptrs_get {n k : Nat} (h : k < n) : (ptrs n).getD k (.d .np) = .ptr (fnm k) 0 := by
  simp [ptrs, List.getD, h]
theorem vss_d {ρ : Nat → Option Nat} {nf : Nat → Prop} : ∀ (l : List D), vss ρ nf (l.map .d) (l.map .d)
  | [] => trivial
  | d :: l => by
    simp only [List.map_cons, vss, vs]
    exact ⟨dle_refl d, vss_d l⟩
theorem vss_ptr {ρ : Nat → Option Nat} {nf : Nat → Prop} {f g : Nat → Nat} : ∀ (l : List Nat), (∀ k ∈ l, ρ (g k) = some (f k) ∧ nf (g k)) → vss ρ nf (l.map fun k => .ptr (f k) 0) (l.map fun k => .ptr (g k) 0)
  | [], _ => trivial
  | k :: l, h => by
    simp only [List.map_cons, vss, vs]
    exact ⟨⟨_, rfl, h k (by simp)⟩, vss_ptr l fun j hj => h j (by simp [hj])⟩

/-- At a loop's head: a map to boxes, which get the family's names. -/
theorem sub_fam {C : Cfg} {M T t : Nat} (hM : M < 1000000) (hp0 : C.pins = []) {sl sl' : List (Nat × V)} {hp : List (Nat × HS)} {ks : List D} {cs : List (List D)} (r : Nat → Nat)
    (hmap : aget hp M = some (.live (.mp T ks ((List.range cs.length).map fun k => .ptr (r k) 0))))
    (hbox : ∀ k c, cs[k]? = some c → aget hp (r k) = some (.live (.box t (c.map .d))))
    (hr : ∀ k k', k < cs.length → k' < cs.length → r k = r k' → k = k') (hrM : ∀ k, k < cs.length → r k ≠ M)
    (hs : ∀ (ρ : Nat → Option Nat) (nf : Nat → Prop), ρ M = some M → nf M → slSub ρ nf sl sl') :
    Sub C (mkS sl hp) (mkS sl' ((M, .live (.mp T ks (ptrs cs.length))) :: fam t cs)) := by
  let ρ : Nat → Option Nat := fun i => if i = M then some M else match finv i with | some k => if k < cs.length then some (r k) else none | none => none
  have e1 : ρ M = some M := if_pos rfl
  have e2 : ∀ k, k < cs.length → ρ (fnm k) = some (r k) := fun k hk => by
    show (if _ then _ else match finv (fnm k) with | some k => if k < cs.length then some (r k) else none | none => none) = _
    rw [if_neg (by rw [fnm_lit hM]; exact id), finv_fnm]
    exact if_pos hk
  have hp1 : ∀ k, k < cs.length → ∃ c, cs[k]? = some c ∧ (mkS sl' ((M, .live (.mp T ks (ptrs cs.length))) :: fam t cs)).hp (fnm k) = .live (.box t (c.map .d)) := fun k hk => by
    refine ⟨cs[k], by simp [hk], ?_⟩
    show (aget _ _).getD HS.free = _
    simp only [aget, fnm_lit hM, if_false]
    rw [aget_fam]; simp [hk]
  have hpM : (mkS sl' ((M, .live (.mp T ks (ptrs cs.length))) :: fam t cs)).hp M = .live (.mp T ks (ptrs cs.length)) := by
    show (aget _ _).getD HS.free = _
    simp [aget]
  have nfM : Nf (mkS sl' ((M, .live (.mp T ks (ptrs cs.length))) :: fam t cs)).hp M := by unfold Nf; rw [hpM]; rfl
  have nfk : ∀ k, k < cs.length → Nf (mkS sl' ((M, .live (.mp T ks (ptrs cs.length))) :: fam t cs)).hp (fnm k) := fun k hk => by
    obtain ⟨c, _, h⟩ := hp1 k hk
    unfold Nf; rw [h]; rfl
  refine SubBy.sub (ρ := ρ) ⟨fun i y hy => ?_, fun i o' ho' => ?_, fun i j a hi hj => ?_⟩ (by rw [hp0]; intro p hp; cases hp)
  · exact slSub_mem (hs ρ _ e1 nfM) (aget_mem hy)
  · by_cases e : i = M
    · subst e
      rw [hpM] at ho' ⊢
      cases ho'
      refine .inl ⟨i, _, e1, by show ((aget hp i).getD HS.free).obj? = _; rw [hmap]; rfl, ?_, fun _ => by show ((aget hp i).getD HS.free).isLive = true; rw [hmap]; rfl⟩
      simp only [os]
      exact ⟨trivial, dles_refl _, vss_ptr _ fun k hk => ⟨e2 k (by simpa using hk), nfk k (by simpa using hk)⟩⟩
    · have hno : (∀ k, k < cs.length → i ≠ fnm k) → False := fun h => by
        have hf : (mkS sl' ((M, .live (.mp T ks (ptrs cs.length))) :: fam t cs)).hp i = .free := by
          show (aget _ _).getD HS.free = _
          simp only [aget]
          rw [if_neg e]
          cases hv : finv i with
          | none => rw [show aget (fam t cs) i = none from aget_famF_no fun k e => by rw [e, finv_fnm] at hv; cases hv]; rfl
          | some k =>
            have := fnm_finv hv
            subst this
            rw [aget_fam, List.getElem?_eq_none (Nat.le_of_not_lt fun hl => h k hl rfl)]; rfl
        rw [hf] at ho'; cases ho'
      by_cases h : ∃ k, k < cs.length ∧ i = fnm k
      · obtain ⟨k, hk, rfl⟩ := h
        obtain ⟨c, hc, hh⟩ := hp1 k hk
        rw [hh] at ho' ⊢
        cases ho'
        have hb := hbox k c hc
        refine .inl ⟨r k, _, e2 k hk, by show ((aget hp (r k)).getD HS.free).obj? = _; rw [hb]; rfl, ?_, fun _ => by show ((aget hp (r k)).getD HS.free).isLive = true; rw [hb]; rfl⟩
        simp only [os]
        exact ⟨trivial, vss_d c⟩
      · exact (hno fun k hk e => h ⟨k, hk, e⟩).elim
  · have inv : ∀ i, ρ i = some a → (i = M ∧ a = M) ∨ ∃ k, k < cs.length ∧ i = fnm k ∧ a = r k := fun i hi => by
      have hi : (if i = M then some M else match finv i with | some k => if k < cs.length then some (r k) else none | none => none) = some a := hi
      split at hi
      · cases hi; exact .inl ⟨‹_›, rfl⟩
      · split at hi
        · rename_i k hk
          split at hi
          · cases hi; exact .inr ⟨k, ‹_›, fnm_finv hk, rfl⟩
          · cases hi
        · cases hi
    rcases inv i hi with ⟨h1, h2⟩ | ⟨k, h1, h2, h3⟩ <;> rcases inv j hj with ⟨g1, g2⟩ | ⟨k', g1, g2, g3⟩
    · omega
    · exact absurd (g3.symm.trans h2) (hrM k' g1)
    · exact absurd (h3.symm.trans g2) (hrM k h1)
    · have := hr k k' h1 g1 (h3.symm.trans g3); rw [h2, g2, this]

/-- What the map to the boxes is told as. -/
theorem toDs_fam {s : St} {t : TypeId} {cs : List (List D)} (hs : ∀ k c, cs[k]? = some c → s.hp (fnm k) = .live (.box t (c.map .d))) :
    toDs (toD2 s) (ptrs cs.length) = some (cs.map .cp, (List.range cs.length).map fnm) := by
  have one : ∀ (c : List D), toDs (toD1 s) (c.map .d) = some (c, []) := fun c => by
    induction c with
    | nil => rfl
    | cons d c ih => simp [toDs, toD1, ih]
  have key : ∀ n j, (∀ k, j ≤ k → k < j + n → k < cs.length) → toDs (toD2 s) ((List.range' j n).map fun k => .ptr (fnm k) 0) = some (((cs.drop j).take n).map .cp, (List.range' j n).map fnm) := fun n => by
    induction n with
    | zero => intro j _; simp [toDs]
    | succ n ih =>
      intro j h
      have hj := h j (by omega) (by omega)
      have hc : cs[j]? = some cs[j] := by simp [hj]
      have h2 : toD2 s (.ptr (fnm j) 0) = some (.cp cs[j], [fnm j]) := by
        simp only [toD2, getBox, hs j _ hc]
        rw [one]; rfl
      rw [List.range'_succ, List.map_cons, toDs, h2, ih (j + 1) fun k h1 h2 => h k (by omega) (by omega)]
      rw [List.drop_eq_getElem_cons hj]
      rfl
  have := key cs.length 0 fun k _ h => by omega
  rw [ptrs, List.range_eq_range', this]
  simp
end Go.Ev

namespace Go.Ev

/-! ## The cycles of entries -/
def cellsU (u : AUnit) : List D := [.i .i64 u.unit, .i .i64 u.first, .i .i64 u.last, .i .i64 u.state]
def keyU (u : AUnit) : D := .i .i64 u.unit
def uidx (us : List AUnit) (n : Int) : Option Nat := us.findIdx? (·.unit == n)
def uEnd (e : Entry) (u : AUnit) : AUnit := { u with last := e.number, state := if e.kind = 2 then 0 else if e.kind = 3 then 1 else u.state }
def uStep (us : List AUnit) (e : Entry) : List AUnit :=
  if e.kind = 1 then us ++ [⟨e.unit, e.number, e.number, 2⟩]
  else if e.kind = 2 ∨ e.kind = 3 ∨ (e.kind = 0 ∧ e.unit ≠ 0) then match uidx us e.unit with
    | some k => us.modify k (uEnd e)
    | none => us
  else us
def unitsOf (l : List Entry) : List AUnit := l.foldl uStep []
theorem unitsOf_snoc (l : List Entry) (e : Entry) : unitsOf (l ++ [e]) = uStep (unitsOf l) e := by simp [unitsOf]
theorem unitsOf_take {l : List Entry} {i : Nat} (h : i < l.length) : unitsOf (l.take (i + 1)) = uStep (unitsOf (l.take i)) (l.getD i zEntry) := by
  rw [take_getD zEntry h, unitsOf_snoc]
theorem keyIdx_U (us : List AUnit) (n : Int) : keyIdx (us.map keyU) (.i .i64 n) = uidx us n := by
  unfold uidx
  induction us with
  | nil => rfl
  | cons u us ih =>
    simp only [List.map_cons, keyIdx, keyU, kEq, List.findIdx?_cons]
    by_cases e : (u.unit == n) = true
    · simp [e]
    · simp only [e]
      rw [if_neg (by simp), ih]
      simp

/-- What the units tell of the entries. -/
def UInv (us : List AUnit) (b : List Entry) : Prop := ∀ n, begins b n = (uidx us n).isSome ∧ (begins b n = false → ends? b n = none) ∧ ∀ k u, uidx us n = some k → us[k]? = some u → (u.state = 2 ↔ ends? b n = none)
theorem uidx_some {us : List AUnit} {n : Int} {k : Nat} (h : uidx us n = some k) : ∃ u, us[k]? = some u ∧ u.unit = n ∧ k < us.length := by
  unfold uidx at h
  rw [List.findIdx?_eq_some_iff_getElem] at h
  obtain ⟨h1, h2, _⟩ := h
  exact ⟨us[k], by simp [h1], by simpa using h2, h1⟩
theorem ends_none {b : List Entry} {n : Int} (hk : ∀ e ∈ b, e.kind ≠ -1) : ends b n = -1 ↔ ends? b n = none := by
  unfold ends
  cases h : ends? b n with
  | none => simp
  | some e =>
    simp only [reduceCtorEq, iff_false]
    exact hk e (List.mem_of_find?_eq_some h)
theorem ends_none' {b : List Entry} {n : Int} : ends b n = -1 ↔ ends? b n = none := by
  unfold ends
  cases h : ends? b n with
  | none => simp
  | some e =>
    have := List.find?_some h
    simp only [pEnd, Bool.and_eq_true, Bool.or_eq_true, beq_iff_eq] at this
    simp only [reduceCtorEq, iff_false]
    omega
theorem isOpen_iff {b : List Entry} {n : Int} : isOpen b n = true ↔ begins b n = true ∧ ends? b n = none := by
  unfold isOpen
  rw [Bool.and_eq_true, beq_iff_eq, ends_none']
theorem UInv.nil : UInv [] [] := fun n => ⟨rfl, fun _ => rfl, fun k u h => by cases h⟩
theorem UInv.isOpen {us : List AUnit} {b : List Entry} (h : UInv us b) (n : Int) : isOpen b n = match uidx us n with | some k => decide ((us.getD k ⟨0, 0, 0, 0⟩).state = 2) | none => false := by
  obtain ⟨h1, h2, h3⟩ := h n
  rw [Bool.eq_iff_iff, isOpen_iff, h1]
  cases hu : uidx us n with
  | none => simp
  | some k =>
    obtain ⟨u, hk, _, hl⟩ := uidx_some hu
    simp [← h3 k u hu hk, List.getD, hk]
theorem UInv.begins {us : List AUnit} {b : List Entry} (h : UInv us b) (n : Int) : begins b n = (uidx us n).isSome := (h n).1
theorem begins_snoc (b : List Entry) (e : Entry) (n : Int) : begins (b ++ [e]) n = (begins b n || pBegin n e) := by simp [Go.Ev.begins]
theorem ends_snoc (b : List Entry) (e : Entry) (n : Int) : ends? (b ++ [e]) n = none ↔ ends? b n = none ∧ pEnd n e = false := by
  simp [ends?, List.find?_append, List.find?_cons]
  cases pEnd n e <;> simp
theorem uidx_modify (us : List AUnit) (k : Nat) (e : Entry) (n : Int) : uidx (us.modify k (uEnd e)) n = uidx us n := by
  unfold uidx
  induction us generalizing k with
  | nil => simp
  | cons u us ih =>
    cases k with
    | zero => simp [List.findIdx?_cons, uEnd]
    | succ k => simp only [List.modify_succ_cons, List.findIdx?_cons]; rw [ih]
theorem UInv.step {us : List AUnit} {b : List Entry} {e : Entry} (h : UInv us b) (h0 : stateErr b e = 0) : UInv (uStep us e) (b ++ [e]) := by
  intro n
  obtain ⟨h1, h2, h3⟩ := h n
  rw [begins_snoc, ends_snoc]
  unfold stateErr at h0
  unfold uStep
  by_cases k1 : e.kind = 1
  · rw [if_pos k1] at h0 ⊢
    have hb : Go.Ev.begins b e.unit = false := by
      split at h0
      · cases h0
      · split at h0
        · cases h0
        · simpa using ‹¬Go.Ev.begins b e.unit = true›
    have hu : uidx us e.unit = none := by
      have := (h e.unit).1
      rw [hb] at this
      cases hx : uidx us e.unit with
      | none => rfl
      | some _ => rw [hx] at this; cases this
    have hp : pEnd n e = false := by simp [pEnd, k1]
    have ha : uidx (us ++ [⟨e.unit, e.number, e.number, 2⟩]) n = (uidx us n <|> if e.unit = n then some us.length else none) := by
      unfold uidx
      rw [List.findIdx?_append]
      by_cases en : e.unit = n
      · simp [en, List.findIdx?_cons]
      · simp [en, List.findIdx?_cons]
    rw [ha]
    by_cases en : e.unit = n
    · subst en
      rw [hu]
      simp only [hb, pBegin, k1, hp, if_pos, Option.isSome_some, Bool.false_or, beq_self_eq_true, Bool.and_self, true_and, and_true]
      refine ⟨rfl, fun hf => by simp at hf, fun k u hk hu2 => ?_⟩
      rw [show (none <|> some us.length : Option Nat) = some us.length from rfl] at hk
      cases hk
      rw [List.getElem?_append_right (Nat.le_refl _)] at hu2
      simp at hu2
      subst hu2
      simp [h2 (by rw [hb])] <;> first | exact (h e.unit).2.1 hb | skip
    · simp only [en, if_false, pBegin, hp]
      rw [show (uidx us n <|> none) = uidx us n by cases uidx us n <;> rfl]
      have en2 : (e.unit == n) = false := by simpa using en
      simp only [en2, Bool.and_false, Bool.or_false, and_true]
      refine ⟨h1, h2, fun k u hk hu2 => ?_⟩
      obtain ⟨_, _, _, hl⟩ := uidx_some hk
      rw [List.getElem?_append_left hl] at hu2
      exact h3 k u hk hu2
  · rw [if_neg k1] at h0 ⊢
    have hpb : pBegin n e = false := by simp [pBegin, k1]
    rw [hpb, Bool.or_false]
    by_cases k2 : e.kind = 2 ∨ e.kind = 3 ∨ (e.kind = 0 ∧ e.unit ≠ 0)
    · rw [if_pos k2]
      have ho : Go.Ev.isOpen b e.unit = true := by
        rcases k2 with k2 | k2 | k2
        · rw [if_pos (.inl k2)] at h0; split at h0; assumption; cases h0
        · rw [if_pos (.inr k2)] at h0; split at h0; assumption; cases h0
        · rw [if_neg (by omega), if_pos k2.1] at h0
          split at h0
          · cases h0
          · rename_i hh; cases hx : Go.Ev.isOpen b e.unit with
            | true => rfl
            | false => exact absurd ⟨k2.2, hx⟩ hh
      rw [isOpen_iff] at ho
      obtain ⟨g1, g2, g3⟩ := h e.unit
      rw [ho.1] at g1
      obtain ⟨k, hk⟩ := Option.isSome_iff_exists.1 g1.symm
      simp only [hk]
      rw [uidx_modify]
      refine ⟨h1, fun hb => ⟨h2 hb, ?_⟩, fun k' u hk' hu => ?_⟩
      · by_cases en : e.unit = n
        · subst en; rw [ho.1] at hb; cases hb
        · have en2 : (e.unit == n) = false := by simpa using en
          simp [pEnd, en2]
      · rw [List.getElem?_modify] at hu
        by_cases en : e.unit = n
        · subst en
          rw [hk] at hk'; cases hk'
          obtain ⟨v, hv, _, _⟩ := uidx_some hk
          rw [hv] at hu
          simp at hu
          subst hu
          have := g3 k v hk hv
          simp only [uEnd, pEnd]
          rcases k2 with k2 | k2 | k2
          · simp [k2]
          · simp [k2]
          · simp [k2.1, this]
        · have en2 : (e.unit == n) = false := by simpa using en
          have hne : k ≠ k' := by
            intro he; subst he
            obtain ⟨v, hv, q1, _⟩ := uidx_some hk
            obtain ⟨v', hv', q2, _⟩ := uidx_some hk'
            rw [hv] at hv'; cases hv'; exact en (q1.symm.trans q2)
          have := h3 k' u hk' (by simpa [hne] using hu)
          rw [this]
          simp [pEnd, en2]
    · rw [if_neg k2]
      have hp : pEnd n e = false := by
        simp only [not_or] at k2
        simp [pEnd, k2.1, k2.2.1]
      rw [hp]
      simp only [and_true]
      exact ⟨h1, h2, h3⟩
theorem uStep_same {us : List AUnit} {e : Entry} (h1 : ¬e.kind = 1) (h2 : ¬(e.kind = 2 ∨ e.kind = 3 ∨ (e.kind = 0 ∧ e.unit ≠ 0))) : uStep us e = us := by
  rw [uStep, if_neg h1, if_neg h2]
theorem uStep_new {us : List AUnit} {e : Entry} (h1 : e.kind = 1) : uStep us e = us ++ [⟨e.unit, e.number, e.number, 2⟩] := by rw [uStep, if_pos h1]
theorem uStep_upd {us : List AUnit} {e : Entry} {k : Nat} {u : AUnit} (h1 : ¬e.kind = 1) (h2 : e.kind = 2 ∨ e.kind = 3 ∨ (e.kind = 0 ∧ e.unit ≠ 0)) (h3 : uidx us e.unit = some k) (h4 : us[k]? = some u) : uStep us e = us.set k (uEnd e u) := by
  rw [uStep, if_neg h1, if_pos h2, h3]
  simp only
  apply List.ext_getElem?
  intro j
  rw [List.getElem?_modify, List.getElem?_set]
  have hk := (List.getElem?_eq_some_iff.1 h4).1
  by_cases e : k = j
  · subst e
    have : us[k] = u := by rw [List.getElem?_eq_getElem hk] at h4; exact Option.some.inj h4
    simp [hk, this]
  · simp [e]
section
variable {C : Cfg} {M T t : Nat} {sl sl' : List (Nat × V)} {hp : List (Nat × HS)} {us us' : List AUnit}
theorem subU_same (hM : M < 1000000) (hp0 : C.pins = []) (hmap : aget hp M = some (.live (.mp T (us.map keyU) (ptrs us.length)))) (hf : ∀ j, aget hp (fnm j) = aget (fam t (us.map cellsU)) (fnm j))
    (hs : ∀ (ρ : Nat → Option Nat) (nf : Nat → Prop), ρ M = some M → nf M → slSub ρ nf sl sl') (hu : us' = us) :
    Sub C (mkS sl hp) (mkS sl' ((M, .live (.mp T (us'.map keyU) (ptrs (us'.map cellsU).length))) :: fam t (us'.map cellsU))) := by
  subst hu
  exact sub_fam hM hp0 fnm (by rw [hmap, List.length_map]; rfl) (fun k c hc => by rw [hf, aget_fam, hc]; rfl) (fun k k' _ _ h => by rwa [fnm_inj] at h) (fun k _ h => by rwa [fnm_lit hM] at h) hs
theorem subU_new (hM : M < 1000000) (hp0 : C.pins = []) {b : Nat} {u : AUnit} (hb : b < 1000000) (hbM : b ≠ M) (hmap : aget hp M = some (.live (.mp T (us.map keyU ++ [.i .i64 u.unit]) (ptrs us.length ++ [.ptr b 0]))))
    (hbox : aget hp b = some (.live (.box t [.d (.i .i64 u.unit), .d (.i .i64 u.first), .d (.i .i64 u.last), .d (.i .i64 u.state)])))
    (hf : ∀ j, aget hp (fnm j) = aget (fam t (us.map cellsU)) (fnm j))
    (hs : ∀ (ρ : Nat → Option Nat) (nf : Nat → Prop), ρ M = some M → nf M → slSub ρ nf sl sl') (hu : us' = us ++ [u]) :
    Sub C (mkS sl hp) (mkS sl' ((M, .live (.mp T (us'.map keyU) (ptrs (us'.map cellsU).length))) :: fam t (us'.map cellsU))) := by
  subst hu
  have hl : ((us ++ [u]).map cellsU).length = us.length + 1 := by simp
  refine sub_fam hM hp0 (fun k => if k = us.length then b else fnm k) ?_ (fun k c hc => ?_) (fun k k' _ _ h => ?_) (fun k _ h => ?_) hs
  · rw [hmap, hl, List.range_succ, List.map_append, List.map_append, ptrs]
    simp only [List.map_cons, List.map_nil, if_true, keyU]
    congr 3
    congr 1
    refine List.map_congr_left fun k hk => ?_
    rw [if_neg (by have := List.mem_range.1 hk; omega)]
  · (try dsimp only)
    by_cases e : k = us.length
    · subst e
      rw [if_pos rfl, hbox]
      rw [List.getElem?_map, List.getElem?_append_right (Nat.le_refl _)] at hc
      simp at hc
      subst hc
      rfl
    · have hk := (List.getElem?_eq_some_iff.1 hc).1
      rw [if_neg e, hf, aget_fam]
      rw [hl] at hk
      rw [List.getElem?_map, List.getElem?_append_left (by omega), ← List.getElem?_map] at hc
      rw [hc]; rfl
  · (try dsimp only at h)
    split at h <;> split at h
    · omega
    · rw [lit_fnm hb] at h; exact h.elim
    · rw [fnm_lit hb] at h; exact h.elim
    · rwa [fnm_inj] at h
  · (try dsimp only at h)
    split at h
    · exact hbM h
    · rwa [fnm_lit hM] at h
theorem subU_upd (hM : M < 1000000) (hp0 : C.pins = []) {k : Nat} {u u' : AUnit} (hk : us[k]? = some u) (hmap : aget hp M = some (.live (.mp T (us.map keyU) (ptrs us.length))))
    (hbox : aget hp (fnm k) = some (.live (.box t [.d (.i .i64 u'.unit), .d (.i .i64 u'.first), .d (.i .i64 u'.last), .d (.i .i64 u'.state)]))) (hku : u'.unit = u.unit)
    (hf : ∀ j, j ≠ k → aget hp (fnm j) = aget (fam t (us.map cellsU)) (fnm j))
    (hs : ∀ (ρ : Nat → Option Nat) (nf : Nat → Prop), ρ M = some M → nf M → slSub ρ nf sl sl') (hu : us' = us.set k u') :
    Sub C (mkS sl hp) (mkS sl' ((M, .live (.mp T (us'.map keyU) (ptrs (us'.map cellsU).length))) :: fam t (us'.map cellsU))) := by
  subst hu
  have hlt := (List.getElem?_eq_some_iff.1 hk).1
  have hkeys : (us.set k u').map keyU = us.map keyU := by
    apply List.ext_getElem?
    intro j
    rw [List.getElem?_map, List.getElem?_map, List.getElem?_set]
    by_cases e : k = j
    · subst e; simp [hlt]
      have : us[k] = u := by rw [List.getElem?_eq_getElem hlt] at hk; exact Option.some.inj hk
      rw [this]; simp [keyU, hku]
    · simp [e]
  refine sub_fam hM hp0 fnm (by rw [hmap, hkeys, List.length_map, List.length_set]; rfl) (fun j c hc => ?_) (fun k k' _ _ h => by rwa [fnm_inj] at h) (fun k _ h => by rwa [fnm_lit hM] at h) hs
  · (try dsimp only)
    rw [List.getElem?_map, List.getElem?_set] at hc
    by_cases e : k = j
    · subst e
      simp [hlt] at hc
      subst hc
      rw [hbox]; rfl
    · rw [if_neg e] at hc
      rw [hf j (fun h => e h.symm), aget_fam, List.getElem?_map, hc]; rfl
theorem fam_box {k : Nat} {u : AUnit} (h : us[k]? = some u) : aget (fam t (us.map cellsU)) (fnm k) = some (.live (.box t [.d (.i .i64 u.unit), .d (.i .i64 u.first), .d (.i .i64 u.last), .d (.i .i64 u.state)])) := by
  rw [aget_fam, List.getElem?_map, h]; rfl
theorem toDs_U {sl : List (Nat × V)} {h : HS} (hM : M < 1000000) : toDs (toD2 (mkS sl ((M, h) :: fam t (us.map cellsU)))) (ptrs us.length) = some (us.map fun u => .cp (cellsU u), (List.range us.length).map fnm) := by
  have := toDs_fam (s := mkS sl ((M, h) :: fam t (us.map cellsU))) (t := t) (cs := us.map cellsU) (fun k c hc => by
    show (aget _ _).getD HS.free = _
    simp only [aget]
    simp only [fnm_lit hM, if_false]
    rw [aget_fam, hc]; rfl)
  rw [List.length_map] at this
  rw [this, List.map_map]
  rfl
end
/-- All cycles, or the index and the error. -/
def cycles (l : List Entry) : List AUnit := if (check l).2 = 0 then unitsOf l else []
theorem UInv.next {l : List Entry} {i : Nat} (h : UInv (unitsOf (l.take i)) (l.take i)) (hi : i < l.length) (h0 : stateErr (l.take i) (l.getD i zEntry) = 0) : UInv (unitsOf (l.take (i + 1))) (l.take (i + 1)) := by
  rw [unitsOf_take hi, take_getD zEntry hi]
  exact h.step h0
theorem cycles_err {l : List Entry} (h : (check l).2 ≠ 0) : cycles l = [] := by rw [cycles, if_neg h]
theorem cycles_ok {l : List Entry} (h : (check l).2 = 0) : cycles l = unitsOf l := by rw [cycles, if_pos h]
theorem check_large {l : List Entry} (h : 80 < l.length) : check l = (0, 2) := by rw [check, if_pos h]
theorem check_of {l : List Entry} (h : l.length ≤ 80) : checkFrom l (l.length - 0) 0 = check l := by rw [check, if_neg (by omega)]; rfl
section
variable {l : List Entry} {i : Nat}
theorem check_bad1 (h : checkFrom l (l.length - i) i = check l) (hi : i < l.length) (h1 : ¬entryErr (l.getD i zEntry) = 0) : check l = ((i : Int), entryErr (l.getD i zEntry)) := by
  rw [← h, checkFrom_lt hi, if_pos h1]
theorem check_bad2 (h : checkFrom l (l.length - i) i = check l) (hi : i < l.length) (h1 : entryErr (l.getD i zEntry) = 0) (h2 : 0 < (i : Int) ∧ ¬(l.getD i zEntry).number = IntKind.i64.wrap ((l.getD ((i : Int) - 1).toNat zEntry).number + 1)) : check l = ((i : Int), 14) := by
  rw [← h, checkFrom_lt hi, if_neg (fun e => e h1), if_pos ⟨by omega, h2.2⟩]
theorem check_state (h : checkFrom l (l.length - i) i = check l) (hi : i < l.length) (h1 : entryErr (l.getD i zEntry) = 0) (h2 : (i : Int) ≤ 0 ∨ (l.getD i zEntry).number = IntKind.i64.wrap ((l.getD ((i : Int) - 1).toNat zEntry).number + 1)) {s : Int} (h3 : stateErr (l.take i) (l.getD i zEntry) = s) :
    if s = 0 then checkFrom l (l.length - (i + 1)) (i + 1) = check l else check l = ((i : Int), s) := by
  rw [checkFrom_lt hi, if_neg (fun e => e h1), if_neg (by omega)] at h
  subst h3
  split
  · rename_i e
    rwa [if_neg (fun e' => e' e)] at h
  · rename_i e
    rw [if_pos e] at h
    exact h.symm
/-- The error by the cycles, told by the units. -/
def stU (us : List AUnit) (e : Entry) : Int :=
  if e.kind = 1 then match uidx us e.unit with
    | some k => if (us.getD k ⟨0, 0, 0, 0⟩).state = 2 then 26 else 13
    | none => 0
  else if e.kind = 2 ∨ e.kind = 3 ∨ (e.kind = 0 ∧ e.unit ≠ 0) then match uidx us e.unit with
    | some k => if (us.getD k ⟨0, 0, 0, 0⟩).state = 2 then 0 else 26
    | none => 26
  else 0
theorem UInv.st {us : List AUnit} {b : List Entry} (h : UInv us b) (e : Entry) : stateErr b e = stU us e := by
  unfold stateErr stU
  rw [h.isOpen, h.begins]
  by_cases k1 : e.kind = 1
  · simp only [k1, if_true]
    cases uidx us e.unit <;> simp
  · simp only [k1, if_false]
    by_cases k2 : e.kind = 2 ∨ e.kind = 3
    · rw [if_pos k2, if_pos (show e.kind = 2 ∨ e.kind = 3 ∨ e.kind = 0 ∧ e.unit ≠ 0 by omega)]
      cases uidx us e.unit <;> simp
    · rw [if_neg k2]
      by_cases k0 : e.kind = 0
      · rw [if_pos k0]
        by_cases u0 : e.unit = 0
        · rw [if_neg (by rintro ⟨h, _⟩; exact h u0), if_neg (show ¬(e.kind = 2 ∨ e.kind = 3 ∨ e.kind = 0 ∧ e.unit ≠ 0) by omega)]
        · rw [if_pos (show e.kind = 2 ∨ e.kind = 3 ∨ e.kind = 0 ∧ e.unit ≠ 0 by omega)]
          cases uidx us e.unit <;> simp [u0]
      · rw [if_neg k0, if_neg (show ¬(e.kind = 2 ∨ e.kind = 3 ∨ e.kind = 0 ∧ e.unit ≠ 0) by omega)]
theorem stU_none {us : List AUnit} {e : Entry} (h : uidx us e.unit = none) : stU us e = if e.kind = 1 then 0 else if e.kind = 2 ∨ e.kind = 3 ∨ (e.kind = 0 ∧ e.unit ≠ 0) then 26 else 0 := by
  unfold stU; rw [h]
theorem stU_some {us : List AUnit} {e : Entry} {k : Nat} {u : AUnit} (h : uidx us e.unit = some k) (hu : us[k]? = some u) : stU us e = if e.kind = 1 then (if u.state = 2 then 26 else 13) else if e.kind = 2 ∨ e.kind = 3 ∨ (e.kind = 0 ∧ e.unit ≠ 0) then (if u.state = 2 then 0 else 26) else 0 := by
  unfold stU; rw [h]; simp [List.getD, hu]
end
end Go.Ev

namespace Go.Ev
/-! ## Everything is delivered -/
theorem getD_appL {α : Type} (l m : List α) (z : α) (j : Nat) (h : j < l.length) : (l ++ m).getD j z = l.getD j z := by
  simp only [List.getD, List.getElem?_append_left h]
theorem getD_appR {α : Type} (l m : List α) (z : α) (j : Nat) (h : l.length ≤ j) : (l ++ m).getD j z = m.getD (j - l.length) z := by
  simp only [List.getD, List.getElem?_append_right h]
def deliveredR (x : Remote) : Remote × Int := if remoteErr x ≠ 0 then (zRemote, remoteErr x) else (⟨x.sync, x.source, x.source, x.source.length, x.source.length, []⟩, 0)
def aV : RAct := ⟨3, 0, zEntry⟩
def aR : RAct := ⟨5, 0, zEntry⟩
def aS : RAct := ⟨1, 0, zEntry⟩
def aA : RAct := ⟨2, 0, zEntry⟩
def vanN : Nat → List RAct
  | 0 => []
  | n + 1 => vanN n ++ [aV]
def tripN : Nat → List RAct
  | 0 => []
  | n + 1 => tripN n ++ [aS, aA, aA]
def resN (x : Remote) : List RAct := if x.acked < x.sent then [aR] else []
def arrL (x : Remote) (k : Nat) : List RAct := vanN x.wire.length ++ resN x ++ tripN k
theorem len_vanN : ∀ n, (vanN n).length = n
  | 0 => rfl
  | n + 1 => by simp [vanN, len_vanN n]
theorem len_tripN : ∀ n, (tripN n).length = 3 * n
  | 0 => rfl
  | n + 1 => by simp [tripN, len_tripN n]; omega
theorem get_vanN : ∀ {n j : Nat}, j < n → (vanN n).getD j zRAct = aV
  | n + 1, j, h => by
    unfold vanN
    rw [getD_append_one, len_vanN]
    by_cases e : j < n
    · rw [if_pos e]; exact get_vanN e
    · rw [if_neg e, if_pos (by omega)]
theorem get_tripN : ∀ {n q r : Nat}, q < n → r < 3 → (tripN n).getD (3 * q + r) zRAct = if r = 0 then aS else aA
  | n + 1, q, r, h, hr => by
    unfold tripN
    by_cases e : q < n
    · rw [getD_appL _ _ _ _ (by rw [len_tripN]; omega)]; exact get_tripN e hr
    · have : q = n := by omega
      subst this
      rw [getD_appR _ _ _ _ (by rw [len_tripN]; omega), len_tripN, Nat.add_sub_cancel_left]
      match r, hr with
      | 0, _ => rfl
      | 1, _ => rfl
      | 2, _ => rfl
theorem len_resN (x : Remote) : (resN x).length = if x.acked < x.sent then 1 else 0 := by unfold resN; split <;> rfl
theorem len_arrL (x : Remote) (k : Nat) : (arrL x k).length = x.wire.length + (if x.acked < x.sent then 1 else 0) + 3 * k := by
  simp [arrL, len_vanN, len_tripN, len_resN]; omega
theorem get_arr1 {x : Remote} {k i : Nat} (h : i < x.wire.length) : (arrL x k).getD i zRAct = aV := by
  unfold arrL
  rw [getD_appL _ _ _ _ (by rw [List.length_append, len_vanN]; omega), getD_appL _ _ _ _ (by rw [len_vanN]; exact h), get_vanN h]
theorem get_arr2 {x : Remote} {k : Nat} (h : x.acked < x.sent) : (arrL x k).getD x.wire.length zRAct = aR := by
  unfold arrL
  rw [getD_appL _ _ _ _ (by rw [List.length_append, len_vanN, len_resN, if_pos h]; omega), getD_appR _ _ _ _ (by rw [len_vanN]; omega), len_vanN, Nat.sub_self, resN, if_pos h]
  rfl
theorem get_arr3 {x : Remote} {k q r : Nat} (h : q < k) (hr : r < 3) : (arrL x k).getD (x.wire.length + (if x.acked < x.sent then 1 else 0) + 3 * q + r) zRAct = if r = 0 then aS else aA := by
  unfold arrL
  rw [getD_appR _ _ _ _ (by rw [List.length_append, len_vanN, len_resN]; omega), List.length_append, len_vanN, len_resN,
    show x.wire.length + (if x.acked < x.sent then 1 else 0) + 3 * q + r - (x.wire.length + if x.acked < x.sent then 1 else 0) = 3 * q + r by omega, get_tripN h hr]

/-- The state between three acts. -/
def arrT (x : Remote) (a t : Nat) : Nat → Remote
  | 0 => ⟨x.sync, x.source, x.source.take t, a, a, []⟩
  | 1 => ⟨x.sync, x.source, x.source.take t, (a : Int) + 1, a, [⟨0, (a : Int) + 1⟩]⟩
  | _ => ⟨x.sync, x.source, x.source.take (if t = a then t + 1 else t), (a : Int) + 1, a, [⟨1, ((if t = a then t + 1 else t : Nat) : Int)⟩]⟩
def arrInv (x : Remote) (i : Nat) (y : Remote) : Prop :=
  (i ≤ x.wire.length ∧ (i = x.wire.length → x.acked < x.sent) ∧ y = { x with wire := x.wire.drop i }) ∨
  ∃ q r a t : Nat, i = x.wire.length + (if x.acked < x.sent then 1 else 0) + 3 * q + r ∧ r < 3 ∧ x.acked + q ≤ a ∧ a ≤ t ∧ t ≤ x.source.length ∧ (0 < r → a < x.source.length) ∧ y = arrT x a t r
theorem take_target {x : Remote} (h : rightR x) : x.source.take x.target.length = x.target := h.b
theorem arr_three {x : Remote} (h : rightR x) : arrInv x (x.wire.length + if x.acked < x.sent then 1 else 0) { x with wire := [], sent := x.acked } := by
  have h0 := h.a0
  have h1 := h.a1
  have h2 := h.t
  refine .inr ⟨0, 0, x.acked.toNat, x.target.length, by simp, by omega, by omega, by omega, h2, fun h => by omega, ?_⟩
  simp only [arrT, h.b]
  rw [remote_ext]
  simp only [true_and, and_true]
  omega
theorem arr_start {x : Remote} (h : rightR x) : arrInv x 0 x := by
  by_cases hw : x.wire.length = 0
  · by_cases hs : x.acked < x.sent
    · refine .inl ⟨by omega, fun _ => hs, by simp⟩
    · have := arr_three h
      have h3 := h.a2
      rw [if_neg hs, hw] at this
      have e : ({ x with wire := [], sent := x.acked } : Remote) = x := by
        rw [remote_ext]
        simp only [true_and]
        exact ⟨by omega, (List.eq_nil_of_length_eq_zero hw).symm⟩
      rwa [e] at this
  · refine .inl ⟨by omega, fun e => by omega, by simp⟩
theorem drop_drop_one {α : Type} {l : List α} {i : Nat} : (l.drop i).eraseIdx 0 = l.drop (i + 1) := by
  rw [List.eraseIdx_zero, List.tail_drop]
theorem take_len {l : List Entry} {t : Nat} (h : t ≤ l.length) : (l.take t).length = t := by rw [List.length_take]; omega
theorem arr_step {x y : Remote} {i k : Nat} (hx : rightR x) (hk : (k : Int) = x.source.length - x.acked) (h : arrInv x i y) (hi : i < (arrL x k).length) (hb : ¬(((arrL x k).getD i zRAct).kind = 1 ∧ y.acked ≥ x.source.length)) :
    (actR y ((arrL x k).getD i zRAct)).2 = 0 ∧ arrInv x (i + 1) (actR y ((arrL x k).getD i zRAct)).1 := by
  rw [len_arrL] at hi
  rcases h with ⟨h1, h2, rfl⟩ | ⟨q, r, a, t, rfl, hr, ha, hat, ht, hlt, rfl⟩
  · by_cases hw : i < x.wire.length
    · rw [get_arr1 hw]
      have hd : 0 < (x.wire.drop i).length := by rw [List.length_drop]; omega
      have e : actR { x with wire := x.wire.drop i } aV = ({ x with wire := x.wire.drop (i + 1) }, 0) := by
        unfold actR aV
        rw [if_neg (by simp only; omega), if_neg (by simp), if_neg (by simp only; omega), if_neg (by simp), if_neg (by simp), if_neg (by simp), if_pos rfl]
        simp only [Int.toNat_zero, drop_drop_one]
      rw [e]
      refine ⟨rfl, ?_⟩
      by_cases hn : i + 1 = x.wire.length ∧ ¬x.acked < x.sent
      · have := arr_three hx
        rw [if_neg hn.2] at this
        have h3 := hx.a2
        rw [hn.1]
        have e2 : ({ x with wire := x.wire.drop x.wire.length } : Remote) = { x with wire := [], sent := x.acked } := by
          rw [remote_ext]
          simp only [true_and, List.drop_length, and_true]
          omega
        simp only
        rw [e2]
        exact this
      · exact .inl ⟨by omega, fun e => by omega, rfl⟩
    · have hw : i = x.wire.length := by omega
      subst hw
      have hs := h2 rfl
      rw [get_arr2 hs]
      have e : actR { x with wire := x.wire.drop x.wire.length } aR = ({ x with wire := [], sent := x.acked }, 0) := by
        unfold actR aR
        rw [if_neg (by simp only; omega), if_neg (by simp), if_neg (by simp), if_neg (by simp), if_neg (by simp), if_neg (by simp), if_neg (by simp), if_neg (by simp), if_neg (by simp only; omega)]
        simp only [List.drop_length]
      rw [e]
      have := arr_three hx
      rw [if_pos hs] at this
      exact ⟨rfl, this⟩
  · have hq : q < k := by omega
    have hl := take_len ht
    rw [get_arr3 hq hr] at hb ⊢
    match r, hr with
    | 0, _ =>
      simp only [if_pos, arrT] at hb ⊢
      have hlt : (a : Int) < x.source.length := by
        refine Int.not_le.1 fun hle => hb ⟨rfl, hle⟩
      have e : actR ⟨x.sync, x.source, x.source.take t, a, a, []⟩ aS = (arrT x a t 1, 0) := by
        unfold actR aS arrT
        rw [if_neg (by simp only; omega), if_neg (by simp), if_neg (by simp), if_neg (by simp), if_pos rfl, if_neg (by simp only; omega), if_neg (by simp)]
        rfl
      rw [e]
      exact ⟨rfl, .inr ⟨q, 1, a, t, by omega, by omega, ha, hat, ht, fun _ => by omega, rfl⟩⟩
    | 1, _ =>
      have hlt := hlt (by omega)
      simp only [Nat.succ_ne_zero, if_false, arrT] at hb ⊢
      have e : actR ⟨x.sync, x.source, x.source.take t, (a : Int) + 1, a, [⟨0, (a : Int) + 1⟩]⟩ aA = (arrT x a t 2, 0) := by
        unfold actR aA arrT
        rw [if_neg (by simp only; omega), if_neg (by simp), if_neg (by simp), if_neg (by simp), if_neg (by simp), if_pos rfl]
        simp only [Int.toNat_zero, List.eraseIdx_zero, List.tail_cons, List.getD_cons_zero, arrivedR, hl]
        rw [if_neg (by omega)]
        by_cases ea : t = a
        · subst ea
          have e1 : ((t : Int) + 1 - 1).toNat = t := by omega
          simp only [if_true, e1, ← getD_take_one hlt, take_len (show t + 1 ≤ x.source.length by omega), List.length_nil, Nat.zero_lt_succ, List.nil_append]
        · have e1 : ¬((a : Int) + 1 = (t : Int) + 1) := by omega
          simp only [e1, ea, if_false, hl, List.length_nil, Nat.zero_lt_succ, if_true, List.nil_append]
      rw [e]
      exact ⟨rfl, .inr ⟨q, 2, a, t, by omega, by omega, ha, hat, ht, fun _ => hlt, rfl⟩⟩
    | 2, _ =>
      have hlt := hlt (by omega)
      simp only [Nat.succ_ne_zero, if_false, arrT] at hb ⊢
      generalize ht' : (if t = a then t + 1 else t) = t'
      have ht1 : a + 1 ≤ t' ∧ t' ≤ x.source.length := by
        subst ht'
        split <;> omega
      have e : actR ⟨x.sync, x.source, x.source.take t', (a : Int) + 1, a, [⟨1, (t' : Int)⟩]⟩ aA = (arrT x t' t' 0, 0) := by
        unfold actR aA arrT
        rw [if_neg (by simp only; omega), if_neg (by simp), if_neg (by simp), if_neg (by simp), if_neg (by simp), if_pos rfl]
        simp only [Int.toNat_zero, List.eraseIdx_zero, List.tail_cons, List.getD_cons_zero, arrivedR, if_true]
        have e1 : (if (a : Int) < (t' : Int) then (t' : Int) else (a : Int)) = t' := if_pos (by omega)
        rw [e1]
        have e2 : (if (a : Int) + 1 < (t' : Int) then (t' : Int) else (a : Int) + 1) = t' := by split <;> omega
        rw [e2]
      rw [e]
      exact ⟨rfl, .inr ⟨q + 1, 0, t', t', by omega, by omega, by omega, Nat.le_refl _, ht1.2, fun h => by omega, rfl⟩⟩
theorem arr_done {x : Remote} {a t : Nat} (h : x.source.length ≤ a) (hat : a ≤ t) (ht : t ≤ x.source.length) : arrT x a t 0 = ⟨x.sync, x.source, x.source, x.source.length, x.source.length, []⟩ := by
  have e1 : a = x.source.length := by omega
  have e2 : t = x.source.length := by omega
  subst e1
  simp only [arrT, e2, List.take_length]
theorem arr_end {x y : Remote} {i k : Nat} (hx : rightR x) (hk : (k : Int) = x.source.length - x.acked) (h : arrInv x i y) (hi : (arrL x k).length ≤ i) : y = ⟨x.sync, x.source, x.source, x.source.length, x.source.length, []⟩ := by
  rw [len_arrL] at hi
  rcases h with ⟨h1, h2, rfl⟩ | ⟨q, r, a, t, rfl, hr, ha, hat, ht, hlt, rfl⟩
  · have := h2 (by split at hi <;> omega)
    rw [if_pos this] at hi
    omega
  · have hr0 : r = 0 := by
      rcases Nat.eq_zero_or_pos r with e | e
      · exact e
      · have := hlt e; omega
    subst hr0
    exact arr_done (by omega) hat ht
theorem arr_break {x y : Remote} {i k : Nat} (hx : rightR x) (hk : (k : Int) = x.source.length - x.acked) (h : arrInv x i y) (hi : i < (arrL x k).length) (hb : ((arrL x k).getD i zRAct).kind = 1 ∧ y.acked ≥ x.source.length) : y = ⟨x.sync, x.source, x.source, x.source.length, x.source.length, []⟩ := by
  rw [len_arrL] at hi
  rcases h with ⟨h1, h2, rfl⟩ | ⟨q, r, a, t, rfl, hr, ha, hat, ht, hlt, rfl⟩
  · exfalso
    by_cases hw : i < x.wire.length
    · rw [get_arr1 hw] at hb; exact absurd hb.1 (by decide)
    · have hw : i = x.wire.length := by omega
      subst hw
      rw [get_arr2 (h2 rfl)] at hb; exact absurd hb.1 (by decide)
  · rw [get_arr3 (by omega) hr] at hb
    match r, hr with
    | 0, _ =>
      have := hb.2
      simp only [arrT] at this
      exact arr_done (by omega) hat ht
    | 1, _ => exact absurd hb.1 (by decide)
    | 2, _ => exact absurd hb.1 (by decide)
theorem fewGo_take : ∀ {l : List Entry} {i t : Nat}, fewGo i l = true → fewGo i (l.take t) = true
  | [], i, t, _ => by simp [fewGo]
  | e :: l, i, 0, _ => by simp [fewGo]
  | e :: l, i, t + 1, h => by
    simp only [List.take_succ_cons, fewGo, Bool.and_eq_true] at h ⊢
    exact ⟨h.1, fewGo_take h.2⟩
theorem arr_few {x y : Remote} {i : Nat} (hx : rightR x) (hf : few36 x = true) (h : arrInv x i y) : few36 y = true := by
  have hf2 := hf
  simp only [few36, Bool.and_eq_true, decide_eq_true_eq] at hf
  have hw := hx.w
  rcases h with ⟨h1, h2, rfl⟩ | ⟨q, r, a, t, rfl, hr, ha, hat, ht, hlt, rfl⟩
  · simp only [few36, Bool.and_eq_true, decide_eq_true_eq, List.length_drop]
    exact ⟨hf.1, by omega⟩
  · match r, hr with
    | 0, _ => simp only [few36, arrT, Bool.and_eq_true, decide_eq_true_eq, List.length_nil]; exact ⟨⟨hf.1.1, fewGo_take hf.1.1⟩, by omega⟩
    | 1, _ => simp only [few36, arrT, Bool.and_eq_true, decide_eq_true_eq, List.length_cons, List.length_nil]; exact ⟨⟨hf.1.1, fewGo_take hf.1.1⟩, by omega⟩
    | 2, _ => simp only [few36, arrT, Bool.and_eq_true, decide_eq_true_eq, List.length_cons, List.length_nil]; exact ⟨⟨hf.1.1, fewGo_take hf.1.1⟩, by omega⟩
theorem delivered_ok {x : Remote} (h : remoteErr x = 0) : deliveredR x = (⟨x.sync, x.source, x.source, x.source.length, x.source.length, []⟩, 0) := by rw [deliveredR, if_neg (by omega)]
theorem delivered_err {x : Remote} (h : remoteErr x ≠ 0) : deliveredR x = (zRemote, remoteErr x) := by rw [deliveredR, if_pos h]
theorem arr_round {x y : Remote} {i k : Nat} (hx : rightR x) (hf : few36 x = true) (hk : (k : Int) = x.source.length - x.acked) (hy : remoteErr y = 0) (h : arrInv x i y) (hi : i < (arrL x k).length) (hb : ¬(((arrL x k).getD i zRAct).kind = 1 ∧ (x.source.length : Int) ≤ y.acked)) :
    (actR y ((arrL x k).getD i zRAct)).2 = 0 ∧ few36 (actR y ((arrL x k).getD i zRAct)).1 = true ∧ remoteErr (actR y ((arrL x k).getD i zRAct)).1 = 0 ∧ arrInv x (i + 1) (actR y ((arrL x k).getD i zRAct)).1 := by
  obtain ⟨h1, h2⟩ := arr_step hx hk h hi hb
  exact ⟨h1, arr_few hx hf h2, err_act hy h1, h2⟩
theorem arrL_zero {x : Remote} : arrL x 0 = vanN x.wire.length ++ resN x := by simp [arrL, tripN]
theorem encV (i : Nat) : List.map encRAct (vanN (i + 1)) = List.map encRAct (vanN i) ++ [encRAct aV] := by simp [vanN]
theorem encT (x : Remote) (i : Nat) : List.map encRAct (arrL x (i + 1)) = List.map encRAct (arrL x i) ++ [encRAct aS, encRAct aA, encRAct aA] := by simp [arrL, tripN]
theorem encZ0 {x : Remote} (h : ¬x.acked < x.sent) : List.map encRAct (arrL x 0) = List.map encRAct (vanN x.wire.length) := by simp [arrL_zero, resN, h]
theorem encZ1 {x : Remote} (h : x.acked < x.sent) : List.map encRAct (arrL x 0) = List.map encRAct (vanN x.wire.length) ++ [encRAct aR] := by simp [arrL_zero, resN, h]
theorem arr_facts {x : Remote} (h : few36 x = true ∧ remoteErr x = 0) : x.wire.length ≤ 12 ∧ 0 ≤ x.acked ∧ x.acked ≤ x.source.length ∧ x.source.length ≤ 40 ∧ (((x.source.length - x.acked).toNat : Nat) : Int) = x.source.length - x.acked ∧
    x.target.length ≤ 1000000 ∧ (arrL x (x.source.length - x.acked).toNat).length ≤ 1000 := by
  have g := remoteErr_iff.1 h.2
  have h1 := g.w; have h2 := g.a0; have h3 := g.a1; have h4 := g.t; have h5 := g.n
  refine ⟨h1, h2, by omega, h5, by omega, by omega, ?_⟩
  rw [len_arrL]
  split <;> omega
theorem arr_right {x : Remote} (h : few36 x = true ∧ remoteErr x = 0) : rightR x := remoteErr_iff.1 h.2
end Go.Ev

namespace Go.Ev
/-! ## The acts that are possible -/
def D.body : D → List D
  | .agg l => l
  | d => [d]
def decCp {α : Type} (f : D → Option α) : D → Option α
  | .cp l => f (.agg l)
  | _ => none
theorem decCp_le {α : Type} {f : D → Option α} {g : α → List D} (h : ∀ {d x}, f d = some x → dle d (.agg (g x))) {d : D} {x : α} (hd : decCp f d = some x) : dle d (.cp (g x)) := by
  cases d with
  | cp l =>
    have := h hd
    simp only [dle] at this ⊢
    exact this
  | _ => cases hd
theorem decCp_cp {α : Type} {f : D → Option α} {l : List D} : decCp f (.cp l) = f (.agg l) := rfl
def tryOne (x : Remote) (a : RAct) (l : List RAct) : List RAct := if (actR x a).2 = 0 then l ++ [a] else l
def tried (x : Remote) (l : List RAct) : List RAct := l.filter fun a => (actR x a).2 == 0
theorem tried_snoc (x : Remote) (l : List RAct) (a : RAct) : tried x (l ++ [a]) = tryOne x a (tried x l) := by
  unfold tried tryOne
  rw [List.filter_append]
  by_cases h : (actR x a).2 = 0 <;> simp [h]
theorem tried_len (x : Remote) (l : List RAct) : (tried x l).length ≤ l.length := List.length_filter_le _ _
theorem tryOne_len (x : Remote) (a : RAct) (l : List RAct) : (tryOne x a l).length ≤ l.length + 1 := by
  unfold tryOne; split <;> simp
def partK (k : Int) : Nat → List RAct
  | 0 => []
  | n + 1 => partK k n ++ [⟨k, n, zEntry⟩]
theorem len_partK (k : Int) : ∀ n, (partK k n).length = n
  | 0 => rfl
  | n + 1 => by simp [partK, len_partK k n]
def mostK (x : Remote) (k : Int) : Nat := if k = 1 ∨ k = 5 then 1 else x.wire.length
def candTo (x : Remote) : Nat → List RAct
  | 0 => []
  | i + 1 => candTo x i ++ partK ((i : Int) + 1) (mostK x ((i : Int) + 1))
theorem len_candTo (x : Remote) (h : x.wire.length ≤ 12) : ∀ i, (candTo x i).length ≤ 12 * i
  | 0 => by simp [candTo]
  | i + 1 => by
    have := len_candTo x h i
    simp only [candTo, List.length_append, len_partK, mostK]
    split <;> omega
def actsR (x : Remote) : List RAct := tried x (candTo x 5)
def actsC (x : Remote) : List RAct × Int := if remoteErr x ≠ 0 then ([], remoteErr x) else (actsR x, 0)
theorem tried_part (x : Remote) (c : List RAct) (k : Int) (j : Nat) : tried x (c ++ partK k (j + 1)) = tryOne x ⟨k, j, zEntry⟩ (tried x (c ++ partK k j)) := by
  rw [partK, ← List.append_assoc, tried_snoc]
theorem tried_zero (x : Remote) (c : List RAct) (k : Int) : tried x (c ++ partK k 0) = tried x c := by rw [partK, List.append_nil]
theorem tried_next (x : Remote) (i n : Nat) (h : n = mostK x ((i : Int) + 1)) : tried x (candTo x (i + 1)) = tried x (candTo x i ++ partK ((i : Int) + 1) n) := by rw [h]; rfl
theorem flatA_RAct (l : List RAct) : (l.map encRAct).all D.flatA = true := by
  rw [List.all_eq_true]
  intro d hd
  obtain ⟨a, _, rfl⟩ := List.mem_map.1 hd
  rfl
theorem tried_bound {x : Remote} (h : goodR x) (i n : Nat) (hi : i ≤ 5) (hn : n ≤ 12) (k : Int) : (tried x (candTo x i ++ partK k n)).length ≤ 100 := by
  have h1 := tried_len x (candTo x i ++ partK k n)
  have h2 := len_candTo x h.w i
  rw [List.length_append, len_partK] at h1
  omega
theorem tried_bound0 {x : Remote} (h : goodR x) (i : Nat) (hi : i ≤ 5) : (tried x (candTo x i)).length ≤ 100 := by
  have h1 := tried_len x (candTo x i)
  have h2 := len_candTo x h.w i
  omega
theorem most_good {x : Remote} (h : goodR x) (k : Int) : mostK x k ≤ 12 := by
  have := h.w
  unfold mostK; split <;> omega
theorem tried_one {x : Remote} {i : Nat} (h : (i : Int) + 1 = 1 ∨ (i : Int) + 1 = 5) : tried x (candTo x (i + 1)) = tryOne x ⟨(i : Int) + 1, 0, zEntry⟩ (tried x (candTo x i)) := by
  rw [tried_next x i 1 (by unfold mostK; rw [if_pos h]), tried_part, tried_zero]; rfl
theorem tried_many {x : Remote} {i j : Nat} (h : ¬((i : Int) + 1 = 1 ∨ (i : Int) + 1 = 5)) (hj : j = x.wire.length) : tried x (candTo x (i + 1)) = tried x (candTo x i ++ partK ((i : Int) + 1) j) :=
  tried_next x i j (by unfold mostK; rw [if_neg h, hj])
theorem acts_err {x : Remote} (h : ¬remoteErr x = 0) : actsC x = ([], remoteErr x) := by rw [actsC, if_pos h]
theorem acts_ok {x : Remote} (h : remoteErr x = 0) : actsC x = (actsR x, 0) := by rw [actsC, if_neg (fun e => e h)]
end Go.Ev

namespace Go.Ev
open Go.Proofs Go.Shelf Go.Sort Go.RowKit
def sortLays_ren : Go.Shelf.Ren := ⟨fun | 189 => 59 | 125 => 66 | 257 => 65 | 128 => 83 | 129 => 84 | 294 => 74 | 295 => 75 | 296 => 76 | 297 => 77 | 298 => 78 | 299 => 79 | 216 => 80 | 300 => 81 | 301 => 82 | 328 => 88 | 329 => 89 | 330 => 90 | 331 => 91 | 332 => 92 | 215 => 93 | 343 => 94 | n => n, fun | 28 => 59 | 3 => 3 | 46 => 100 | 0 => 0 | 51 => 113 | 53 => 115 | 4 => 4 | 183 => 105 | 182 => 104 | 131 => 110 | 5 => 5 | 9 => 9 | 218 => 118 | 222 => 122 | 228 => 125 | 229 => 84 | n => n, fun n => n⟩
theorem sortLays : Lays.n189 Try.prog sortLays_ren := {
  mixed := by kernel_rfl,
  f125 := Try.func66.trans (congrArg some (by kernel_rfl)),
  f128 := Try.func83.trans (congrArg some (by kernel_rfl)),
  f129 := Try.func84.trans (congrArg some (by kernel_rfl)),
  f189 := Try.func59.trans (congrArg some (by kernel_rfl)),
  f215 := Try.func93.trans (congrArg some (by kernel_rfl)),
  f216 := Try.func80.trans (congrArg some (by kernel_rfl)),
  f257 := Try.func65.trans (congrArg some (by kernel_rfl)),
  f294 := Try.func74.trans (congrArg some (by kernel_rfl)),
  f295 := Try.func75.trans (congrArg some (by kernel_rfl)),
  f296 := Try.func76.trans (congrArg some (by kernel_rfl)),
  f297 := Try.func77.trans (congrArg some (by kernel_rfl)),
  f298 := Try.func78.trans (congrArg some (by kernel_rfl)),
  f299 := Try.func79.trans (congrArg some (by kernel_rfl)),
  f300 := Try.func81.trans (congrArg some (by kernel_rfl)),
  f301 := Try.func82.trans (congrArg some (by kernel_rfl)),
  f328 := Try.func88.trans (congrArg some (by kernel_rfl)),
  f329 := Try.func89.trans (congrArg some (by kernel_rfl)),
  f330 := Try.func90.trans (congrArg some (by kernel_rfl)),
  f331 := Try.func91.trans (congrArg some (by kernel_rfl)),
  f332 := Try.func92.trans (congrArg some (by kernel_rfl)),
  f343 := Try.func94.trans (congrArg some (by kernel_rfl)),
  t0 := Try.underlying0,
  a0 := Try.isAgg0,
  z0 := Try.sizeOf0,
  v0 := Try.zeroValue0,
  t3 := Try.underlying3,
  a3 := Try.isAgg3,
  z3 := Try.sizeOf3,
  v3 := Try.zeroValue3,
  t4 := Try.underlying4,
  a4 := Try.isAgg4,
  z4 := Try.sizeOf4,
  v4 := Try.zeroValue4,
  t5 := Try.underlying5,
  a5 := Try.isAgg5,
  z5 := Try.sizeOf5,
  v5 := Try.zeroValue5,
  t9 := Try.underlying9,
  a9 := Try.isAgg9,
  z9 := Try.sizeOf9,
  v9 := Try.zeroValue9,
  t28 := Try.underlying59,
  a28 := Try.isAgg59,
  z28 := Try.sizeOf59,
  v28 := Try.zeroValue59,
  t46 := Try.underlying100,
  a46 := Try.isAgg100,
  z46 := Try.sizeOf100,
  v46 := Try.zeroValue100,
  t51 := Try.underlying113,
  a51 := Try.isAgg113,
  z51 := Try.sizeOf113,
  v51 := Try.zeroValue113,
  t53 := Try.underlying115,
  a53 := Try.isAgg115,
  z53 := Try.sizeOf115,
  v53 := Try.zeroValue115,
  t131 := Try.underlying110,
  a131 := Try.isAgg110,
  z131 := Try.sizeOf110,
  v131 := Try.zeroValue110,
  t182 := Try.underlying104,
  a182 := Try.isAgg104,
  z182 := Try.sizeOf104,
  v182 := Try.zeroValue104,
  t183 := Try.underlying105,
  a183 := Try.isAgg105,
  z183 := Try.sizeOf105,
  v183 := Try.zeroValue105,
  t218 := Try.underlying118,
  a218 := Try.isAgg118,
  z218 := Try.sizeOf118,
  v218 := Try.zeroValue118,
  t222 := Try.underlying122,
  a222 := Try.isAgg122,
  z222 := Try.sizeOf122,
  v222 := Try.zeroValue122,
  t228 := Try.underlying125,
  a228 := Try.isAgg125,
  z228 := Try.sizeOf125,
  v228 := Try.zeroValue125,
  t229 := Try.underlying84,
  a229 := Try.isAgg84,
  z229 := Try.sizeOf84,
  v229 := Try.zeroValue84 }
theorem RD_int {w : World} {X : Nat → Prop} {v : Value} {k : IntKind} {n : Int} (h : RD w X v (.i k n)) : v = .int k n := by cases h; rfl
theorem flat_ints (k : IntKind) : ∀ (l : List Int), flat (l.map (D.i k)) = l.map (D.i k)
  | [] => rfl
  | n :: l => by rw [List.map_cons, flat_cons, flat_ints k l]; rfl
theorem decM_ints {k : IntKind} : ∀ {l : List D} {zs : List Int}, decM (decI k) l = some zs → l = zs.map (D.i k)
  | [], zs, h => by cases h; rfl
  | d :: l, zs, h => by
    simp only [decM] at h
    split at h
    · rename_i x r h1 h2
      cases h
      rw [decM_ints h2]
      cases d with
      | i k' n =>
        simp only [decI] at h1
        split at h1
        · rename_i e; subst e; cases h1; rfl
        · cases h1
      | _ => cases h1
    · cases h
def sortZ (zs : List Int) : List Int := zs.mergeSort fun x y => decide (x ≤ y)
def gSort (l : List D) : Option (Prop × List D) := match decM (decI .i64) l with
  | some zs => some (zs.length ≤ 1000000, (sortZ zs).map (D.i .i64))
  | none => none
theorem sortZ_len (zs : List Int) : (sortZ zs).length = zs.length := by simp [sortZ]
theorem sort_semI : SemI Try.prog 59 1 gSort := by
  intro w bk cap cs t l l' p hg hp hpos hcap hcs hb hfits ⟨X, hX⟩
  unfold gSort at hg
  split at hg
  · rename_i zs hz
    cases hg
    have hl := decM_ints hz
    subst hl
    rw [List.length_map] at hcap hpos ⊢
    have hlt : bk < w.heap.size := (Array.getElem?_eq_some_iff.1 hb).1
    have hcell : ∀ j (hj : j < zs.length), cs[j]? = some (Value.int .i64 zs[j]) := fun j hj => by
      have h1 : j < cs.size := by omega
      have h2 : cs[j]? = some cs[j] := by simp [h1]
      have h3 := hX j cs[j] (.i .i64 zs[j]) h2 (by rw [flat_ints]; simp [hj])
      rw [h2, RD_int h3]
    have hH : Holds (Value.int .i64) w bk 0 zs.toArray := fun j hj => by
      have hj : j < zs.length := by simpa using hj
      refine ⟨?_, ?_⟩
      · rw [Nat.zero_add, block_cell hb, hcell j hj]
        congr 2
        rw [getElem!_pos zs.toArray j (by simpa using hj)]
        simp
      · simp [World.frozen?, hb]
    refine (Any.slices_Sort_int (P := Try.prog) (ρ := sortLays_ren) sortLays bk 0 cap zs w hH hlt (by omega)).mono ?_
    rintro e w' ⟨rfl, n, os, rfl⟩
    have hold : ∀ k, k < w.heap.size → (grow (putRow (Value.int .i64) (Sort.ahead w n) bk 0 (sortZ zs).toArray) os).heap[k]? = if bk = k then some (.cells (putCells (Value.int .i64) 0 (sortZ zs).toArray cs) t (0, 0)) else w.heap[k]? := fun k hk => by
      rw [heap_grow_old _ _ (by simpa using hk)]
      simp only [putRow, mapBlock, Sort.ahead, Array.getElem?_modify]
      by_cases e : bk = k
      · subst e; simp [hb, onCells]
      · simp [e]
    have hsz : (putCells (Value.int .i64) 0 (sortZ zs).toArray cs).size = cs.size := by simp [putCells]
    have hget : ∀ j, (putCells (Value.int .i64) 0 (sortZ zs).toArray cs)[j]? = (cs[j]?).map fun x => if j < zs.length then Value.int .i64 (sortZ zs).toArray[j]! else x := fun j => by
      simp [putCells, sortZ_len]
    refine ⟨rfl, by simp [sortZ_len], fun d hd => ?_, putCells (Value.int .i64) 0 (sortZ zs).toArray cs, ?_, hsz, fun X' j v x hj hx => ?_, fun j hj => ?_, ?_⟩
    · obtain ⟨z, _, rfl⟩ := List.mem_map.1 hd
      exact ⟨rfl, by simp [D.cells, D.one]⟩
    · show (grow (putRow (Value.int .i64) (Sort.ahead w n) bk 0 (sortZ zs).toArray) os).heap[bk]? = _
      rw [hold bk hlt, if_pos rfl]
    · rw [flat_ints, List.getElem?_map, Option.map_eq_some_iff] at hx
      obtain ⟨z, hz', rfl⟩ := hx
      have hjl : j < zs.length := by rw [← sortZ_len zs]; exact (List.getElem?_eq_some_iff.1 hz').1
      rw [hget, hcell j hjl] at hj
      simp only [Option.map_some, hjl, if_true, Option.some.injEq] at hj
      rw [← hj, getElem!_pos (sortZ zs).toArray j (by simpa [sortZ_len] using hjl)]
      have : (sortZ zs)[j]'(by rw [sortZ_len]; exact hjl) = z := by
        rw [List.getElem?_eq_getElem (by rw [sortZ_len]; exact hjl)] at hz'
        exact Option.some.inj hz'
      simp only [List.getElem_toArray]
      rw [this]
      exact .i _ _
    · rw [flat_ints, List.length_map] at hj
      rw [hget]
      simp [show ¬ j < zs.length by omega]
    · refine ⟨⟨?_, fun b hb2 hne => ?_, fun b c t' hc => ?_⟩, rfl, rfl, rfl⟩
      · simp
      · show (grow (putRow (Value.int .i64) (Sort.ahead w n) bk 0 (sortZ zs).toArray) os).heap[b]? = _
        rw [hold b hb2, if_neg (fun e => hne e.symm)]
      · have hb2 : b < w.heap.size := (Array.getElem?_eq_some_iff.1 hc).1
        show ∃ cs', (grow (putRow (Value.int .i64) (Sort.ahead w n) bk 0 (sortZ zs).toArray) os).heap[b]? = _ ∧ _
        rw [hold b hb2]
        by_cases e : bk = b
        · subst e
          rw [hb] at hc
          cases hc
          exact ⟨_, if_pos rfl, hsz⟩
        · exact ⟨c, by rw [if_neg e]; exact hc, rfl⟩
  · cases hg
/-- Sorting nothing. -/
theorem sort_sem0 : Sem Try.prog 59 [.d (.sl 1 [])] (.tup []) := by
  intro w vs X os hX hap hBX har
  obtain ⟨hn, oss, hl, ho, hro⟩ := har
  have h1 : vs.size = 1 := by simpa using hn
  have h2 : oss.length = 1 := by simpa using hl
  have hr := hro 0 (vs[0]'(by omega)) _ (oss[0]'(by omega)) (by simp [h1]) rfl (by simp [h2])
  have hv : vs = #[vs[0]'(by omega)] := Array.ext (by simp [h1]) fun i h1 h2 => by
    have : i = 0 := by simp at h2; omega
    subst this; rfl
  generalize oss[0]'(by omega) = q at hr
  generalize vs[0]'(by omega) = v at hr hv
  subst hv
  obtain ⟨p, cap, rfl⟩ : ∃ p cap, v = .slice p 0 cap := by
    cases hr with
    | d _ _ h =>
      cases h with
      | sl0 => exact ⟨none, 0, rfl⟩
      | sl a cap _ _ => exact ⟨some a, cap, rfl⟩
  refine (Any.slices_Sort_int_none (P := Try.prog) (ρ := sortLays_ren) sortLays p cap w).mono ?_
  rintro e w' ⟨rfl, rfl⟩
  refine ⟨_, _, [], rfl, rfl, .tup #[] [] [] rfl rfl (fun j v o os hj => by simp at hj), fun i j b hi => by simp at hi, fun b hb => by simp [Blk] at hb, Fr.refl _ _⟩
end Go.Ev

namespace Go.Ev
/-! ## The units that are confirmed, and lost -/
def comU (l : List Entry) : List Int := (l.filter fun e => e.kind == 2).map (·.unit)
theorem comU_snoc (l : List Entry) (e : Entry) : comU (l ++ [e]) = if e.kind = 2 then comU l ++ [e.unit] else comU l := by
  unfold comU
  by_cases h : e.kind = 2 <;> simp [List.filter_append, h]
theorem comU_take {l : List Entry} {i : Nat} (h : i < l.length) : comU (l.take (i + 1)) = if (l.getD i zEntry).kind = 2 then comU (l.take i) ++ [(l.getD i zEntry).unit] else comU (l.take i) := by
  rw [take_getD zEntry h, comU_snoc]
theorem comU_len (l : List Entry) : (comU l).length ≤ l.length := by unfold comU; rw [List.length_map]; exact List.length_filter_le _ _
def committedP (l : List Entry) : List Int := sortZ (comU l)
theorem committedP_len (l : List Entry) : (committedP l).length = (comU l).length := sortZ_len _
def idxZ (l : List Int) (v : Int) : Int := match l.findIdx? (· == v) with | some i => (i : Int) | none => -1
theorem take_getZ {l : List Int} {i : Nat} (h : i < l.length) : l.take (i + 1) = l.take i ++ [l.getD i 0] := take_getD 0 h
theorem idxZ_yes {l : List Int} {v : Int} {i : Nat} (h : (l.take i).findIdx? (· == v) = none) (hi : i < l.length) (e : v = l.getD i 0) : idxZ l v = i := by
  unfold idxZ
  have : l.findIdx? (· == v) = some i := by
    rw [← List.take_append_drop i l, List.findIdx?_append, h, drop_getD 0 hi]
    rw [List.findIdx?_cons]
    have hl : (l.take i).length = i := by rw [List.length_take]; omega
    simp [e, hl]
  rw [this]
theorem idxZ_step {l : List Int} {v : Int} {i : Nat} (h : (l.take i).findIdx? (· == v) = none) (hi : i < l.length) (e : ¬v = l.getD i 0) : (l.take (i + 1)).findIdx? (· == v) = none := by
  rw [take_getZ hi, List.findIdx?_append, h]
  have : ¬ l.getD i 0 = v := fun h => e h.symm
  simp [List.findIdx?_cons] at this ⊢
  exact this
theorem idxZ_end {l : List Int} {v : Int} {i : Nat} (h : (l.take i).findIdx? (· == v) = none) (hi : l.length ≤ i) : idxZ l v = -1 := by
  rw [List.take_of_length_le hi] at h
  unfold idxZ; rw [h]
theorem idxZ_has (l : List Int) (v : Int) : (idxZ l v ≥ 0) ↔ v ∈ l := by
  unfold idxZ
  cases h : l.findIdx? (· == v) with
  | none =>
    rw [List.findIdx?_eq_none_iff] at h
    simp only [ge_iff_le]
    constructor
    · intro h; omega
    · intro hm; have := h v hm; simp at this
  | some i =>
    rw [List.findIdx?_eq_some_iff_getElem] at h
    obtain ⟨h1, h2, _⟩ := h
    simp at h2
    simp only [ge_iff_le]
    exact ⟨fun _ => h2 ▸ List.getElem_mem h1, fun _ => by omega⟩
theorem getDz_int (l : List Int) (k : Nat) : (l.map (D.i .i64)).getD k (.i .i64 0) = .i .i64 (l.getD k 0) := by
  simp only [List.getD, List.getElem?_map]
  cases l[k]? <;> rfl
theorem dL_int (l : List Int) : decL 1 (decI .i64) (.sl 1 (l.map (D.i .i64))) = some l := decL_map (fun x => by simp [decI]) l
theorem dM_int (l : List Int) : decM (decI .i64) (l.map (D.i .i64)) = some l := decM_map (fun x => by simp [decI]) l
theorem gSort_ints (l : List Int) : gSort (l.map (D.i .i64)) = some (l.length ≤ 1000000, (sortZ l).map (D.i .i64)) := by
  unfold gSort; rw [dM_int]
theorem gSort_take (l : List Int) : gSort ((l.map (D.i .i64)).take l.length) = some (l.length ≤ 1000000, (sortZ l).map (D.i .i64)) := by
  rw [List.take_of_length_le (by simp), gSort_ints]
theorem sortZ_nil : sortZ [] = [] := by simp [sortZ]
theorem sortZ_take (l : List Int) : List.take l.length (sortZ l) = sortZ l := List.take_of_length_le (by rw [sortZ_len]; exact Nat.le_refl _)
theorem committedP_nil {l : List Entry} {i : Nat} (h : (comU (l.take i)).length = 0) (hi : l.length ≤ i) : committedP l = [] := by
  rw [List.take_of_length_le hi] at h
  unfold committedP
  rw [List.eq_nil_of_length_eq_zero h, sortZ_nil]
theorem committedP_eq {l : List Entry} {i : Nat} (hi : l.length ≤ i) : committedP l = sortZ (comU (l.take i)) := by
  rw [List.take_of_length_le hi]; rfl
/-! The reference's -/
def pCom (u n : Int) (e : Entry) : Bool := decide (e.kind = 2 ∧ e.unit = u ∧ e.number ≤ n)
def hasC (l : List Entry) (u n : Int) : Bool := l.any (pCom u n)
section
variable {l : List Entry} {u n : Int} {i : Nat}
theorem hasC_yes (h : i < l.length) (h1 : ((l.getD i zEntry).kind = 2 ∧ (l.getD i zEntry).unit = u) ∧ (l.getD i zEntry).number ≤ n) : hasC l u n = true := by
  unfold hasC
  rw [List.any_eq_true]
  exact ⟨_, getD_mem zEntry h, by simp only [pCom, decide_eq_true_eq]; exact ⟨h1.1.1, h1.1.2, h1.2⟩⟩
theorem hasC_step (hb : hasC (l.take i) u n = false) (h : i < l.length) (h1 : (¬(l.getD i zEntry).kind = 2 ∨ ¬(l.getD i zEntry).unit = u) ∨ n < (l.getD i zEntry).number) : hasC (l.take (i + 1)) u n = false := by
  unfold hasC at hb ⊢
  rw [take_getD zEntry h, List.any_append, hb]
  simp only [List.any_cons, List.any_nil, Bool.or_false, Bool.false_or, pCom, decide_eq_false_iff_not]
  rintro ⟨q1, q2, q3⟩
  rcases h1 with (h1 | h1) | h1
  · exact h1 q1
  · exact h1 q2
  · omega
theorem hasC_end (hb : hasC (l.take i) u n = false) (h : l.length ≤ i) : hasC l u n = false := by
  rwa [List.take_of_length_le h] at hb
end
/-- The units from 1 to k that f takes. -/
def unitsTo (f : Int → Bool) : Nat → List Int
  | 0 => []
  | k + 1 => if f ((k : Int) + 1) = true then unitsTo f k ++ [(k : Int) + 1] else unitsTo f k
theorem unitsTo_len (f : Int → Bool) : ∀ k, (unitsTo f k).length ≤ k
  | 0 => Nat.le_refl _
  | k + 1 => by
    have := unitsTo_len f k
    unfold unitsTo; split <;> simp <;> omega
def confF (x : Remote) (u : Int) : Bool := hasC x.source u x.acked
def lostF (x : Remote) (u : Int) : Bool := hasC x.source u x.source.length && !hasC x.target u x.target.length
def confirmedC (x : Remote) : List Int × Int := if remoteErr x ≠ 0 then ([], remoteErr x) else (committedP (x.source.take x.acked.toNat), 0)
theorem conf_err {x : Remote} (h : ¬remoteErr x = 0) : confirmedC x = ([], remoteErr x) := by rw [confirmedC, if_pos h]
theorem conf_ok {x : Remote} (h : remoteErr x = 0) : confirmedC x = (committedP (x.source.take x.acked.toNat), 0) := by rw [confirmedC, if_neg (fun e => e h)]
def lostTo (x : Remote) (i : Nat) : List Int := ((committedP x.source).take i).filter fun u => decide (u ∉ committedP x.target)
theorem lostTo_step {x : Remote} {i : Nat} (h : i < (committedP x.source).length) : lostTo x (i + 1) = if (committedP x.source).getD i 0 ∈ committedP x.target then lostTo x i else lostTo x i ++ [(committedP x.source).getD i 0] := by
  unfold lostTo
  rw [take_getZ h, List.filter_append]
  generalize (committedP x.source).getD i 0 = u
  by_cases hm : u ∈ committedP x.target <;> simp [hm]
theorem lostTo_len (x : Remote) (i : Nat) : (lostTo x i).length ≤ i := by
  unfold lostTo
  have := List.length_filter_le (fun u => decide (u ∉ committedP x.target)) ((committedP x.source).take i)
  have h2 := List.length_take_le i (committedP x.source)
  omega
def lostR (x : Remote) : List Int := (committedP x.source).filter fun u => decide (u ∉ committedP x.target)
theorem lostTo_end {x : Remote} {i : Nat} (h : (committedP x.source).length ≤ i) : lostTo x i = lostR x := by
  unfold lostTo lostR; rw [List.take_of_length_le h]
def lostC (x : Remote) : List Int × Int := if remoteErr x ≠ 0 then ([], remoteErr x) else (lostR x, 0)
theorem lost_err {x : Remote} (h : ¬remoteErr x = 0) : lostC x = ([], remoteErr x) := by rw [lostC, if_pos h]
theorem lost_ok {x : Remote} (h : remoteErr x = 0) : lostC x = (lostR x, 0) := by rw [lostC, if_neg (fun e => e h)]
theorem committedP_le (l : List Entry) : (committedP l).length ≤ l.length := by rw [committedP_len]; exact comU_len l
end Go.Ev

namespace Go.Ev
/-! ## The plain law of the units that are confirmed, and lost -/
def chk (l : List Entry) (j : Nat) : Prop := entryErr (l.getD j zEntry) = 0 ∧ ¬(0 < j ∧ (l.getD j zEntry).number ≠ IntKind.i64.wrap ((l.getD ((j : Int) - 1).toNat zEntry).number + 1)) ∧ stateErr (l.take j) (l.getD j zEntry) = 0
theorem checkFrom_all {l : List Entry} : ∀ (n i : Nat), (checkFrom l n i).2 = 0 → ∀ j, i ≤ j → j < i + n → chk l j
  | 0, i, _, j, h1, h2 => by omega
  | n + 1, i, h, j, h1, h2 => by
    unfold checkFrom at h
    split at h
    · exact absurd h ‹_›
    split at h
    · exact absurd h (show ¬((14 : Int) = 0) by decide)
    split at h
    · exact absurd h ‹_›
    by_cases e : j = i
    · subst e
      refine ⟨by omega, ‹_›, by omega⟩
    · exact checkFrom_all n (i + 1) h j (by omega) (by omega)
theorem check_all {l : List Entry} (h : (check l).2 = 0) {j : Nat} (hj : j < l.length) : chk l j := by
  unfold check at h
  split at h
  · cases h
  · exact checkFrom_all _ 0 h j (by omega) (by omega)
theorem chk_number {l : List Entry} (h : ∀ j, j < l.length → chk l j) (h1 : 0 < l.length → (l.getD 0 zEntry).number = 1) (hl : l.length ≤ 1000000) : ∀ j, j < l.length → (l.getD j zEntry).number = (j : Int) + 1
  | 0, hj => by rw [h1 hj]; rfl
  | j + 1, hj => by
    have p := chk_number h h1 hl j (by omega)
    have q := (h (j + 1) hj).2.1
    rw [int_pred, show j + 1 - 1 = j from rfl, p, w64 (by omega) (by omega)] at q
    have : ¬(l.getD (j + 1) zEntry).number ≠ (j : Int) + 1 + 1 := fun e => q ⟨by omega, e⟩
    omega
theorem mem_comU {l : List Entry} {u : Int} : u ∈ comU l ↔ ∃ e ∈ l, e.kind = 2 ∧ e.unit = u := by
  unfold comU
  simp only [List.mem_map, List.mem_filter, beq_iff_eq]
  constructor
  · rintro ⟨e, ⟨h1, h2⟩, h3⟩; exact ⟨e, h1, h2, h3⟩
  · rintro ⟨e, h1, h2, h3⟩; exact ⟨e, ⟨h1, h2⟩, h3⟩
theorem open_new {l : List Entry} {u : Int} (h : isOpen l u = true) : u ∉ comU l := by
  rw [mem_comU]
  rintro ⟨e, he, h2, h3⟩
  simp only [isOpen, Bool.and_eq_true, beq_iff_eq] at h
  have hn := h.2
  unfold ends at hn
  split at hn
  · rename_i e' he'
    have := List.find?_some he'
    simp only [pEnd, Bool.and_eq_true, Bool.or_eq_true, beq_iff_eq] at this
    omega
  · rename_i he'
    unfold ends? at he'
    rw [List.find?_eq_none] at he'
    exact he' e he (by simp [pEnd, h2, h3])
theorem com_facts {l : List Entry} (h : ∀ j, j < l.length → chk l j) : ∀ k, k ≤ l.length → (comU (l.take k)).Nodup ∧ ∀ u ∈ comU (l.take k), 1 ≤ u ∧ u ≤ 999
  | 0, _ => by simp [comU]
  | k + 1, hk => by
    have p := com_facts h k (by omega)
    rw [comU_take (by omega)]
    split
    · rename_i h2
      obtain ⟨q1, _, q3⟩ := h k (by omega)
      have ho : isOpen (l.take k) (l.getD k zEntry).unit = true := by
        unfold stateErr at q3
        rw [if_neg (by omega), if_pos (Or.inl h2)] at q3
        split at q3
        · assumption
        · cases q3
      have hu : 1 ≤ (l.getD k zEntry).unit ∧ (l.getD k zEntry).unit ≤ 999 := by
        unfold entryErr at q1
        split at q1
        · cases q1
        split at q1
        · cases q1
        split at q1
        · cases q1
        rename_i w
        exact Decidable.byContradiction fun z => w ⟨.inr (.inl h2), z⟩
      refine ⟨?_, ?_⟩
      · rw [List.nodup_append]
        refine ⟨p.1, by simp, fun a ha b hb => ?_⟩
        rw [List.mem_singleton] at hb
        subst hb
        exact fun e => open_new ho (e ▸ ha)
      · intro u hu'
        rw [List.mem_append, List.mem_singleton] at hu'
        rcases hu' with hu' | rfl
        · exact p.2 u hu'
        · exact hu
    · exact p
theorem sorted_ext : ∀ {a b : List Int}, a.Pairwise (· < ·) → b.Pairwise (· < ·) → (∀ u, u ∈ a ↔ u ∈ b) → a = b
  | [], [], _, _, _ => rfl
  | [], y :: b, _, _, h => absurd ((h y).2 (by simp)) (by simp)
  | x :: a, [], _, _, h => absurd ((h x).1 (by simp)) (by simp)
  | x :: a, y :: b, ha, hb, h => by
    rw [List.pairwise_cons] at ha hb
    have e : x = y := by
      have h1 := (h x).1 (by simp)
      have h2 := (h y).2 (by simp)
      rw [List.mem_cons] at h1 h2
      rcases h1 with h1 | h1
      · exact h1
      · rcases h2 with h2 | h2
        · exact h2.symm
        · have := ha.1 _ h2; have := hb.1 _ h1; omega
    subst e
    rw [sorted_ext ha.2 hb.2 fun u => ?_]
    constructor
    · intro hu
      have := (h u).1 (List.mem_cons_of_mem _ hu)
      rw [List.mem_cons] at this
      rcases this with rfl | this
      · have := ha.1 _ hu; omega
      · exact this
    · intro hu
      have := (h u).2 (List.mem_cons_of_mem _ hu)
      rw [List.mem_cons] at this
      rcases this with rfl | this
      · have := hb.1 _ hu; omega
      · exact this
theorem mem_sortZ {l : List Int} {u : Int} : u ∈ sortZ l ↔ u ∈ l := (List.mergeSort_perm _ _).mem_iff
theorem sortZ_lt {l : List Int} (h : l.Nodup) : (sortZ l).Pairwise (· < ·) := by
  have h1 : (sortZ l).Pairwise fun x y => decide (x ≤ y) = true := List.pairwise_mergeSort (fun a b c => by simp only [decide_eq_true_eq]; omega) (fun a b => by simp only [Bool.or_eq_true, decide_eq_true_eq]; omega) l
  have h2 : (sortZ l).Nodup := (List.mergeSort_perm _ _).nodup_iff.2 h
  exact (h1.and h2).imp fun {a b} q => by
    have q1 := q.1
    simp only [decide_eq_true_eq] at q1
    have q2 : a ≠ b := q.2
    omega
theorem mem_unitsTo {f : Int → Bool} {u : Int} : ∀ {k : Nat}, u ∈ unitsTo f k ↔ (1 ≤ u ∧ u ≤ (k : Int)) ∧ f u = true
  | 0 => by simp [unitsTo]; omega
  | k + 1 => by
    unfold unitsTo
    split
    · rename_i h
      rw [List.mem_append, List.mem_singleton, mem_unitsTo]
      constructor
      · rintro (⟨h1, h2⟩ | rfl)
        · exact ⟨by omega, h2⟩
        · exact ⟨by omega, h⟩
      · rintro ⟨h1, h2⟩
        by_cases e : u = (k : Int) + 1
        · exact .inr e
        · exact .inl ⟨by omega, h2⟩
    · rename_i h
      rw [mem_unitsTo]
      constructor
      · rintro ⟨h1, h2⟩
        exact ⟨by omega, h2⟩
      · rintro ⟨h1, h2⟩
        by_cases e : u = (k : Int) + 1
        · subst e; exact absurd h2 h
        · exact ⟨by omega, h2⟩
theorem unitsTo_lt {f : Int → Bool} : ∀ {k : Nat}, (unitsTo f k).Pairwise (· < ·)
  | 0 => by simp [unitsTo]
  | k + 1 => by
    unfold unitsTo
    split
    · rw [List.pairwise_append]
      refine ⟨unitsTo_lt, by simp, fun a ha b hb => ?_⟩
      rw [List.mem_singleton] at hb
      have := (mem_unitsTo.1 ha).1.2
      omega
    · exact unitsTo_lt
theorem hasC_iff {l : List Entry} {u n : Int} {k : Nat} (hn : ∀ j, j < l.length → (l.getD j zEntry).number = (j : Int) + 1) (hk : (k : Int) = n) : hasC l u n = true ↔ u ∈ comU (l.take k) := by
  unfold hasC
  rw [List.any_eq_true, mem_comU]
  simp only [pCom, decide_eq_true_eq]
  constructor
  · rintro ⟨e, he, h1, h2, h3⟩
    refine ⟨e, ?_, h1, h2⟩
    obtain ⟨j, hj, rfl⟩ := List.getElem_of_mem he
    have q := hn j hj
    rw [List.getD_eq_getElem?_getD, List.getElem?_eq_getElem hj, Option.getD_some] at q
    rw [List.mem_take_iff_getElem]
    exact ⟨j, by omega, rfl⟩
  · rintro ⟨e, he, h1, h2⟩
    rw [List.mem_take_iff_getElem] at he
    obtain ⟨j, hj, rfl⟩ := he
    have q := hn j (by omega)
    rw [List.getD_eq_getElem?_getD, List.getElem?_eq_getElem (by omega), Option.getD_some] at q
    exact ⟨_, List.getElem_mem _, h1, h2, by omega⟩
theorem right_numbers {x : Remote} (h : rightR x) : ∀ j, j < x.source.length → (x.source.getD j zEntry).number = (j : Int) + 1 :=
  chk_number (fun _ hj => check_all h.c hj) h.f (by have := h.n; omega)
theorem units_conf {x : Remote} (hx : remoteErr x = 0) : committedP (x.source.take x.acked.toNat) = unitsTo (confF x) 999 := by
  have h := remoteErr_iff.1 hx
  have h1 := h.a0; have h2 := h.a1; have h3 := h.t
  have c := com_facts (fun _ hj => check_all h.c hj) x.acked.toNat (by omega)
  refine sorted_ext (sortZ_lt c.1) unitsTo_lt fun u => ?_
  unfold committedP
  rw [mem_sortZ, mem_unitsTo, confF, hasC_iff (k := x.acked.toNat) (right_numbers h) (by omega)]
  exact ⟨fun hu => ⟨by have := c.2 u hu; omega, hu⟩, fun hu => hu.2⟩
theorem units_lost {x : Remote} (hx : remoteErr x = 0) : lostR x = unitsTo (lostF x) 999 := by
  have h := remoteErr_iff.1 hx
  have h3 := h.t
  have c := com_facts (fun _ hj => check_all h.c hj) x.source.length (Nat.le_refl _)
  rw [List.take_length] at c
  have e1 : ∀ u, hasC x.source u x.source.length = true ↔ u ∈ comU x.source := fun u => by
    rw [hasC_iff (k := x.source.length) (right_numbers h) rfl, List.take_length]
  have hn : ∀ j, j < x.target.length → (x.target.getD j zEntry).number = (j : Int) + 1 := fun j hj => by
    have q := right_numbers h j (by omega)
    rw [← h.b]
    rw [List.getD_eq_getElem?_getD, List.getElem?_take_of_lt hj, ← List.getD_eq_getElem?_getD]
    exact q
  have e2 : ∀ u, hasC x.target u x.target.length = true ↔ u ∈ comU x.target := fun u => by
    rw [hasC_iff (k := x.target.length) hn rfl, List.take_length]
  refine sorted_ext ((sortZ_lt c.1).filter _) unitsTo_lt fun u => ?_
  have e3 : u ∈ committedP x.source ↔ u ∈ comU x.source := mem_sortZ
  have e4 : u ∈ committedP x.target ↔ u ∈ comU x.target := mem_sortZ
  unfold lostR
  rw [List.mem_filter, mem_unitsTo, lostF, Bool.and_eq_true, e1, e3, decide_eq_true_eq, e4, Bool.not_eq_true', ← Bool.not_eq_true, e2]
  exact ⟨fun hu => ⟨by have := c.2 u hu.1; omega, hu⟩, fun hu => hu.2⟩
end Go.Ev

namespace Go.Ev
open Go.Proofs Ty
set_option maxRecDepth 10000
set_option maxHeartbeats 4000000
set_option linter.unusedSimpArgs false
set_option linter.unusedVariables false
theorem isK3 (n : Int) : isK Try.prog 3 (.i .i64 n) = true := by unfold isK; rw [Try.underlying3]; simp
theorem isK3s (us : List AUnit) : ∀ d ∈ us.map keyU, isK Try.prog 3 d = true := fun d hd => by
  obtain ⟨u, _, rfl⟩ := List.mem_map.1 hd
  exact isK3 _

def tiAll : FuncId → Option (Nat × (List D → Option (Prop × List D))) := fun f => if f = 59 then some (1, gSort) else none
theorem tiOk1 (f : FuncId) (sz : Nat) (g : List D → Option (Prop × List D)) (h : tiAll f = some (sz, g)) : SemI Try.prog f sz g := by
  unfold tiAll at h
  split at h
  · rename_i e; subst e; cases h; exact sort_semI
  · cases h
theorem tiOk2 (f : FuncId) (x : Nat × (List D → Option (Prop × List D))) (h : tiAll f = some x) : Enters Try.prog f := by
  unfold tiAll at h
  split at h
  · rename_i e; subst e; exact ⟨_, Try.func59, rfl, rfl⟩
  · cases h

theorem follows : Try.prog.follows .mixedOrders = true := by kernel_rfl
def mvs : FuncId → Nat → List (Nat × TypeId × Nat) := fun f => if f = 52 then (fun j => if j = 0 then [(1, 42, 8), (2, 42, 8), (5, 66, 2)] else []) else if f = 54 then (fun j => if j = 0 then [(1, 42, 8), (2, 42, 8), (5, 66, 2)] else []) else if f = 40 then (fun j => if j = 0 then [(1, 42, 8), (2, 42, 8), (5, 66, 2)] else []) else if f = 53 then (fun j => if j = 0 then [(0, 66, 2)] else []) else if f = 47 then (fun j => if j = 2 then [(4242, 26, 0), (0, 44, 10)] else []) else fun _ => []

noncomputable def e43 : List O → Option (Prop × O)
  | [.d (.i .i64 n), .d (.i .i64 least), .d (.i .i64 most)] => some (True, .d (.b (decide (least ≤ n) && decide (n ≤ most))))
  | _ => none
noncomputable def tab43 : FuncId → List O → Option (Prop × O) := addT (fun _ _ => none) 43 e43

noncomputable def e72 : List O → Option (Prop × O)
  | [.d (.i .i64 n), .d (.i .i64 least), .d (.i .i64 most)] => some (True, .d (.b (decide (least ≤ n) && decide (n ≤ most))))
  | _ => none
noncomputable def tab72 : FuncId → List O → Option (Prop × O) := addT tab43 72 e72

noncomputable def e56 : List O → Option (Prop × O)
  | [.d (.b b)] => some (True, .d (.i .i64 (if b = true then 1 else 0)))
  | _ => none
noncomputable def tab56 : FuncId → List O → Option (Prop × O) := addT tab72 56 e56

noncomputable def e85 : List O → Option (Prop × O)
  | [.d (.i .u8 c)] => some (True, .d (.b (decide (65 ≤ c) && decide (c ≤ 90))))
  | _ => none
noncomputable def tab85 : FuncId → List O → Option (Prop × O) := addT tab56 85 e85

noncomputable def e86 : List O → Option (Prop × O)
  | [.d (.i .u8 c)] => some (True, .d (.b (decide (48 ≤ c) && decide (c ≤ 57))))
  | _ => none
noncomputable def tab86 : FuncId → List O → Option (Prop × O) := addT tab85 86 e86

noncomputable def e68 : List O → Option (Prop × O)
  | [.d (.s s)] => some (True, .d (.b (isName s)))
  | _ => none
noncomputable def tab68 : FuncId → List O → Option (Prop × O) := addT tab86 68 e68

noncomputable def e73 : List O → Option (Prop × O)
  | [.d (.s s)] => some (True, .d (.b (isName s)))
  | _ => none
noncomputable def tab73 : FuncId → List O → Option (Prop × O) := addT tab68 73 e73

noncomputable def e69 : List O → Option (Prop × O)
  | [.d x_c] => match decChange x_c with
    | some c => some (True, .d (.i .i64 (changeErr c)))
    | _ => none
  | _ => none
noncomputable def tab69 : FuncId → List O → Option (Prop × O) := addT tab73 69 e69

noncomputable def e67 : List O → Option (Prop × O)
  | [.d x_e] => match decEntry x_e with
    | some e => some (True, .d (.i .i64 (formErr e)))
    | _ => none
  | _ => none
noncomputable def tab67 : FuncId → List O → Option (Prop × O) := addT tab69 67 e67

noncomputable def e62 : List O → Option (Prop × O)
  | [.d x_e] => match decEntry x_e with
    | some e => some (True, .d (.i .i64 (entryErr e)))
    | _ => none
  | _ => none
noncomputable def tab62 : FuncId → List O → Option (Prop × O) := addT tab67 62 e62

noncomputable def e64 : List O → Option (Prop × O)
  | [.d x_e] => match decEntry x_e with
    | some e => some (True, .d (.i .i64 (entryErr e)))
    | _ => none
  | _ => none
noncomputable def tab64 : FuncId → List O → Option (Prop × O) := addT tab62 64 e64

noncomputable def e35 : List O → Option (Prop × O)
  | [.d x_l] => match decL 8 decEntry x_l with
    | some l => some (True, .d (.b (few35 l)))
    | _ => none
  | _ => none
noncomputable def tab35 : FuncId → List O → Option (Prop × O) := addT tab64 35 e35

noncomputable def e71 : List O → Option (Prop × O)
  | [.d x_l, .d (.i .i64 unit)] => match decL 8 decEntry x_l with
    | some l => some (l.length ≤ 1000000, .d (.b (begins l unit)))
    | _ => none
  | _ => none
noncomputable def tab71 : FuncId → List O → Option (Prop × O) := addT tab35 71 e71

noncomputable def e87 : List O → Option (Prop × O)
  | [.d x_l, .d (.i .i64 unit)] => match decL 8 decEntry x_l with
    | some l => some (l.length ≤ 1000000, .d (.i .i64 (ends l unit)))
    | _ => none
  | _ => none
noncomputable def tab87 : FuncId → List O → Option (Prop × O) := addT tab71 87 e87

noncomputable def e70 : List O → Option (Prop × O)
  | [.d x_l, .d (.i .i64 unit)] => match decL 8 decEntry x_l with
    | some l => some (l.length ≤ 1000000, .d (.b (isOpen l unit)))
    | _ => none
  | _ => none
noncomputable def tab70 : FuncId → List O → Option (Prop × O) := addT tab87 70 e70

noncomputable def e63 : List O → Option (Prop × O)
  | [.d x_l, .d x_e] => match decL 8 decEntry x_l, decEntry x_e with
    | some l, some e => some (l.length ≤ 1000000, .d (.i .i64 (stateErr l e)))
    | _, _ => none
  | _ => none
noncomputable def tab63 : FuncId → List O → Option (Prop × O) := addT tab70 63 e63

noncomputable def e57 : List O → Option (Prop × O)
  | [.d x_l] => match decL 8 decEntry x_l with
    | some l => some (l.length ≤ 1000000, .tup [.d (.i .i64 (check l).1), .d (.i .i64 (check l).2)])
    | _ => none
  | _ => none
noncomputable def tab57 : FuncId → List O → Option (Prop × O) := addT tab63 57 e57

noncomputable def e41 : List O → Option (Prop × O)
  | [.d x_l] => match decL 8 decEntry x_l with
    | some l => some (l.length ≤ 1000000, .d (.i .i64 (check l).2))
    | _ => none
  | _ => none
noncomputable def tab41 : FuncId → List O → Option (Prop × O) := addT tab57 41 e41

noncomputable def e27 : List O → Option (Prop × O)
  | [.d x_a, .d x_b] => match decL 8 decEntry x_a, decL 8 decEntry x_b with
    | some a, some b => some (a.length ≤ 1000000, .d (.b (decide (a = b))))
    | _, _ => none
  | _ => none
noncomputable def tab27 : FuncId → List O → Option (Prop × O) := addT tab41 27 e27

noncomputable def e46 : List O → Option (Prop × O)
  | [.d x_a, .d x_b] => match decL 8 decEntry x_a, decL 8 decEntry x_b with
    | some a, some b => some (a.length ≤ 1000000, .d (.b (decide (a = b))))
    | _, _ => none
  | _ => none
noncomputable def tab46 : FuncId → List O → Option (Prop × O) := addT tab27 46 e46

noncomputable def e42 : List O → Option (Prop × O)
  | [.d x_l, .d x_first] => match decL 8 decEntry x_l, decL 8 decEntry x_first with
    | some l, some first => some (l.length ≤ 1000000, .d (.b (beginsWith l first)))
    | _, _ => none
  | _ => none
noncomputable def tab42 : FuncId → List O → Option (Prop × O) := addT tab46 42 e42

noncomputable def e58 : List O → Option (Prop × O)
  | [.d x_l] => match decL 8 decEntry x_l with
    | some l => some (l.length ≤ 1000000, .tup [.d (.mp ((cycles l).map keyU) ((cycles l).map fun u => .cp (cellsU u))), .d (.i .i64 (check l).1), .d (.i .i64 (check l).2)])
    | _ => none
  | _ => none
noncomputable def tab58 : FuncId → List O → Option (Prop × O) := addT tab42 58 e58

noncomputable def e45 : List O → Option (Prop × O)
  | [.d x_l] => match decL 8 decEntry x_l with
    | some l => some (l.length ≤ 1000000, .tup [.d (.i .i64 (check l).1), .d (.i .i64 (check l).2)])
    | _ => none
  | _ => none
noncomputable def tab45 : FuncId → List O → Option (Prop × O) := addT tab58 45 e45

noncomputable def e21 : List O → Option (Prop × O)
  | [.d x_x] => match decRemote x_x with
    | some x => some (x.source.length ≤ 1000000 ∧ x.target.length ≤ 1000000 ∧ x.wire.length ≤ 1000000, .d (.i .i64 (remoteErr x)))
    | _ => none
  | _ => none
noncomputable def tab21 : FuncId → List O → Option (Prop × O) := addT tab45 21 e21

noncomputable def e23 : List O → Option (Prop × O)
  | [.d x_x] => match decRemote x_x with
    | some x => some (x.source.length ≤ 1000000 ∧ x.target.length ≤ 1000000 ∧ x.wire.length ≤ 1000000, .d (.i .i64 (remoteErr x)))
    | _ => none
  | _ => none
noncomputable def tab23 : FuncId → List O → Option (Prop × O) := addT tab21 23 e23

noncomputable def e38 : List O → Option (Prop × O)
  | [.d x_l] => match decL 8 decEntry x_l with
    | some l => some (l.length ≤ 1000000, .own 42 8 (l.map encEntry))
    | _ => none
  | _ => none
noncomputable def tab38 : FuncId → List O → Option (Prop × O) := addT tab23 38 e38

noncomputable def e44 : List O → Option (Prop × O)
  | [.d x_l] => match decL 8 decEntry x_l with
    | some l => some (l.length ≤ 1000000, .own 42 8 (l.map encEntry))
    | _ => none
  | _ => none
noncomputable def tab44 : FuncId → List O → Option (Prop × O) := addT tab38 44 e44

noncomputable def e51 : List O → Option (Prop × O)
  | [.d x_l] => match decL 2 decPacket x_l with
    | some l => some (l.length ≤ 1000000, .own 66 2 (l.map encPacket))
    | _ => none
  | _ => none
noncomputable def tab51 : FuncId → List O → Option (Prop × O) := addT tab44 51 e51

noncomputable def e15 : List O → Option (Prop × O)
  | [.d x_l] => match decL 10 decRAct x_l with
    | some l => some (l.length ≤ 1000000, .own 44 10 (l.map encRAct))
    | _ => none
  | _ => none
noncomputable def tab15 : FuncId → List O → Option (Prop × O) := addT tab51 15 e15

noncomputable def e36 : List O → Option (Prop × O)
  | [.d x_x] => match decRemote x_x with
    | some x => some (x.source.length ≤ 1000000 ∧ x.target.length ≤ 1000000 ∧ x.wire.length ≤ 1000000, .agg [.d (.b x.sync), .own 42 8 (x.source.map encEntry), .own 42 8 (x.target.map encEntry), .d (.i .i64 x.sent), .d (.i .i64 x.acked), .own 66 2 (x.wire.map encPacket)])
    | _ => none
  | _ => none
noncomputable def tab36 : FuncId → List O → Option (Prop × O) := addT tab15 36 e36

noncomputable def e14 : List O → Option (Prop × O)
  | [.d x_x] => match decRemote x_x with
    | some x => some (x.source.length ≤ 1000000 ∧ x.target.length ≤ 1000000 ∧ x.wire.length ≤ 1000000, .agg [.d (.b x.sync), .own 42 8 (x.source.map encEntry), .own 42 8 (x.target.map encEntry), .d (.i .i64 x.sent), .d (.i .i64 x.acked), .own 66 2 (x.wire.map encPacket)])
    | _ => none
  | _ => none
noncomputable def tab14 : FuncId → List O → Option (Prop × O) := addT tab36 14 e14

noncomputable def e11 : List O → Option (Prop × O)
  | [.d x_x] => match decRemote x_x with
    | some x => some (True, .d (.b (few36 x)))
    | _ => none
  | _ => none
noncomputable def tab11 : FuncId → List O → Option (Prop × O) := addT tab14 11 e11

noncomputable def e18 : List O → Option (Prop × O)
  | [.d x_a] => match decRAct x_a with
    | some a => some (True, .d (.b (few35 [a.entry])))
    | _ => none
  | _ => none
noncomputable def tab18 : FuncId → List O → Option (Prop × O) := addT tab11 18 e18

noncomputable def e12 : List O → Option (Prop × O)
  | [.d x_l] => match decL 10 decRAct x_l with
    | some l => some (True, .d (.b (light l)))
    | _ => none
  | _ => none
noncomputable def tab12 : FuncId → List O → Option (Prop × O) := addT tab18 12 e12

noncomputable def e61 : List O → Option (Prop × O)
  | [.d x_x] => match decRemote x_x with
    | some x => some (x.source.length ≤ 1000000 ∧ (x.acked ≠ x.source.length → 0 < x.source.length), .d (.b (waits x)))
    | _ => none
  | _ => none
noncomputable def tab61 : FuncId → List O → Option (Prop × O) := addT tab12 61 e61

def ownRemote (x : Remote) : O := .agg [.d (.b x.sync), .own 42 8 (x.source.map encEntry), .own 42 8 (x.target.map encEntry), .d (.i .i64 x.sent), .d (.i .i64 x.acked), .own 66 2 (x.wire.map encPacket)]
def decOwnRemote : O → Option Remote
  | .agg [.d (.b a), .own 42 8 s, .own 42 8 t, .d (.i .i64 n), .d (.i .i64 k), .own 66 2 w] => match decM decEntry s, decM decEntry t, decM decPacket w with
    | some s, some t, some w => some ⟨a, s, t, n, k, w⟩
    | _, _, _ => none
  | _ => none
theorem decOwnRemote_le {o : O} {x : Remote} (h : decOwnRemote o = some x) : ole o (ownRemote x) := by
  unfold decOwnRemote at h
  split at h
  · split at h
    · rename_i h1 h2 h3
      cases h
      simp only [ole, oles, dle, ownRemote, true_and, and_true]
      exact ⟨decM_le decEntry_le h1, decM_le decEntry_le h2, decM_le decPacket_le h3⟩
    · cases h
  · cases h

noncomputable def e53 : List O → Option (Prop × O)
  | [.own 66 2 s, .d (.i .i64 i), .d (.i .i64 j)] => match decM decPacket s with
    | some l => some (l.length ≤ 1000000 ∧ 0 ≤ i ∧ i < l.length ∧ j = i + 1, .own 66 2 ((l.eraseIdx i.toNat).map encPacket))
    | none => none
  | _ => none
noncomputable def tab53 : FuncId → List O → Option (Prop × O) := addT tab61 53 e53

noncomputable def e54 : List O → Option (Prop × O)
  | [o_x, .d x_p] => match decOwnRemote o_x, decPacket x_p with
    | some x, some p => some (x.source.length ≤ 1000000 ∧ x.target.length ≤ 1000000 ∧ x.wire.length ≤ 1000000 ∧ (p.kind ≠ 1 → p.number = x.target.length + 1 → x.target.length < x.source.length), .d (encRemote (arrivedR x p)))
    | _, _ => none
  | _ => none
noncomputable def tab54 : FuncId → List O → Option (Prop × O) := addT tab53 54 e54

noncomputable def e52 : List O → Option (Prop × O)
  | [o_x, .d x_entry] => match decOwnRemote o_x, decEntry x_entry with
    | some x, some entry => some (x.source.length ≤ 1000000 ∧ x.target.length ≤ 1000000 ∧ x.wire.length ≤ 1000000 ∧ (x.acked ≠ x.source.length → 0 < x.source.length), .tup [.d (encRemote (appendedR x entry).1), .d (.i .i64 (appendedR x entry).2)])
    | _, _ => none
  | _ => none
noncomputable def tab52 : FuncId → List O → Option (Prop × O) := addT tab54 52 e52

noncomputable def e37 : List O → Option (Prop × O)
  | [.d x_x, .d x_a] => match decRemote x_x, decRAct x_a with
    | some x, some a => some (goodR x, .tup [.d (encRemote (actR x a).1), .d (.i .i64 (actR x a).2)])
    | _, _ => none
  | _ => none
noncomputable def tab37 : FuncId → List O → Option (Prop × O) := addT tab52 37 e37

noncomputable def e36d : List O → Option (Prop × O)
  | [.d x_x] => match decRemote x_x with
    | some x => some (x.source.length ≤ 1000000 ∧ x.target.length ≤ 1000000 ∧ x.wire.length ≤ 1000000, .d (encRemote x))
    | _ => none
  | _ => none
noncomputable def tab36d : FuncId → List O → Option (Prop × O) := addT tab37 36 e36d

noncomputable def e19 : List O → Option (Prop × O)
  | [.d x_x, .d x_a] => match decRemote x_x, decRAct x_a with
    | some x, some a => some (x.source.length ≤ 1000000 ∧ x.target.length ≤ 1000000 ∧ x.wire.length ≤ 1000000, .tup [.d (encRemote (actC x a).1), .d (.i .i64 (actC x a).2)])
    | _, _ => none
  | _ => none
noncomputable def tab19 : FuncId → List O → Option (Prop × O) := addT tab36d 19 e19

noncomputable def e13 : List O → Option (Prop × O)
  | [.d x_x, .d x_l] => match decRemote x_x, decL 10 decRAct x_l with
    | some x, some l => some (x.source.length ≤ 1000000 ∧ x.target.length ≤ 1000000 ∧ x.wire.length ≤ 1000000 ∧ l.length ≤ 1000000, .tup [.d (encRemote (runR x l).1), .d (.i .i64 (runR x l).2.1), .d (.i .i64 (runR x l).2.2)])
    | _, _ => none
  | _ => none
noncomputable def tab13 : FuncId → List O → Option (Prop × O) := addT tab19 13 e13

noncomputable def e40 : List O → Option (Prop × O)
  | [o_x, .d x_p] => match decOwnRemote o_x, decPacket x_p with
    | some x, some p => some (x.source.length ≤ 1000000 ∧ x.target.length ≤ 1000000 ∧ x.wire.length ≤ 1000000 ∧ x.wire.length < 12 ∧ (p.kind ≠ 1 → p.number = x.target.length + 1 → x.target.length < x.source.length), .d (encRemote (arrivedR x p)))
    | _, _ => none
  | _ => none
noncomputable def tab40 : FuncId → List O → Option (Prop × O) := addT tab13 40 e40

noncomputable def e55 : List O → Option (Prop × O)
  | [.d x_x, .d x_e] => match decRemote x_x, decEntry x_e with
    | some x, some e => some (goodR x, .d (.i .i64 (appendedR x e).2))
    | _, _ => none
  | _ => none
noncomputable def tab55 : FuncId → List O → Option (Prop × O) := addT tab40 55 e55

noncomputable def e39 : List O → Option (Prop × O)
  | [.d x_x, .d x_a] => match decRemote x_x, decRAct x_a with
    | some x, some a => some (goodR x, .d (.i .i64 (actR x a).2))
    | _, _ => none
  | _ => none
noncomputable def tab39 : FuncId → List O → Option (Prop × O) := addT tab55 39 e39

noncomputable def e20 : List O → Option (Prop × O)
  | [.d x_x, .d x_a] => match decRemote x_x, decRAct x_a with
    | some x, some a => some (x.source.length ≤ 1000000 ∧ x.target.length ≤ 1000000 ∧ x.wire.length ≤ 1000000, .tup [.d (encRemote (actC x a).1), .d (.i .i64 (actC x a).2)])
    | _, _ => none
  | _ => none
noncomputable def tab20 : FuncId → List O → Option (Prop × O) := addT tab39 20 e20

noncomputable def e14d : List O → Option (Prop × O)
  | [.d x_x] => match decRemote x_x with
    | some x => some (x.source.length ≤ 1000000 ∧ x.target.length ≤ 1000000 ∧ x.wire.length ≤ 1000000, .d (encRemote x))
    | _ => none
  | _ => none
noncomputable def tab14d : FuncId → List O → Option (Prop × O) := addT tab20 14 e14d

noncomputable def e34 : List O → Option (Prop × O)
  | [.d x_x] => match decRemote x_x with
    | some x => some (x.source.length ≤ 1000000 ∧ x.target.length ≤ 1000000 ∧ x.wire.length ≤ 1000000, .d (encRemote ⟨x.sync, x.source, x.source, x.source.length, x.source.length, []⟩))
    | _ => none
  | _ => none
noncomputable def tab34 : FuncId → List O → Option (Prop × O) := addT tab14d 34 e34

noncomputable def e16 : List O → Option (Prop × O)
  | [.d x_x, .d x_l] => match decRemote x_x, decL 10 decRAct x_l with
    | some x, some l => some (x.source.length ≤ 1000000 ∧ x.target.length ≤ 1000000 ∧ x.wire.length ≤ 1000000 ∧ l.length ≤ 1000000, .tup [.d (encRemote (runR x l).1), .d (.i .i64 (runR x l).2.1), .d (.i .i64 (runR x l).2.2)])
    | _, _ => none
  | _ => none
noncomputable def tab16 : FuncId → List O → Option (Prop × O) := addT tab34 16 e16

noncomputable def e17 : List O → Option (Prop × O)
  | [.d x_a, .d x_b] => match decRemote x_a, decRemote x_b with
    | some a, some b => some (a.source.length ≤ 1000000 ∧ a.target.length ≤ 1000000 ∧ a.wire.length ≤ 1000000, .d (.b (decide (a = b))))
    | _, _ => none
  | _ => none
noncomputable def tab17 : FuncId → List O → Option (Prop × O) := addT tab16 17 e17

noncomputable def e10 : List O → Option (Prop × O)
  | [] => some (True, .d (.b true))
  | _ => none
noncomputable def tab10 : FuncId → List O → Option (Prop × O) := addT tab17 10 e10

noncomputable def e3 : List O → Option (Prop × O)
  | [.d x_x, .d x_l] => match decRemote x_x, decL 10 decRAct x_l with
    | some x, some l => some (True, .d (.b true))
    | _, _ => none
  | _ => none
noncomputable def tab3 : FuncId → List O → Option (Prop × O) := addT tab10 3 e3

noncomputable def e4 : List O → Option (Prop × O)
  | [.d x_x, .d x_a] => match decRemote x_x, decRAct x_a with
    | some x, some a => some (True, .d (.b true))
    | _, _ => none
  | _ => none
noncomputable def tab4 : FuncId → List O → Option (Prop × O) := addT tab3 4 e4

noncomputable def e22 : List O → Option (Prop × O)
  | [.d x_x] => match decRemote x_x with
    | some x => some (x.source.length ≤ 1000000 ∧ x.target.length ≤ 1000000 ∧ x.wire.length ≤ 1000000, .tup [.d (encRemote (deliveredR x).1), .d (.i .i64 (deliveredR x).2)])
    | _ => none
  | _ => none
noncomputable def tab22 : FuncId → List O → Option (Prop × O) := addT tab4 22 e22

noncomputable def e5 : List O → Option (Prop × O)
  | [.d x_x] => match decRemote x_x with
    | some x => some (True, .d (.b true))
    | _ => none
  | _ => none
noncomputable def tab5 : FuncId → List O → Option (Prop × O) := addT tab22 5 e5

noncomputable def e47 : List O → Option (Prop × O)
  | [.d x_a, .d x_x, .bx 26 [.own 44 10 x_l]] => match decRAct x_a, decCp decRemote x_x, decM decRAct x_l with
    | some a, some x, some l => some (goodR x ∧ l.length ≤ 1000, .tup [.bx 26 [.own 44 10 ((tryOne x a l).map encRAct)]])
    | _, _, _ => none
  | _ => none
noncomputable def tab47 : FuncId → List O → Option (Prop × O) := addT tab5 47 e47

noncomputable def e24 : List O → Option (Prop × O)
  | [.d x_x] => match decRemote x_x with
    | some x => some (x.source.length ≤ 1000000 ∧ x.target.length ≤ 1000000 ∧ x.wire.length ≤ 1000000, .tup [.d (.sl 10 ((actsC x).1.map encRAct)), .d (.i .i64 (actsC x).2)])
    | _ => none
  | _ => none
noncomputable def tab24 : FuncId → List O → Option (Prop × O) := addT tab47 24 e24

noncomputable def e25 : List O → Option (Prop × O)
  | [.d x_a, .d x_b] => match decL 10 decRAct x_a, decL 10 decRAct x_b with
    | some a, some b => some (a.length ≤ 1000000, .d (.b (decide (a = b))))
    | _, _ => none
  | _ => none
noncomputable def tab25 : FuncId → List O → Option (Prop × O) := addT tab24 25 e25

noncomputable def e26 : List O → Option (Prop × O)
  | [.d x_x] => match decRemote x_x with
    | some x => some (goodR x, .d (.sl 10 ((actsR x).map encRAct)))
    | _ => none
  | _ => none
noncomputable def tab26 : FuncId → List O → Option (Prop × O) := addT tab25 26 e26

noncomputable def e6 : List O → Option (Prop × O)
  | [.d x_x] => match decRemote x_x with
    | some x => some (True, .d (.b true))
    | _ => none
  | _ => none
noncomputable def tab6 : FuncId → List O → Option (Prop × O) := addT tab26 6 e6

noncomputable def e59 : List O → Option (Prop × O)
  | [.d (.sl 1 l)] => some (l = [], .tup [])
  | _ => none
noncomputable def tab59 : FuncId → List O → Option (Prop × O) := addT tab6 59 e59

noncomputable def e60 : List O → Option (Prop × O)
  | [.d x_l, .d (.i .i64 v)] => match decL 1 (decI .i64) x_l with
    | some l => some (l.length ≤ 1000000, .d (.i .i64 (idxZ l v)))
    | _ => none
  | _ => none
noncomputable def tab60 : FuncId → List O → Option (Prop × O) := addT tab59 60 e60

noncomputable def e49 : List O → Option (Prop × O)
  | [.d x_l, .d (.i .i64 v)] => match decL 1 (decI .i64) x_l with
    | some l => some (l.length ≤ 1000000, .d (.b (decide (v ∈ l))))
    | _ => none
  | _ => none
noncomputable def tab49 : FuncId → List O → Option (Prop × O) := addT tab60 49 e49

noncomputable def e31 : List O → Option (Prop × O)
  | [.d x_a, .d x_b] => match decL 1 (decI .i64) x_a, decL 1 (decI .i64) x_b with
    | some a, some b => some (a.length ≤ 1000000, .d (.b (decide (a = b))))
    | _, _ => none
  | _ => none
noncomputable def tab31 : FuncId → List O → Option (Prop × O) := addT tab49 31 e31

noncomputable def e48 : List O → Option (Prop × O)
  | [.d x_l] => match decL 8 decEntry x_l with
    | some l => some (l.length ≤ 1000000, .d (.sl 1 ((committedP l).map (D.i .i64))))
    | _ => none
  | _ => none
noncomputable def tab48 : FuncId → List O → Option (Prop × O) := addT tab31 48 e48

noncomputable def e50 : List O → Option (Prop × O)
  | [.d x_l, .d (.i .i64 unit), .d (.i .i64 to)] => match decL 8 decEntry x_l with
    | some l => some (l.length ≤ 1000000, .d (.b (hasC l unit to)))
    | _ => none
  | _ => none
noncomputable def tab50 : FuncId → List O → Option (Prop × O) := addT tab48 50 e50

noncomputable def e32 : List O → Option (Prop × O)
  | [.d x_x] => match decRemote x_x with
    | some x => some (x.source.length ≤ 1000000 ∧ x.target.length ≤ 1000000 ∧ x.wire.length ≤ 1000000, .d (.sl 1 ((unitsTo (confF x) 999).map (D.i .i64))))
    | _ => none
  | _ => none
noncomputable def tab32 : FuncId → List O → Option (Prop × O) := addT tab50 32 e32

noncomputable def e33 : List O → Option (Prop × O)
  | [.d x_x] => match decRemote x_x with
    | some x => some (x.source.length ≤ 1000000 ∧ x.target.length ≤ 1000000 ∧ x.wire.length ≤ 1000000, .d (.sl 1 ((unitsTo (lostF x) 999).map (D.i .i64))))
    | _ => none
  | _ => none
noncomputable def tab33 : FuncId → List O → Option (Prop × O) := addT tab32 33 e33

noncomputable def e28 : List O → Option (Prop × O)
  | [.d x_x] => match decRemote x_x with
    | some x => some (x.source.length ≤ 1000000 ∧ x.target.length ≤ 1000000 ∧ x.wire.length ≤ 1000000, .tup [.d (.sl 1 ((confirmedC x).1.map (D.i .i64))), .d (.i .i64 (confirmedC x).2)])
    | _ => none
  | _ => none
noncomputable def tab28 : FuncId → List O → Option (Prop × O) := addT tab33 28 e28

noncomputable def e30 : List O → Option (Prop × O)
  | [.d x_x] => match decRemote x_x with
    | some x => some (x.source.length ≤ 1000000 ∧ x.target.length ≤ 1000000 ∧ x.wire.length ≤ 1000000, .tup [.d (.sl 1 ((lostC x).1.map (D.i .i64))), .d (.i .i64 (lostC x).2)])
    | _ => none
  | _ => none
noncomputable def tab30 : FuncId → List O → Option (Prop × O) := addT tab28 30 e30

noncomputable def e9 : List O → Option (Prop × O)
  | [.d x_x] => match decRemote x_x with
    | some x => some (True, .d (.b true))
    | _ => none
  | _ => none
noncomputable def tab9 : FuncId → List O → Option (Prop × O) := addT tab30 9 e9

end Go.Ev

namespace Go.Ev
/-! ## Nothing is lost: the plain law -/
theorem fewGo_of : ∀ {l : List Entry} {i : Nat}, l.length + i ≤ 82 → (∀ e ∈ l, e.change.before.size ≤ 300 ∧ e.change.after.size ≤ 300) → fewGo i l = true
  | [], _, _, _ => rfl
  | e :: l, i, h, hs => by
    simp only [List.length_cons] at h
    have h1 := hs e (by simp)
    simp only [fewGo, Bool.and_eq_true, decide_eq_true_eq]
    exact ⟨⟨by omega, h1⟩, fewGo_of (by omega) fun e he => hs e (by simp [he])⟩
theorem entry_sizes {e : Entry} (h : entryErr e = 0) : e.change.before.size ≤ 300 ∧ e.change.after.size ≤ 300 := by
  unfold entryErr at h
  split at h
  · cases h
  split at h
  · cases h
  split at h
  · cases h
  split at h
  · cases h
  split at h
  · cases h
  rename_i h1 h2 h3 h4 h5
  rw [Decidable.not_not] at h5
  have z : (zChange.before.size = 0) ∧ (zChange.after.size = 0) := ⟨rfl, rfl⟩
  by_cases k0 : e.kind = 0
  · rw [if_neg (by omega)] at h
    split at h
    · cases h
    rw [if_neg (by omega)] at h
    unfold changeErr at h
    split at h
    · cases h
    split at h
    · cases h
    split at h
    · cases h
    omega
  · have : e.change.before.size = 0 ∧ e.change.after.size = 0 := by
      unfold formUsed at h5
      rw [if_neg k0] at h5
      split at h5
      · rw [← h5]; exact z
      · split at h5
        · rw [← h5]; exact z
        · rw [← h5]; exact z
    omega
theorem right_few {x : Remote} (h : rightR x) : few36 x = true := by
  have hs : ∀ e ∈ x.source, e.change.before.size ≤ 300 ∧ e.change.after.size ≤ 300 := fun e he => by
    obtain ⟨j, hj, rfl⟩ := List.getElem_of_mem he
    have := (check_all h.c hj).1
    rw [List.getD_eq_getElem?_getD, List.getElem?_eq_getElem hj, Option.getD_some] at this
    exact entry_sizes this
  have h1 := h.n; have h2 := h.t; have h3 := h.w
  simp only [few36, Bool.and_eq_true, decide_eq_true_eq]
  refine ⟨⟨fewGo_of (by omega) hs, fewGo_of (by omega) fun e he => ?_⟩, by omega⟩
  rw [← h.b] at he
  exact hs e (List.mem_of_mem_take he)
theorem act_mono {x : Remote} {a : RAct} (h0 : (actR x a).2 = 0) : x.acked ≤ (actR x a).1.acked ∧ x.target.length ≤ (actR x a).1.target.length := by
  obtain ⟨_, _, _, q⟩ := actR_ok h0
  rw [q]
  split
  · exact ⟨Int.le_refl _, Nat.le_refl _⟩
  split
  · exact ⟨Int.le_refl _, Nat.le_refl _⟩
  split
  · unfold arrivedR
    split
    · refine ⟨?_, Nat.le_refl _⟩
      simp only; split <;> omega
    · refine ⟨Int.le_refl _, ?_⟩
      simp only; split
      · simp
      · exact Nat.le_refl _
  split
  · exact ⟨Int.le_refl _, Nat.le_refl _⟩
  split
  · exact ⟨Int.le_refl _, Nat.le_refl _⟩
  · exact ⟨Int.le_refl _, Nat.le_refl _⟩
/-- Whether entries commit a unit. -/
def comsB (l : List Entry) (u : Int) : Bool := l.any fun e => decide (e.kind = 2 ∧ e.unit = u)
section
variable {l : List Entry} {u : Int} {i : Nat}
theorem comsB_yes (h : i < l.length) (h1 : (l.getD i zEntry).kind = 2 ∧ (l.getD i zEntry).unit = u) : comsB l u = true := by
  unfold comsB
  rw [List.any_eq_true]
  exact ⟨_, getD_mem zEntry h, by simp only [decide_eq_true_eq]; exact h1⟩
theorem comsB_step (hb : comsB (l.take i) u = false) (h : i < l.length) (h1 : ¬(l.getD i zEntry).kind = 2 ∨ ¬(l.getD i zEntry).unit = u) : comsB (l.take (i + 1)) u = false := by
  unfold comsB at hb ⊢
  rw [take_getD zEntry h, List.any_append, hb]
  simp only [List.any_cons, List.any_nil, Bool.or_false, Bool.false_or, decide_eq_false_iff_not]
  rintro ⟨q1, q2⟩
  exact h1.elim (fun h => h q1) (fun h => h q2)
theorem comsB_end (hb : comsB (l.take i) u = false) (h : l.length ≤ i) : comsB l u = false := by
  rwa [List.take_of_length_le h] at hb
theorem comsB_iff : comsB l u = true ↔ u ∈ comU l := by
  rw [mem_comU]
  unfold comsB
  simp only [List.any_eq_true, decide_eq_true_eq]
end
theorem conf_coms {x : Remote} (h : rightR x) {u : Int} (hu : u ∈ committedP (x.source.take x.acked.toNat)) : comsB x.target u = true := by
  rw [comsB_iff]
  have : u ∈ comU (x.source.take x.acked.toNat) := mem_sortZ.1 hu
  rw [mem_comU] at this ⊢
  obtain ⟨e, he, h1, h2⟩ := this
  refine ⟨e, ?_, h1, h2⟩
  have a0 := h.a0; have a1 := h.a1
  have e1 : x.source.take x.acked.toNat = x.target.take x.acked.toNat := by
    have hb := h.b
    rw [← hb, List.take_take, Nat.min_eq_left (by omega)]
  rw [e1] at he
  exact List.mem_of_mem_take he
theorem conf_coms_getD {x : Remote} (h : rightR x) {k : Nat} (hk : k < (committedP (x.source.take x.acked.toNat)).length) : comsB x.target ((committedP (x.source.take x.acked.toNat)).getD k 0) = true :=
  conf_coms h (getD_mem 0 hk)
/-- What an act that has no error gives, as RemoteKeeps asks it. -/
theorem keeps_act {x : Remote} {a : RAct} (h : (actC x a).2 = 0) : rightR (actC x a).1 ∧ x.acked ≤ (actC x a).1.acked ∧ x.target.length ≤ (actC x a).1.target.length := by
  by_cases hx : remoteErr x = 0
  · rw [actC_of hx] at h ⊢
    exact ⟨right_act (remoteErr_iff.1 hx) h, act_mono h⟩
  · rw [actC, if_pos hx] at h; exact absurd h hx
theorem lostR_le (x : Remote) : (lostR x).length ≤ x.source.length := Nat.le_trans (List.length_filter_le _ _) (committedP_le _)
/-! ## With sync nothing committed is lost: the plain law -/
structure syncR (x : Remote) : Prop where
  r : rightR x
  s : x.sync = true
  k : ∀ j, j + 1 < x.source.length → (x.source.getD j zEntry).kind = 2 → (j : Int) < x.acked
theorem sync_zero : syncR ⟨true, [], [], 0, 0, []⟩ :=
  ⟨⟨rfl, by simp, fun h => by simp at h, by simp, rfl, by simp, by simp, by simp, by simp, by simp, by simp, fun p hp => by cases hp⟩, rfl, fun j h => by simp at h⟩
theorem sync_act {x : Remote} {a : RAct} (h : syncR x) (h0 : (actC x a).2 = 0) : syncR (actC x a).1 := by
  have hr := keeps_act h0
  have hx := h.r.err
  rw [actC_of hx] at h0 hr ⊢
  obtain ⟨_, _, _, q⟩ := actR_ok h0
  refine ⟨hr.1, ?_, ?_⟩
  · rw [q]; have := h.s
    (repeat' split) <;> first | exact this | (unfold arrivedR; split <;> exact this)
  · have hm := hr.2.1
    intro j hj hk
    by_cases e0 : a.kind = 0
    · have hs : (actR x a).1.source = x.source ++ [{ a.entry with number := x.source.length + 1 }] := by rw [q, if_pos e0]
      rw [hs] at hj hk
      rw [List.length_append, List.length_singleton] at hj
      rw [getD_append_one, if_pos (by omega)] at hk
      by_cases hl : j + 1 < x.source.length
      · have := h.k j hl hk; omega
      · have hw : ¬waits x = true := by
          unfold actR at h0
          rw [if_neg (by omega)] at h0
          split at h0
          · cases h0
          split at h0
          · cases h0
          unfold appendedR at h0
          split at h0
          · cases h0
          split at h0
          · cases h0
          assumption
        have e : j = x.source.length - 1 := by omega
        rw [waits_iff h.r.a1 h.r.t] at hw
        have : ¬ x.acked < x.source.length := fun hl => hw ⟨⟨h.s, hl⟩, .inl (e ▸ hk)⟩
        omega
    · have hs : (actR x a).1.source = x.source := by
        rw [q, if_neg e0]
        (repeat' split) <;> first | rfl | (unfold arrivedR; split <;> rfl)
      rw [hs] at hj hk
      have := h.k j hj hk; omega
theorem lost_last {x : Remote} (h : syncR x) {u : Int} (hu : u ∈ lostR x) : 0 < x.source.length ∧ x.source.getD (x.source.length - 1) zEntry = ⟨x.source.length, 2, u, zChange⟩ := by
  unfold lostR at hu
  rw [List.mem_filter, decide_eq_true_eq] at hu
  obtain ⟨h1, h2⟩ := hu
  have h1 : u ∈ comU x.source := mem_sortZ.1 h1
  have h2 : u ∉ comU x.target := fun hu => h2 (mem_sortZ.2 hu)
  rw [mem_comU] at h1 h2
  obtain ⟨e, he, k1, k2⟩ := h1
  obtain ⟨j, hj, rfl⟩ := List.getElem_of_mem he
  have eg : x.source.getD j zEntry = x.source[j] := by
    rw [List.getD_eq_getElem?_getD, List.getElem?_eq_getElem hj, Option.getD_some]
  have hl : ¬ j + 1 < x.source.length := fun hl => by
    have := h.k j hl (by rw [eg]; exact k1)
    have ha := h.r.a1
    refine h2 ⟨_, ?_, k1, k2⟩
    rw [← h.r.b, List.mem_take_iff_getElem]
    exact ⟨j, by omega, rfl⟩
  have ej : j = x.source.length - 1 := by omega
  refine ⟨by omega, ?_⟩
  rw [← ej, eg]
  have hn := right_numbers h.r j hj
  rw [eg] at hn
  have hc := (check_all h.r.c hj).1
  rw [eg] at hc
  unfold entryErr at hc
  split at hc
  · cases hc
  split at hc
  · cases hc
  split at hc
  · cases hc
  split at hc
  · cases hc
  split at hc
  · cases hc
  rename_i w1 w2 w3 w4 w5
  rw [Decidable.not_not] at w5
  unfold formUsed at w5
  rw [if_neg (by omega), if_pos (by omega)] at w5
  rw [← w5, hn, k1, k2]
  simp only [Entry.mk.injEq, and_true, true_and]
  omega
theorem lost_last_getD {x : Remote} (h : syncR x) {k : Nat} (hk : k < (lostR x).length) : 0 < x.source.length ∧ x.source.getD (x.source.length - 1) zEntry = ⟨x.source.length, 2, (lostR x).getD k 0, zChange⟩ :=
  lost_last h (getD_mem 0 hk)
end Go.Ev

namespace Go.Ev
open Go.Proofs Ty
set_option maxRecDepth 10000
set_option maxHeartbeats 4000000
set_option linter.unusedSimpArgs false
set_option linter.unusedVariables false
noncomputable def e29 : List O → Option (Prop × O)
  | [.d x_l, .d (.i .i64 unit)] => match decL 8 decEntry x_l with
    | some l => some (l.length ≤ 1000000, .d (.b (comsB l unit)))
    | _ => none
  | _ => none
noncomputable def tab29 : FuncId → List O → Option (Prop × O) := addT tab9 29 e29

noncomputable def e7 : List O → Option (Prop × O)
  | [.d x_x, .d x_l] => match decRemote x_x, decL 10 decRAct x_l with
    | some x, some l => some (True, .d (.b true))
    | _, _ => none
  | _ => none
noncomputable def tab7 : FuncId → List O → Option (Prop × O) := addT tab29 7 e7

noncomputable def e8 : List O → Option (Prop × O)
  | [.d x_l] => match decL 10 decRAct x_l with
    | some l => some (True, .d (.b true))
    | _ => none
  | _ => none
noncomputable def tab8 : FuncId → List O → Option (Prop × O) := addT tab7 8 e8

end Go.Ev
