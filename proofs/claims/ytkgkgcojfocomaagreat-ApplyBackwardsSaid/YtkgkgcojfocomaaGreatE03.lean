/- Tools and contracts under the laws of this seat: DevTy35z, DevDec, DevData, DevPure, DevGood, DevFam, DevCyc, DevChk, DevU35. -/
import Derived.Test.YtkgkgcojfocomaaGreatE02
import Derived.Test.YtkgkgcojfocomaaGreatProg
import Derived.KernelRfl
import Derived.Laws.Strings
import Derived.WideShapes
set_option linter.unusedVariables false
set_option linter.unusedSimpArgs false
namespace Go.Ev.Ty
open Go.Proofs
theorem sz3 : sizeT Tryz.prog 3 = some 1 := by kernel_rfl
theorem ag3 : aggT Tryz.prog 3 = some false := by kernel_rfl
theorem zr3 : zeroT Tryz.prog 3 = some [.i .i64 0] := by kernel_rfl
theorem zo3 : zero1T Tryz.prog 3 = some (.i .i64 0) := by kernel_rfl
theorem zd3 : zD Tryz.prog 3 = .i .i64 0 := by kernel_rfl
theorem by3 : bytesT Tryz.prog 3 = some 8 := by kernel_rfl
theorem sl3 : isSliceT Tryz.prog 3 = false := by kernel_rfl
theorem st3 : isStrT Tryz.prog 3 = false := by kernel_rfl
theorem bo3 : isBoolT Tryz.prog 3 = false := by kernel_rfl
theorem pt3 : isPtrT Tryz.prog 3 = false := by kernel_rfl
theorem ck3 : ckT Tryz.prog 3 = .int .i64 := by kernel_rfl
theorem sz4 : sizeT Tryz.prog 4 = some 1 := by kernel_rfl
theorem ag4 : aggT Tryz.prog 4 = some false := by kernel_rfl
theorem zr4 : zeroT Tryz.prog 4 = some [.b false] := by kernel_rfl
theorem zo4 : zero1T Tryz.prog 4 = some (.b false) := by kernel_rfl
theorem zd4 : zD Tryz.prog 4 = .b false := by kernel_rfl
theorem by4 : bytesT Tryz.prog 4 = some 1 := by kernel_rfl
theorem sl4 : isSliceT Tryz.prog 4 = false := by kernel_rfl
theorem st4 : isStrT Tryz.prog 4 = false := by kernel_rfl
theorem bo4 : isBoolT Tryz.prog 4 = true := by kernel_rfl
theorem pt4 : isPtrT Tryz.prog 4 = false := by kernel_rfl
theorem sz5 : sizeT Tryz.prog 5 = some 1 := by kernel_rfl
theorem ag5 : aggT Tryz.prog 5 = some false := by kernel_rfl
theorem zr5 : zeroT Tryz.prog 5 = some [.i .u8 0] := by kernel_rfl
theorem zo5 : zero1T Tryz.prog 5 = some (.i .u8 0) := by kernel_rfl
theorem zd5 : zD Tryz.prog 5 = .i .u8 0 := by kernel_rfl
theorem by5 : bytesT Tryz.prog 5 = some 1 := by kernel_rfl
theorem sl5 : isSliceT Tryz.prog 5 = false := by kernel_rfl
theorem st5 : isStrT Tryz.prog 5 = false := by kernel_rfl
theorem bo5 : isBoolT Tryz.prog 5 = false := by kernel_rfl
theorem pt5 : isPtrT Tryz.prog 5 = false := by kernel_rfl
theorem ck5 : ckT Tryz.prog 5 = .int .u8 := by kernel_rfl
theorem sz9 : sizeT Tryz.prog 9 = some 1 := by kernel_rfl
theorem ag9 : aggT Tryz.prog 9 = some false := by kernel_rfl
theorem zr9 : zeroT Tryz.prog 9 = some [.s ⟨#[]⟩] := by kernel_rfl
theorem zo9 : zero1T Tryz.prog 9 = some (.s ⟨#[]⟩) := by kernel_rfl
theorem zd9 : zD Tryz.prog 9 = .s ⟨#[]⟩ := by kernel_rfl
theorem by9 : bytesT Tryz.prog 9 = some 16 := by kernel_rfl
theorem sl9 : isSliceT Tryz.prog 9 = false := by kernel_rfl
theorem un9 : Tryz.prog.underlying 9 = some .string := by kernel_rfl
theorem st9 : isStrT Tryz.prog 9 = true := by kernel_rfl
theorem bo9 : isBoolT Tryz.prog 9 = false := by kernel_rfl
theorem pt9 : isPtrT Tryz.prog 9 = false := by kernel_rfl
theorem ck9 : ckT Tryz.prog 9 = .str := by kernel_rfl
theorem sz22 : sizeT Tryz.prog 22 = some 1 := by kernel_rfl
theorem ag22 : aggT Tryz.prog 22 = some false := by kernel_rfl
theorem zr22 : zeroT Tryz.prog 22 = some [.nil] := by kernel_rfl
theorem zo22 : zero1T Tryz.prog 22 = some (.nil) := by kernel_rfl
theorem zd22 : zD Tryz.prog 22 = .nil := by kernel_rfl
theorem by22 : bytesT Tryz.prog 22 = some 24 := by kernel_rfl
theorem el22 : elemT Tryz.prog 22 = some 80 := by kernel_rfl
theorem sl22 : isSliceT Tryz.prog 22 = true := by kernel_rfl
theorem un22 : Tryz.prog.underlying 22 = some (.slice 80) := by kernel_rfl
theorem st22 : isStrT Tryz.prog 22 = false := by kernel_rfl
theorem bo22 : isBoolT Tryz.prog 22 = false := by kernel_rfl
theorem pt22 : isPtrT Tryz.prog 22 = false := by kernel_rfl
theorem sz23 : sizeT Tryz.prog 23 = some 1 := by kernel_rfl
theorem ag23 : aggT Tryz.prog 23 = some false := by kernel_rfl
theorem zr23 : zeroT Tryz.prog 23 = some [.nil] := by kernel_rfl
theorem zo23 : zero1T Tryz.prog 23 = some (.nil) := by kernel_rfl
theorem zd23 : zD Tryz.prog 23 = .nil := by kernel_rfl
theorem by23 : bytesT Tryz.prog 23 = some 24 := by kernel_rfl
theorem el23 : elemT Tryz.prog 23 = some 50 := by kernel_rfl
theorem sl23 : isSliceT Tryz.prog 23 = true := by kernel_rfl
theorem un23 : Tryz.prog.underlying 23 = some (.slice 50) := by kernel_rfl
theorem st23 : isStrT Tryz.prog 23 = false := by kernel_rfl
theorem bo23 : isBoolT Tryz.prog 23 = false := by kernel_rfl
theorem pt23 : isPtrT Tryz.prog 23 = false := by kernel_rfl
theorem sz26 : sizeT Tryz.prog 26 = some 1 := by kernel_rfl
theorem ag26 : aggT Tryz.prog 26 = some false := by kernel_rfl
theorem zr26 : zeroT Tryz.prog 26 = some [.i .i64 0] := by kernel_rfl
theorem zo26 : zero1T Tryz.prog 26 = some (.i .i64 0) := by kernel_rfl
theorem zd26 : zD Tryz.prog 26 = .i .i64 0 := by kernel_rfl
theorem by26 : bytesT Tryz.prog 26 = some 8 := by kernel_rfl
theorem sl26 : isSliceT Tryz.prog 26 = false := by kernel_rfl
theorem st26 : isStrT Tryz.prog 26 = false := by kernel_rfl
theorem bo26 : isBoolT Tryz.prog 26 = false := by kernel_rfl
theorem pt26 : isPtrT Tryz.prog 26 = false := by kernel_rfl
theorem ck26 : ckT Tryz.prog 26 = .int .i64 := by kernel_rfl
theorem sz31 : sizeT Tryz.prog 31 = some 1 := by kernel_rfl
theorem ag31 : aggT Tryz.prog 31 = some false := by kernel_rfl
theorem zr31 : zeroT Tryz.prog 31 = some [.nil] := by kernel_rfl
theorem zo31 : zero1T Tryz.prog 31 = some (.nil) := by kernel_rfl
theorem zd31 : zD Tryz.prog 31 = .nil := by kernel_rfl
theorem by31 : bytesT Tryz.prog 31 = some 24 := by kernel_rfl
theorem el31 : elemT Tryz.prog 31 = some 3 := by kernel_rfl
theorem sl31 : isSliceT Tryz.prog 31 = true := by kernel_rfl
theorem un31 : Tryz.prog.underlying 31 = some (.slice 3) := by kernel_rfl
theorem st31 : isStrT Tryz.prog 31 = false := by kernel_rfl
theorem bo31 : isBoolT Tryz.prog 31 = false := by kernel_rfl
theorem pt31 : isPtrT Tryz.prog 31 = false := by kernel_rfl
theorem sz33 : sizeT Tryz.prog 33 = some 4 := by kernel_rfl
theorem ag33 : aggT Tryz.prog 33 = some true := by kernel_rfl
theorem zr33 : zeroT Tryz.prog 33 = some [.nil, .i .i64 0, .nil, .i .i64 0] := by kernel_rfl
theorem zd33 : zD Tryz.prog 33 = .agg [.nil, .i .i64 0, .nil, .i .i64 0] := by kernel_rfl
theorem by33 : bytesT Tryz.prog 33 = some 64 := by kernel_rfl
theorem sl33 : isSliceT Tryz.prog 33 = false := by kernel_rfl
theorem st33 : isStrT Tryz.prog 33 = false := by kernel_rfl
theorem bo33 : isBoolT Tryz.prog 33 = false := by kernel_rfl
theorem pt33 : isPtrT Tryz.prog 33 = false := by kernel_rfl
theorem of33_0 : offT Tryz.prog 33 0 = some (0, 1) := by kernel_rfl
theorem fa33_0 : fieldT Tryz.prog 33 0 = some 22 := by kernel_rfl
theorem of33_1 : offT Tryz.prog 33 1 = some (1, 1) := by kernel_rfl
theorem fa33_1 : fieldT Tryz.prog 33 1 = some 3 := by kernel_rfl
theorem of33_2 : offT Tryz.prog 33 2 = some (2, 1) := by kernel_rfl
theorem fa33_2 : fieldT Tryz.prog 33 2 = some 31 := by kernel_rfl
theorem of33_3 : offT Tryz.prog 33 3 = some (3, 1) := by kernel_rfl
theorem fa33_3 : fieldT Tryz.prog 33 3 = some 3 := by kernel_rfl
theorem pl33 : placesT Tryz.prog 33 = some [(0, 1), (1, 1), (2, 1), (3, 1)] := by kernel_rfl
theorem sz48 : sizeT Tryz.prog 48 = some 5 := by kernel_rfl
theorem ag48 : aggT Tryz.prog 48 = some true := by kernel_rfl
theorem zr48 : zeroT Tryz.prog 48 = some [.s ⟨#[]⟩, .i .i64 0, .i .i64 0, .s ⟨#[]⟩, .s ⟨#[]⟩] := by kernel_rfl
theorem zd48 : zD Tryz.prog 48 = .agg [.s ⟨#[]⟩, .i .i64 0, .i .i64 0, .s ⟨#[]⟩, .s ⟨#[]⟩] := by kernel_rfl
theorem by48 : bytesT Tryz.prog 48 = some 64 := by kernel_rfl
theorem sl48 : isSliceT Tryz.prog 48 = false := by kernel_rfl
theorem st48 : isStrT Tryz.prog 48 = false := by kernel_rfl
theorem bo48 : isBoolT Tryz.prog 48 = false := by kernel_rfl
theorem pt48 : isPtrT Tryz.prog 48 = false := by kernel_rfl
theorem of48_0 : offT Tryz.prog 48 0 = some (0, 1) := by kernel_rfl
theorem fa48_0 : fieldT Tryz.prog 48 0 = some 9 := by kernel_rfl
theorem of48_1 : offT Tryz.prog 48 1 = some (1, 1) := by kernel_rfl
theorem fa48_1 : fieldT Tryz.prog 48 1 = some 3 := by kernel_rfl
theorem of48_2 : offT Tryz.prog 48 2 = some (2, 1) := by kernel_rfl
theorem fa48_2 : fieldT Tryz.prog 48 2 = some 3 := by kernel_rfl
theorem of48_3 : offT Tryz.prog 48 3 = some (3, 1) := by kernel_rfl
theorem fa48_3 : fieldT Tryz.prog 48 3 = some 9 := by kernel_rfl
theorem of48_4 : offT Tryz.prog 48 4 = some (4, 1) := by kernel_rfl
theorem fa48_4 : fieldT Tryz.prog 48 4 = some 9 := by kernel_rfl
theorem pl48 : placesT Tryz.prog 48 = some [(0, 1), (1, 1), (2, 1), (3, 1), (4, 1)] := by kernel_rfl
theorem ek48 : eqKs Tryz.prog 48 = some [.s, .i, .i, .s, .s] := by kernel_rfl
theorem sz50 : sizeT Tryz.prog 50 = some 8 := by kernel_rfl
theorem ag50 : aggT Tryz.prog 50 = some true := by kernel_rfl
theorem zr50 : zeroT Tryz.prog 50 = some [.i .i64 0, .i .i64 0, .i .i64 0, .s ⟨#[]⟩, .i .i64 0, .i .i64 0, .s ⟨#[]⟩, .s ⟨#[]⟩] := by kernel_rfl
theorem zd50 : zD Tryz.prog 50 = .agg [.i .i64 0, .i .i64 0, .i .i64 0, .s ⟨#[]⟩, .i .i64 0, .i .i64 0, .s ⟨#[]⟩, .s ⟨#[]⟩] := by kernel_rfl
theorem by50 : bytesT Tryz.prog 50 = some 88 := by kernel_rfl
theorem sl50 : isSliceT Tryz.prog 50 = false := by kernel_rfl
theorem st50 : isStrT Tryz.prog 50 = false := by kernel_rfl
theorem bo50 : isBoolT Tryz.prog 50 = false := by kernel_rfl
theorem pt50 : isPtrT Tryz.prog 50 = false := by kernel_rfl
theorem of50_0 : offT Tryz.prog 50 0 = some (0, 1) := by kernel_rfl
theorem fa50_0 : fieldT Tryz.prog 50 0 = some 3 := by kernel_rfl
theorem of50_1 : offT Tryz.prog 50 1 = some (1, 1) := by kernel_rfl
theorem fa50_1 : fieldT Tryz.prog 50 1 = some 3 := by kernel_rfl
theorem of50_2 : offT Tryz.prog 50 2 = some (2, 1) := by kernel_rfl
theorem fa50_2 : fieldT Tryz.prog 50 2 = some 3 := by kernel_rfl
theorem of50_3 : offT Tryz.prog 50 3 = some (3, 5) := by kernel_rfl
theorem fa50_3 : fieldT Tryz.prog 50 3 = some 48 := by kernel_rfl
theorem pl50 : placesT Tryz.prog 50 = some [(0, 1), (1, 1), (2, 1), (3, 5)] := by kernel_rfl
theorem ek50 : eqKs Tryz.prog 50 = some [.i, .i, .i, .s, .i, .i, .s, .s] := by kernel_rfl
theorem sz53 : sizeT Tryz.prog 53 = some 1 := by kernel_rfl
theorem ag53 : aggT Tryz.prog 53 = some false := by kernel_rfl
theorem zr53 : zeroT Tryz.prog 53 = some [.nil] := by kernel_rfl
theorem zo53 : zero1T Tryz.prog 53 = some (.nil) := by kernel_rfl
theorem zd53 : zD Tryz.prog 53 = .nil := by kernel_rfl
theorem by53 : bytesT Tryz.prog 53 = some 24 := by kernel_rfl
theorem el53 : elemT Tryz.prog 53 = some 61 := by kernel_rfl
theorem sl53 : isSliceT Tryz.prog 53 = true := by kernel_rfl
theorem un53 : Tryz.prog.underlying 53 = some (.slice 61) := by kernel_rfl
theorem st53 : isStrT Tryz.prog 53 = false := by kernel_rfl
theorem bo53 : isBoolT Tryz.prog 53 = false := by kernel_rfl
theorem pt53 : isPtrT Tryz.prog 53 = false := by kernel_rfl
theorem sz56 : sizeT Tryz.prog 56 = some 1 := by kernel_rfl
theorem ag56 : aggT Tryz.prog 56 = some false := by kernel_rfl
theorem zr56 : zeroT Tryz.prog 56 = some [.nil] := by kernel_rfl
theorem zo56 : zero1T Tryz.prog 56 = some (.nil) := by kernel_rfl
theorem zd56 : zD Tryz.prog 56 = .nil := by kernel_rfl
theorem by56 : bytesT Tryz.prog 56 = some 24 := by kernel_rfl
theorem el56 : elemT Tryz.prog 56 = some 9 := by kernel_rfl
theorem sl56 : isSliceT Tryz.prog 56 = true := by kernel_rfl
theorem un56 : Tryz.prog.underlying 56 = some (.slice 9) := by kernel_rfl
theorem st56 : isStrT Tryz.prog 56 = false := by kernel_rfl
theorem bo56 : isBoolT Tryz.prog 56 = false := by kernel_rfl
theorem pt56 : isPtrT Tryz.prog 56 = false := by kernel_rfl
theorem sz61 : sizeT Tryz.prog 61 = some 4 := by kernel_rfl
theorem ag61 : aggT Tryz.prog 61 = some true := by kernel_rfl
theorem zr61 : zeroT Tryz.prog 61 = some [.i .i64 0, .i .i64 0, .i .i64 0, .i .i64 0] := by kernel_rfl
theorem zd61 : zD Tryz.prog 61 = .agg [.i .i64 0, .i .i64 0, .i .i64 0, .i .i64 0] := by kernel_rfl
theorem by61 : bytesT Tryz.prog 61 = some 32 := by kernel_rfl
theorem sl61 : isSliceT Tryz.prog 61 = false := by kernel_rfl
theorem st61 : isStrT Tryz.prog 61 = false := by kernel_rfl
theorem bo61 : isBoolT Tryz.prog 61 = false := by kernel_rfl
theorem pt61 : isPtrT Tryz.prog 61 = false := by kernel_rfl
theorem of61_0 : offT Tryz.prog 61 0 = some (0, 1) := by kernel_rfl
theorem fa61_0 : fieldT Tryz.prog 61 0 = some 3 := by kernel_rfl
theorem of61_1 : offT Tryz.prog 61 1 = some (1, 1) := by kernel_rfl
theorem fa61_1 : fieldT Tryz.prog 61 1 = some 3 := by kernel_rfl
theorem of61_2 : offT Tryz.prog 61 2 = some (2, 1) := by kernel_rfl
theorem fa61_2 : fieldT Tryz.prog 61 2 = some 3 := by kernel_rfl
theorem of61_3 : offT Tryz.prog 61 3 = some (3, 1) := by kernel_rfl
theorem fa61_3 : fieldT Tryz.prog 61 3 = some 3 := by kernel_rfl
theorem pl61 : placesT Tryz.prog 61 = some [(0, 1), (1, 1), (2, 1), (3, 1)] := by kernel_rfl
theorem ek61 : eqKs Tryz.prog 61 = some [.i, .i, .i, .i] := by kernel_rfl
theorem sz65 : sizeT Tryz.prog 65 = some 1 := by kernel_rfl
theorem ag65 : aggT Tryz.prog 65 = some false := by kernel_rfl
theorem by65 : bytesT Tryz.prog 65 = some 8 := by kernel_rfl
theorem sl65 : isSliceT Tryz.prog 65 = false := by kernel_rfl
theorem st65 : isStrT Tryz.prog 65 = false := by kernel_rfl
theorem bo65 : isBoolT Tryz.prog 65 = false := by kernel_rfl
theorem pt65 : isPtrT Tryz.prog 65 = false := by kernel_rfl
theorem mt65 : mapT Tryz.prog 65 = some (3, 99) := by kernel_rfl
theorem sz69 : sizeT Tryz.prog 69 = some 1 := by kernel_rfl
theorem ag69 : aggT Tryz.prog 69 = some false := by kernel_rfl
theorem zr69 : zeroT Tryz.prog 69 = some [.nil] := by kernel_rfl
theorem zo69 : zero1T Tryz.prog 69 = some (.nil) := by kernel_rfl
theorem zd69 : zD Tryz.prog 69 = .nil := by kernel_rfl
theorem by69 : bytesT Tryz.prog 69 = some 24 := by kernel_rfl
theorem el69 : elemT Tryz.prog 69 = some 48 := by kernel_rfl
theorem sl69 : isSliceT Tryz.prog 69 = true := by kernel_rfl
theorem un69 : Tryz.prog.underlying 69 = some (.slice 48) := by kernel_rfl
theorem st69 : isStrT Tryz.prog 69 = false := by kernel_rfl
theorem bo69 : isBoolT Tryz.prog 69 = false := by kernel_rfl
theorem pt69 : isPtrT Tryz.prog 69 = false := by kernel_rfl
theorem sz72 : sizeT Tryz.prog 72 = some 1 := by kernel_rfl
theorem ag72 : aggT Tryz.prog 72 = some false := by kernel_rfl
theorem zr72 : zeroT Tryz.prog 72 = some [.nil] := by kernel_rfl
theorem zo72 : zero1T Tryz.prog 72 = some (.nil) := by kernel_rfl
theorem zd72 : zD Tryz.prog 72 = .nil := by kernel_rfl
theorem by72 : bytesT Tryz.prog 72 = some 24 := by kernel_rfl
theorem el72 : elemT Tryz.prog 72 = some 110 := by kernel_rfl
theorem sl72 : isSliceT Tryz.prog 72 = true := by kernel_rfl
theorem un72 : Tryz.prog.underlying 72 = some (.slice 110) := by kernel_rfl
theorem st72 : isStrT Tryz.prog 72 = false := by kernel_rfl
theorem bo72 : isBoolT Tryz.prog 72 = false := by kernel_rfl
theorem pt72 : isPtrT Tryz.prog 72 = false := by kernel_rfl
theorem sz74 : sizeT Tryz.prog 74 = some 2 := by kernel_rfl
theorem ag74 : aggT Tryz.prog 74 = some true := by kernel_rfl
theorem zr74 : zeroT Tryz.prog 74 = some [.s ⟨#[]⟩, .nil] := by kernel_rfl
theorem zd74 : zD Tryz.prog 74 = .agg [.s ⟨#[]⟩, .nil] := by kernel_rfl
theorem by74 : bytesT Tryz.prog 74 = some 40 := by kernel_rfl
theorem sl74 : isSliceT Tryz.prog 74 = false := by kernel_rfl
theorem st74 : isStrT Tryz.prog 74 = false := by kernel_rfl
theorem bo74 : isBoolT Tryz.prog 74 = false := by kernel_rfl
theorem pt74 : isPtrT Tryz.prog 74 = false := by kernel_rfl
theorem of74_0 : offT Tryz.prog 74 0 = some (0, 1) := by kernel_rfl
theorem fa74_0 : fieldT Tryz.prog 74 0 = some 9 := by kernel_rfl
theorem of74_1 : offT Tryz.prog 74 1 = some (1, 1) := by kernel_rfl
theorem fa74_1 : fieldT Tryz.prog 74 1 = some 72 := by kernel_rfl
theorem pl74 : placesT Tryz.prog 74 = some [(0, 1), (1, 1)] := by kernel_rfl
theorem sz75 : sizeT Tryz.prog 75 = some 1 := by kernel_rfl
theorem ag75 : aggT Tryz.prog 75 = some false := by kernel_rfl
theorem zr75 : zeroT Tryz.prog 75 = some [.nil] := by kernel_rfl
theorem zo75 : zero1T Tryz.prog 75 = some (.nil) := by kernel_rfl
theorem zd75 : zD Tryz.prog 75 = .nil := by kernel_rfl
theorem by75 : bytesT Tryz.prog 75 = some 24 := by kernel_rfl
theorem el75 : elemT Tryz.prog 75 = some 113 := by kernel_rfl
theorem sl75 : isSliceT Tryz.prog 75 = true := by kernel_rfl
theorem un75 : Tryz.prog.underlying 75 = some (.slice 113) := by kernel_rfl
theorem st75 : isStrT Tryz.prog 75 = false := by kernel_rfl
theorem bo75 : isBoolT Tryz.prog 75 = false := by kernel_rfl
theorem pt75 : isPtrT Tryz.prog 75 = false := by kernel_rfl
theorem sz77 : sizeT Tryz.prog 77 = some 5 := by kernel_rfl
theorem ag77 : aggT Tryz.prog 77 = some true := by kernel_rfl
theorem zr77 : zeroT Tryz.prog 77 = some [.s ⟨#[]⟩, .s ⟨#[]⟩, .nil, .nil, .b false] := by kernel_rfl
theorem zd77 : zD Tryz.prog 77 = .agg [.s ⟨#[]⟩, .s ⟨#[]⟩, .nil, .nil, .b false] := by kernel_rfl
theorem by77 : bytesT Tryz.prog 77 = some 88 := by kernel_rfl
theorem sl77 : isSliceT Tryz.prog 77 = false := by kernel_rfl
theorem st77 : isStrT Tryz.prog 77 = false := by kernel_rfl
theorem bo77 : isBoolT Tryz.prog 77 = false := by kernel_rfl
theorem pt77 : isPtrT Tryz.prog 77 = false := by kernel_rfl
theorem of77_0 : offT Tryz.prog 77 0 = some (0, 1) := by kernel_rfl
theorem fa77_0 : fieldT Tryz.prog 77 0 = some 9 := by kernel_rfl
theorem of77_1 : offT Tryz.prog 77 1 = some (1, 2) := by kernel_rfl
theorem fa77_1 : fieldT Tryz.prog 77 1 = some 74 := by kernel_rfl
theorem of77_2 : offT Tryz.prog 77 2 = some (3, 1) := by kernel_rfl
theorem fa77_2 : fieldT Tryz.prog 77 2 = some 75 := by kernel_rfl
theorem of77_3 : offT Tryz.prog 77 3 = some (4, 1) := by kernel_rfl
theorem fa77_3 : fieldT Tryz.prog 77 3 = some 4 := by kernel_rfl
theorem pl77 : placesT Tryz.prog 77 = some [(0, 1), (1, 2), (3, 1), (4, 1)] := by kernel_rfl
theorem sz78 : sizeT Tryz.prog 78 = some 1 := by kernel_rfl
theorem ag78 : aggT Tryz.prog 78 = some false := by kernel_rfl
theorem zr78 : zeroT Tryz.prog 78 = some [.nil] := by kernel_rfl
theorem zo78 : zero1T Tryz.prog 78 = some (.nil) := by kernel_rfl
theorem zd78 : zD Tryz.prog 78 = .nil := by kernel_rfl
theorem by78 : bytesT Tryz.prog 78 = some 24 := by kernel_rfl
theorem el78 : elemT Tryz.prog 78 = some 104 := by kernel_rfl
theorem sl78 : isSliceT Tryz.prog 78 = true := by kernel_rfl
theorem un78 : Tryz.prog.underlying 78 = some (.slice 104) := by kernel_rfl
theorem st78 : isStrT Tryz.prog 78 = false := by kernel_rfl
theorem bo78 : isBoolT Tryz.prog 78 = false := by kernel_rfl
theorem pt78 : isPtrT Tryz.prog 78 = false := by kernel_rfl
theorem sz80 : sizeT Tryz.prog 80 = some 6 := by kernel_rfl
theorem ag80 : aggT Tryz.prog 80 = some true := by kernel_rfl
theorem zr80 : zeroT Tryz.prog 80 = some [.s ⟨#[]⟩, .s ⟨#[]⟩, .nil, .nil, .b false, .nil] := by kernel_rfl
theorem zd80 : zD Tryz.prog 80 = .agg [.s ⟨#[]⟩, .s ⟨#[]⟩, .nil, .nil, .b false, .nil] := by kernel_rfl
theorem by80 : bytesT Tryz.prog 80 = some 112 := by kernel_rfl
theorem sl80 : isSliceT Tryz.prog 80 = false := by kernel_rfl
theorem st80 : isStrT Tryz.prog 80 = false := by kernel_rfl
theorem bo80 : isBoolT Tryz.prog 80 = false := by kernel_rfl
theorem pt80 : isPtrT Tryz.prog 80 = false := by kernel_rfl
theorem of80_0 : offT Tryz.prog 80 0 = some (0, 5) := by kernel_rfl
theorem fa80_0 : fieldT Tryz.prog 80 0 = some 77 := by kernel_rfl
theorem of80_1 : offT Tryz.prog 80 1 = some (5, 1) := by kernel_rfl
theorem fa80_1 : fieldT Tryz.prog 80 1 = some 78 := by kernel_rfl
theorem pl80 : placesT Tryz.prog 80 = some [(0, 5), (5, 1)] := by kernel_rfl
theorem sz99 : sizeT Tryz.prog 99 = some 1 := by kernel_rfl
theorem ag99 : aggT Tryz.prog 99 = some false := by kernel_rfl
theorem zr99 : zeroT Tryz.prog 99 = some [.np] := by kernel_rfl
theorem zo99 : zero1T Tryz.prog 99 = some (.np) := by kernel_rfl
theorem zd99 : zD Tryz.prog 99 = .np := by kernel_rfl
theorem by99 : bytesT Tryz.prog 99 = some 8 := by kernel_rfl
theorem sl99 : isSliceT Tryz.prog 99 = false := by kernel_rfl
theorem st99 : isStrT Tryz.prog 99 = false := by kernel_rfl
theorem bo99 : isBoolT Tryz.prog 99 = false := by kernel_rfl
theorem pt99 : isPtrT Tryz.prog 99 = true := by kernel_rfl
theorem sz104 : sizeT Tryz.prog 104 = some 2 := by kernel_rfl
theorem ag104 : aggT Tryz.prog 104 = some true := by kernel_rfl
theorem zr104 : zeroT Tryz.prog 104 = some [.b false, .s ⟨#[]⟩] := by kernel_rfl
theorem zd104 : zD Tryz.prog 104 = .agg [.b false, .s ⟨#[]⟩] := by kernel_rfl
theorem by104 : bytesT Tryz.prog 104 = some 24 := by kernel_rfl
theorem sl104 : isSliceT Tryz.prog 104 = false := by kernel_rfl
theorem st104 : isStrT Tryz.prog 104 = false := by kernel_rfl
theorem bo104 : isBoolT Tryz.prog 104 = false := by kernel_rfl
theorem pt104 : isPtrT Tryz.prog 104 = false := by kernel_rfl
theorem of104_0 : offT Tryz.prog 104 0 = some (0, 1) := by kernel_rfl
theorem fa104_0 : fieldT Tryz.prog 104 0 = some 4 := by kernel_rfl
theorem of104_1 : offT Tryz.prog 104 1 = some (1, 1) := by kernel_rfl
theorem fa104_1 : fieldT Tryz.prog 104 1 = some 9 := by kernel_rfl
theorem pl104 : placesT Tryz.prog 104 = some [(0, 1), (1, 1)] := by kernel_rfl
theorem ek104 : eqKs Tryz.prog 104 = some [.b, .s] := by kernel_rfl
theorem sz108 : sizeT Tryz.prog 108 = some 3 := by kernel_rfl
theorem ag108 : aggT Tryz.prog 108 = some true := by kernel_rfl
theorem zr108 : zeroT Tryz.prog 108 = some [.i .i64 0, .i .i64 0, .i .i64 0] := by kernel_rfl
theorem zd108 : zD Tryz.prog 108 = .agg [.i .i64 0, .i .i64 0, .i .i64 0] := by kernel_rfl
theorem by108 : bytesT Tryz.prog 108 = some 24 := by kernel_rfl
theorem sl108 : isSliceT Tryz.prog 108 = false := by kernel_rfl
theorem st108 : isStrT Tryz.prog 108 = false := by kernel_rfl
theorem bo108 : isBoolT Tryz.prog 108 = false := by kernel_rfl
theorem pt108 : isPtrT Tryz.prog 108 = false := by kernel_rfl
theorem of108_0 : offT Tryz.prog 108 0 = some (0, 1) := by kernel_rfl
theorem fa108_0 : fieldT Tryz.prog 108 0 = some 3 := by kernel_rfl
theorem of108_1 : offT Tryz.prog 108 1 = some (1, 1) := by kernel_rfl
theorem fa108_1 : fieldT Tryz.prog 108 1 = some 3 := by kernel_rfl
theorem of108_2 : offT Tryz.prog 108 2 = some (2, 1) := by kernel_rfl
theorem fa108_2 : fieldT Tryz.prog 108 2 = some 3 := by kernel_rfl
theorem pl108 : placesT Tryz.prog 108 = some [(0, 1), (1, 1), (2, 1)] := by kernel_rfl
theorem ek108 : eqKs Tryz.prog 108 = some [.i, .i, .i] := by kernel_rfl
theorem sz110 : sizeT Tryz.prog 110 = some 4 := by kernel_rfl
theorem ag110 : aggT Tryz.prog 110 = some true := by kernel_rfl
theorem zr110 : zeroT Tryz.prog 110 = some [.s ⟨#[]⟩, .i .i64 0, .i .i64 0, .i .i64 0] := by kernel_rfl
theorem zd110 : zD Tryz.prog 110 = .agg [.s ⟨#[]⟩, .i .i64 0, .i .i64 0, .i .i64 0] := by kernel_rfl
theorem by110 : bytesT Tryz.prog 110 = some 40 := by kernel_rfl
theorem sl110 : isSliceT Tryz.prog 110 = false := by kernel_rfl
theorem st110 : isStrT Tryz.prog 110 = false := by kernel_rfl
theorem bo110 : isBoolT Tryz.prog 110 = false := by kernel_rfl
theorem pt110 : isPtrT Tryz.prog 110 = false := by kernel_rfl
theorem of110_0 : offT Tryz.prog 110 0 = some (0, 1) := by kernel_rfl
theorem fa110_0 : fieldT Tryz.prog 110 0 = some 9 := by kernel_rfl
theorem of110_1 : offT Tryz.prog 110 1 = some (1, 3) := by kernel_rfl
theorem fa110_1 : fieldT Tryz.prog 110 1 = some 108 := by kernel_rfl
theorem pl110 : placesT Tryz.prog 110 = some [(0, 1), (1, 3)] := by kernel_rfl
theorem ek110 : eqKs Tryz.prog 110 = some [.s, .i, .i, .i] := by kernel_rfl
theorem sz113 : sizeT Tryz.prog 113 = some 2 := by kernel_rfl
theorem ag113 : aggT Tryz.prog 113 = some true := by kernel_rfl
theorem zr113 : zeroT Tryz.prog 113 = some [.s ⟨#[]⟩, .b false] := by kernel_rfl
theorem zd113 : zD Tryz.prog 113 = .agg [.s ⟨#[]⟩, .b false] := by kernel_rfl
theorem by113 : bytesT Tryz.prog 113 = some 24 := by kernel_rfl
theorem sl113 : isSliceT Tryz.prog 113 = false := by kernel_rfl
theorem st113 : isStrT Tryz.prog 113 = false := by kernel_rfl
theorem bo113 : isBoolT Tryz.prog 113 = false := by kernel_rfl
theorem pt113 : isPtrT Tryz.prog 113 = false := by kernel_rfl
theorem of113_0 : offT Tryz.prog 113 0 = some (0, 1) := by kernel_rfl
theorem fa113_0 : fieldT Tryz.prog 113 0 = some 9 := by kernel_rfl
theorem of113_1 : offT Tryz.prog 113 1 = some (1, 1) := by kernel_rfl
theorem fa113_1 : fieldT Tryz.prog 113 1 = some 4 := by kernel_rfl
theorem pl113 : placesT Tryz.prog 113 = some [(0, 1), (1, 1)] := by kernel_rfl
theorem ek113 : eqKs Tryz.prog 113 = some [.s, .b] := by kernel_rfl
theorem sz182 : sizeT Tryz.prog 182 = some 1 := by kernel_rfl
theorem ag182 : aggT Tryz.prog 182 = some false := by kernel_rfl
theorem zr182 : zeroT Tryz.prog 182 = some [.nil] := by kernel_rfl
theorem zo182 : zero1T Tryz.prog 182 = some (.nil) := by kernel_rfl
theorem zd182 : zD Tryz.prog 182 = .nil := by kernel_rfl
theorem by182 : bytesT Tryz.prog 182 = some 24 := by kernel_rfl
theorem el182 : elemT Tryz.prog 182 = some 26 := by kernel_rfl
theorem sl182 : isSliceT Tryz.prog 182 = true := by kernel_rfl
theorem un182 : Tryz.prog.underlying 182 = some (.slice 26) := by kernel_rfl
theorem st182 : isStrT Tryz.prog 182 = false := by kernel_rfl
theorem bo182 : isBoolT Tryz.prog 182 = false := by kernel_rfl
theorem pt182 : isPtrT Tryz.prog 182 = false := by kernel_rfl
theorem sz197 : sizeT Tryz.prog 197 = some 1 := by kernel_rfl
theorem ag197 : aggT Tryz.prog 197 = some false := by kernel_rfl
theorem by197 : bytesT Tryz.prog 197 = some 8 := by kernel_rfl
theorem sl197 : isSliceT Tryz.prog 197 = false := by kernel_rfl
theorem st197 : isStrT Tryz.prog 197 = false := by kernel_rfl
theorem bo197 : isBoolT Tryz.prog 197 = false := by kernel_rfl
theorem pt197 : isPtrT Tryz.prog 197 = false := by kernel_rfl
theorem mt197 : mapT Tryz.prog 197 = some (9, 4) := by kernel_rfl
theorem sz200 : sizeT Tryz.prog 200 = some 1 := by kernel_rfl
theorem ag200 : aggT Tryz.prog 200 = some false := by kernel_rfl
theorem zr200 : zeroT Tryz.prog 200 = some [.nil] := by kernel_rfl
theorem zo200 : zero1T Tryz.prog 200 = some (.nil) := by kernel_rfl
theorem zd200 : zD Tryz.prog 200 = .nil := by kernel_rfl
theorem by200 : bytesT Tryz.prog 200 = some 24 := by kernel_rfl
theorem el200 : elemT Tryz.prog 200 = some 212 := by kernel_rfl
theorem sl200 : isSliceT Tryz.prog 200 = true := by kernel_rfl
theorem un200 : Tryz.prog.underlying 200 = some (.slice 212) := by kernel_rfl
theorem st200 : isStrT Tryz.prog 200 = false := by kernel_rfl
theorem bo200 : isBoolT Tryz.prog 200 = false := by kernel_rfl
theorem pt200 : isPtrT Tryz.prog 200 = false := by kernel_rfl
theorem sz206 : sizeT Tryz.prog 206 = some 1 := by kernel_rfl
theorem ag206 : aggT Tryz.prog 206 = some false := by kernel_rfl
theorem zr206 : zeroT Tryz.prog 206 = some [.nil] := by kernel_rfl
theorem zo206 : zero1T Tryz.prog 206 = some (.nil) := by kernel_rfl
theorem zd206 : zD Tryz.prog 206 = .nil := by kernel_rfl
theorem by206 : bytesT Tryz.prog 206 = some 24 := by kernel_rfl
theorem el206 : elemT Tryz.prog 206 = some 5 := by kernel_rfl
theorem sl206 : isSliceT Tryz.prog 206 = true := by kernel_rfl
theorem un206 : Tryz.prog.underlying 206 = some (.slice 5) := by kernel_rfl
theorem st206 : isStrT Tryz.prog 206 = false := by kernel_rfl
theorem bo206 : isBoolT Tryz.prog 206 = false := by kernel_rfl
theorem pt206 : isPtrT Tryz.prog 206 = false := by kernel_rfl
theorem ck206 : ckT Tryz.prog 206 = .bytes := by kernel_rfl
theorem sz212 : sizeT Tryz.prog 212 = some 2 := by kernel_rfl
theorem ag212 : aggT Tryz.prog 212 = some true := by kernel_rfl
theorem zr212 : zeroT Tryz.prog 212 = some [.i .i64 0, .s ⟨#[]⟩] := by kernel_rfl
theorem zd212 : zD Tryz.prog 212 = .agg [.i .i64 0, .s ⟨#[]⟩] := by kernel_rfl
theorem by212 : bytesT Tryz.prog 212 = some 24 := by kernel_rfl
theorem sl212 : isSliceT Tryz.prog 212 = false := by kernel_rfl
theorem st212 : isStrT Tryz.prog 212 = false := by kernel_rfl
theorem bo212 : isBoolT Tryz.prog 212 = false := by kernel_rfl
theorem pt212 : isPtrT Tryz.prog 212 = false := by kernel_rfl
theorem of212_0 : offT Tryz.prog 212 0 = some (0, 1) := by kernel_rfl
theorem fa212_0 : fieldT Tryz.prog 212 0 = some 3 := by kernel_rfl
theorem of212_1 : offT Tryz.prog 212 1 = some (1, 1) := by kernel_rfl
theorem fa212_1 : fieldT Tryz.prog 212 1 = some 9 := by kernel_rfl
theorem pl212 : placesT Tryz.prog 212 = some [(0, 1), (1, 1)] := by kernel_rfl
theorem ek212 : eqKs Tryz.prog 212 = some [.i, .s] := by kernel_rfl
theorem sz232 : sizeT Tryz.prog 232 = some 1 := by kernel_rfl
theorem ag232 : aggT Tryz.prog 232 = some false := by kernel_rfl
theorem zr232 : zeroT Tryz.prog 232 = some [.i .i8 0] := by kernel_rfl
theorem zo232 : zero1T Tryz.prog 232 = some (.i .i8 0) := by kernel_rfl
theorem zd232 : zD Tryz.prog 232 = .i .i8 0 := by kernel_rfl
theorem by232 : bytesT Tryz.prog 232 = some 1 := by kernel_rfl
theorem sl232 : isSliceT Tryz.prog 232 = false := by kernel_rfl
theorem st232 : isStrT Tryz.prog 232 = false := by kernel_rfl
theorem bo232 : isBoolT Tryz.prog 232 = false := by kernel_rfl
theorem pt232 : isPtrT Tryz.prog 232 = false := by kernel_rfl
theorem ck232 : ckT Tryz.prog 232 = .int .i8 := by kernel_rfl
end Go.Ev.Ty

namespace Go.Ev
def decI (k : IntKind) : D → Option Int
  | .i k' n => if k' = k then some n else none
  | _ => none
def decS : D → Option ByteArray
  | .s x => some x
  | _ => none
def decM {α : Type} (f : D → Option α) : List D → Option (List α)
  | [] => some []
  | d :: l => match f d, decM f l with
    | some x, some r => some (x :: r)
    | _, _ => none
def decL {α : Type} (z : Nat) (f : D → Option α) : D → Option (List α)
  | .nil => some []
  | .sl z' l => if z' = z then decM f l else none
  | _ => none
theorem decI_enc (k : IntKind) (n : Int) : decI k (D.i k n) = some n := by simp [decI]
theorem decS_enc (n : ByteArray) : decS (D.s n) = some n := rfl
theorem decI_le {k : IntKind} {d : D} {n : Int} (h : decI k d = some n) : dle d (D.i k n) := by
  unfold decI at h
  split at h
  · split at h
    · cases h; rename_i e; subst e; exact dle_refl _
    · cases h
  · cases h
theorem decS_le {d : D} {n : ByteArray} (h : decS d = some n) : dle d (D.s n) := by
  unfold decS at h
  split at h
  · cases h; exact dle_refl _
  · cases h
theorem decM_nil {α : Type} {f : D → Option α} : decM f [] = some [] := rfl
theorem decM_cons {α : Type} {f : D → Option α} {d : D} {l : List D} : decM f (d :: l) = (match f d, decM f l with
    | some x, some r => some (x :: r)
    | _, _ => none) := rfl
theorem take_map_snoc {α : Type} {f : α → D} {l : List α} {d : D} : (l.map f ++ [d]).take (l.length + 1) = l.map f ++ [d] := List.take_of_length_le (by simp)
theorem decM_map {α : Type} {f : D → Option α} {g : α → D} (h : ∀ x, f (g x) = some x) : ∀ l : List α, decM f (l.map g) = some l
  | [] => rfl
  | x :: l => by simp [decM, h, decM_map h l]
theorem decM_append {α : Type} {f : D → Option α} : ∀ {l m : List D}, decM f (l ++ m) = (match decM f l, decM f m with
    | some x, some y => some (x ++ y)
    | _, _ => none)
  | [], m => by
    simp only [List.nil_append, decM]
    cases decM f m <;> rfl
  | d :: l, m => by
    simp only [List.cons_append, decM, decM_append (l := l) (m := m)]
    cases f d <;> cases decM f l <;> cases decM f m <;> rfl
theorem decL_nil {α : Type} {f : D → Option α} {z : Nat} : decL z f .nil = some [] := rfl
theorem decL_sl {α : Type} {f : D → Option α} {z z' : Nat} {l : List D} : decL z f (.sl z' l) = if z' = z then decM f l else none := rfl
theorem decL_map {α : Type} {f : D → Option α} {g : α → D} {z : Nat} (h : ∀ x, f (g x) = some x) (l : List α) : decL z f (.sl z (l.map g)) = some l := by simp [decL, decM_map h]
theorem dles_of_eq {l m : List D} (h : l = m) : dles l m := h ▸ dles_refl l
theorem decM_le {α : Type} {f : D → Option α} {g : α → D} (h : ∀ {d x}, f d = some x → dle d (g x)) : ∀ {l : List D} {x : List α}, decM f l = some x → dles l (x.map g)
  | [], x, hl => by cases hl; simp [dles]
  | d :: l, x, hl => by
    unfold decM at hl
    split at hl
    · rename_i a r h1 h2
      cases hl
      simp only [List.map_cons, dles]
      exact ⟨h h1, decM_le h h2⟩
    · cases hl
theorem decL_le {α : Type} {f : D → Option α} {g : α → D} {z : Nat} (h : ∀ {d x}, f d = some x → dle d (g x)) {d : D} {x : List α} (hd : decL z f d = some x) : dle d (.sl z (x.map g)) := by
  unfold decL at hd
  split at hd
  · cases hd; simp [dle]
  · split at hd
    · rename_i e
      subst e
      simp only [dle]
      exact ⟨trivial, decM_le h hd⟩
    · cases hd
  · cases hd
theorem seq_iff (x y : ByteArray) : seq x y = true ↔ x = y := by
  unfold seq
  rw [beq_iff_eq, ByteArray.toList_eq, ByteArray.toList_eq]
  exact ⟨fun h => Go.WideShapes.bytes_inj h, fun h => by rw [h]⟩
theorem seq_dec (x y : ByteArray) : seq x y = decide (x = y) := by
  rw [Bool.eq_iff_iff, seq_iff, decide_eq_true_iff]
end Go.Ev

namespace Go.Ev
structure Change where
  file : ByteArray
  kind : Int
  rrn : Int
  before : ByteArray
  after : ByteArray
deriving DecidableEq
def encChange (x : Change) : D := .agg [.s x.file, .i .i64 x.kind, .i .i64 x.rrn, .s x.before, .s x.after]
def zChange : Change := ⟨⟨#[]⟩, 0, 0, ⟨#[]⟩, ⟨#[]⟩⟩
theorem etaChange (x : Change) : (⟨x.file, x.kind, x.rrn, x.before, x.after⟩ : Change) = x := rfl
def decChange : D → Option Change
  | .agg [.s a0, .i .i64 a1, .i .i64 a2, .s a3, .s a4] => some ⟨a0, a1, a2, a3, a4⟩
  | _ => none
theorem decChange_enc (x : Change) : decChange (encChange x) = some x := rfl
theorem decChange_le {d : D} {x : Change} (h : decChange d = some x) : dle d (encChange x) := by
  unfold decChange at h
  split at h
  · cases h; exact dle_refl _
  · cases h
theorem zfChange : (⟨⟨#[]⟩, 0, 0, ⟨#[]⟩, ⟨#[]⟩⟩ : Change) = zChange := rfl
theorem ceqChange {a0 b0 : ByteArray} {a1 b1 : Int} {a2 b2 : Int} {a3 b3 : ByteArray} {a4 b4 : ByteArray} : cellsEq [.s, .i, .i, .s, .s] [.s a0, .i .i64 a1, .i .i64 a2, .s a3, .s a4] [.s b0, .i .i64 b1, .i .i64 b2, .s b3, .s b4] = some (eqB (⟨a0, a1, a2, a3, a4⟩ : Change) ⟨b0, b1, b2, b3, b4⟩) := by
  simp only [cellsEq, cellEq, seq_dec, ↓reduceIte, Option.some.injEq, Bool.and_true]; rw [Bool.eq_iff_iff]; simp [eqB]
theorem getD_Change (l : List Change) (k : Nat) : (l.map encChange).getD k (encChange zChange) = encChange (l.getD k zChange) := by
  simp only [List.getD, List.getElem?_map]
  cases l[k]? <;> rfl
theorem getDz_Change (l : List Change) (k : Nat) : (l.map encChange).getD k (.agg [.s ⟨#[]⟩, .i .i64 0, .i .i64 0, .s ⟨#[]⟩, .s ⟨#[]⟩]) = encChange (l.getD k zChange) := getD_Change l k
theorem dL_Change (l : List Change) : decL 5 decChange (.sl 5 (l.map encChange)) = some l := decL_map decChange_enc l
theorem dM_Change (l : List Change) : decM decChange (l.map encChange) = some l := decM_map decChange_enc l
structure Entry where
  number : Int
  kind : Int
  unit : Int
  change : Change
deriving DecidableEq
def encEntry (x : Entry) : D := .agg [.i .i64 x.number, .i .i64 x.kind, .i .i64 x.unit, .s x.change.file, .i .i64 x.change.kind, .i .i64 x.change.rrn, .s x.change.before, .s x.change.after]
def zEntry : Entry := ⟨0, 0, 0, zChange⟩
theorem etaEntry (x : Entry) : (⟨x.number, x.kind, x.unit, x.change⟩ : Entry) = x := rfl
def decEntry : D → Option Entry
  | .agg [.i .i64 a0, .i .i64 a1, .i .i64 a2, .s a3, .i .i64 a4, .i .i64 a5, .s a6, .s a7] => some ⟨a0, a1, a2, ⟨a3, a4, a5, a6, a7⟩⟩
  | _ => none
theorem decEntry_enc (x : Entry) : decEntry (encEntry x) = some x := rfl
theorem decEntry_le {d : D} {x : Entry} (h : decEntry d = some x) : dle d (encEntry x) := by
  unfold decEntry at h
  split at h
  · cases h; exact dle_refl _
  · cases h
theorem zfEntry : (⟨0, 0, 0, zChange⟩ : Entry) = zEntry := rfl
theorem ceqEntry {a0 b0 : Int} {a1 b1 : Int} {a2 b2 : Int} {a3 b3 : ByteArray} {a4 b4 : Int} {a5 b5 : Int} {a6 b6 : ByteArray} {a7 b7 : ByteArray} : cellsEq [.i, .i, .i, .s, .i, .i, .s, .s] [.i .i64 a0, .i .i64 a1, .i .i64 a2, .s a3, .i .i64 a4, .i .i64 a5, .s a6, .s a7] [.i .i64 b0, .i .i64 b1, .i .i64 b2, .s b3, .i .i64 b4, .i .i64 b5, .s b6, .s b7] = some (eqB (⟨a0, a1, a2, ⟨a3, a4, a5, a6, a7⟩⟩ : Entry) ⟨b0, b1, b2, ⟨b3, b4, b5, b6, b7⟩⟩) := by
  simp only [cellsEq, cellEq, seq_dec, ↓reduceIte, Option.some.injEq, Bool.and_true]; rw [Bool.eq_iff_iff]; simp [eqB]
theorem getD_Entry (l : List Entry) (k : Nat) : (l.map encEntry).getD k (encEntry zEntry) = encEntry (l.getD k zEntry) := by
  simp only [List.getD, List.getElem?_map]
  cases l[k]? <;> rfl
theorem getDz_Entry (l : List Entry) (k : Nat) : (l.map encEntry).getD k (.agg [.i .i64 0, .i .i64 0, .i .i64 0, .s ⟨#[]⟩, .i .i64 0, .i .i64 0, .s ⟨#[]⟩, .s ⟨#[]⟩]) = encEntry (l.getD k zEntry) := getD_Entry l k
theorem dL_Entry (l : List Entry) : decL 8 decEntry (.sl 8 (l.map encEntry)) = some l := decL_map decEntry_enc l
theorem dM_Entry (l : List Entry) : decM decEntry (l.map encEntry) = some l := decM_map decEntry_enc l
structure Packet where
  kind : Int
  number : Int
deriving DecidableEq
def encPacket (x : Packet) : D := .agg [.i .i64 x.kind, .i .i64 x.number]
def decPacket : D → Option Packet
  | .agg [.i .i64 a0, .i .i64 a1] => some ⟨a0, a1⟩
  | _ => none
theorem decPacket_enc (x : Packet) : decPacket (encPacket x) = some x := rfl
theorem dM_Packet (l : List Packet) : decM decPacket (l.map encPacket) = some l := decM_map decPacket_enc l
structure Remote where
  sync : Bool
  source : List Entry
  target : List Entry
  sent : Int
  acked : Int
  wire : List Packet
deriving DecidableEq
structure RAct where
  kind : Int
  n : Int
  entry : Entry
deriving DecidableEq
def encRAct (x : RAct) : D := .agg [.i .i64 x.kind, .i .i64 x.n, .i .i64 x.entry.number, .i .i64 x.entry.kind, .i .i64 x.entry.unit, .s x.entry.change.file, .i .i64 x.entry.change.kind, .i .i64 x.entry.change.rrn, .s x.entry.change.before, .s x.entry.change.after]
def decRAct : D → Option RAct
  | .agg [.i .i64 a0, .i .i64 a1, .i .i64 a2, .i .i64 a3, .i .i64 a4, .s a5, .i .i64 a6, .i .i64 a7, .s a8, .s a9] => some ⟨a0, a1, ⟨a2, a3, a4, ⟨a5, a6, a7, a8, a9⟩⟩⟩
  | _ => none
theorem decRAct_enc (x : RAct) : decRAct (encRAct x) = some x := rfl
theorem dM_RAct (l : List RAct) : decM decRAct (l.map encRAct) = some l := decM_map decRAct_enc l
structure AUnit where
  unit : Int
  first : Int
  last : Int
  state : Int
deriving DecidableEq
def encAUnit (x : AUnit) : D := .agg [.i .i64 x.unit, .i .i64 x.first, .i .i64 x.last, .i .i64 x.state]
def zAUnit : AUnit := ⟨0, 0, 0, 0⟩
theorem etaAUnit (x : AUnit) : (⟨x.unit, x.first, x.last, x.state⟩ : AUnit) = x := rfl
def decAUnit : D → Option AUnit
  | .agg [.i .i64 a0, .i .i64 a1, .i .i64 a2, .i .i64 a3] => some ⟨a0, a1, a2, a3⟩
  | _ => none
theorem decAUnit_enc (x : AUnit) : decAUnit (encAUnit x) = some x := rfl
theorem decAUnit_le {d : D} {x : AUnit} (h : decAUnit d = some x) : dle d (encAUnit x) := by
  unfold decAUnit at h
  split at h
  · cases h; exact dle_refl _
  · cases h
theorem zfAUnit : (⟨0, 0, 0, 0⟩ : AUnit) = zAUnit := rfl
theorem ceqAUnit {a0 b0 : Int} {a1 b1 : Int} {a2 b2 : Int} {a3 b3 : Int} : cellsEq [.i, .i, .i, .i] [.i .i64 a0, .i .i64 a1, .i .i64 a2, .i .i64 a3] [.i .i64 b0, .i .i64 b1, .i .i64 b2, .i .i64 b3] = some (eqB (⟨a0, a1, a2, a3⟩ : AUnit) ⟨b0, b1, b2, b3⟩) := by
  simp only [cellsEq, cellEq, seq_dec, ↓reduceIte, Option.some.injEq, Bool.and_true]; rw [Bool.eq_iff_iff]; simp [eqB]
theorem getD_AUnit (l : List AUnit) (k : Nat) : (l.map encAUnit).getD k (encAUnit zAUnit) = encAUnit (l.getD k zAUnit) := by
  simp only [List.getD, List.getElem?_map]
  cases l[k]? <;> rfl
theorem getDz_AUnit (l : List AUnit) (k : Nat) : (l.map encAUnit).getD k (.agg [.i .i64 0, .i .i64 0, .i .i64 0, .i .i64 0]) = encAUnit (l.getD k zAUnit) := getD_AUnit l k
theorem dL_AUnit (l : List AUnit) : decL 4 decAUnit (.sl 4 (l.map encAUnit)) = some l := decL_map decAUnit_enc l
theorem dM_AUnit (l : List AUnit) : decM decAUnit (l.map encAUnit) = some l := decM_map decAUnit_enc l
end Go.Ev

namespace Go.Ev
def fewGo : Nat → List Entry → Bool
  | _, [] => true
  | i, e :: r => decide (i ≤ 81) && (decide (e.change.before.size ≤ 300) && decide (e.change.after.size ≤ 300)) && fewGo (i + 1) r
def few35 (l : List Entry) : Bool := fewGo 0 l
def chr (s : ByteArray) (i : Nat) : Int := ((s.data.toList.getD i 0).toNat : Int)
def nameC (first : Bool) (c : Int) : Bool := (decide (65 ≤ c) && decide (c ≤ 90) || c == 35 || c == 36 || c == 64) || (!first && (c == 95 || c == 46 || decide (48 ≤ c) && decide (c ≤ 57)))
def isName (s : ByteArray) : Bool := decide (1 ≤ s.size) && decide (s.size ≤ 10) && (List.range s.size).all fun i => nameC (i == 0) (chr s i)
theorem bytesD_get (s : ByteArray) (k : Nat) : (bytesD s).getD k (.i .u8 0) = .i .u8 (chr s k) := by
  unfold bytesD chr
  simp only [List.getD, List.getElem?_map]
  cases s.data.toList[k]? <;> rfl
theorem chr_u8 (s : ByteArray) (i : Nat) : 0 ≤ chr s i ∧ chr s i ≤ 255 := by
  unfold chr
  have := (s.data.toList.getD i 0).toNat_lt
  omega
theorem chr_eq (s : ByteArray) (i : Nat) : ((s.data.toList.getD i 0).toNat : Int) = chr s i := rfl
theorem isName_no {s : ByteArray} {i : Nat} (h : i < s.size) (hc : nameC (i == 0) (chr s i) = false) : isName s = false := by
  unfold isName
  rw [Bool.and_eq_false_iff]
  right
  rw [List.all_eq_false]
  exact ⟨i, by simpa using h, by simp [hc]⟩
theorem isName_yes {s : ByteArray} (h1 : 1 ≤ s.size) (h2 : s.size ≤ 10) (h : ∀ j, j < s.size → nameC (j == 0) (chr s j) = true) : isName s = true := by
  unfold isName
  simp only [Bool.and_eq_true, decide_eq_true_eq, List.all_eq_true, List.mem_range]
  exact ⟨⟨h1, h2⟩, h⟩
theorem isName_len {s : ByteArray} (h : (s.size : Int) < 1 ∨ 10 < (s.size : Int)) : isName s = false := by
  unfold isName
  rw [Bool.and_eq_false_iff]
  left
  simp only [Bool.and_eq_false_iff, decide_eq_false_iff_not]
  omega
theorem nameC_iff (i : Nat) (c : Int) : nameC (i == 0) c = true ↔ (((65 ≤ c ∧ c ≤ 90) ∨ c = 35 ∨ c = 36 ∨ c = 64) ∨ (i ≠ 0 ∧ (c = 95 ∨ c = 46 ∨ (48 ≤ c ∧ c ≤ 57)))) := by
  simp [nameC]
  omega
theorem ba_empty (s : ByteArray) : s = ⟨#[]⟩ ↔ s.size = 0 := by
  constructor
  · rintro rfl; rfl
  · intro h
    cases s with | mk d => simp only [ByteArray.size, Array.size_eq_zero_iff] at h; rw [h]
def changeErr (c : Change) : Int :=
  if ¬(0 ≤ c.kind ∧ c.kind ≤ 2) then 4 else if ¬(1 ≤ c.rrn ∧ c.rrn ≤ 60) then 3 else if 200 < c.before.size ∨ 200 < c.after.size then 18
  else if ¬(c.before = ⟨#[]⟩ ↔ c.kind = 0) ∨ ¬(c.after = ⟨#[]⟩ ↔ c.kind = 2) then 5 else 0
def formUsed (e : Entry) : Entry :=
  if e.kind = 0 then e else if e.kind = 1 ∨ e.kind = 2 ∨ e.kind = 3 then ⟨e.number, e.kind, e.unit, zChange⟩
  else if e.kind = 4 then ⟨e.number, e.kind, 0, { zChange with file := e.change.file }⟩ else ⟨e.number, e.kind, 0, zChange⟩
theorem entry_ext (a b : Entry) : a = b ↔ a.number = b.number ∧ a.kind = b.kind ∧ a.unit = b.unit ∧ a.change.file = b.change.file ∧ a.change.kind = b.change.kind ∧ a.change.rrn = b.change.rrn ∧ a.change.before = b.change.before ∧ a.change.after = b.change.after := by
  cases a with | mk a1 a2 a3 a4 => cases a4; cases b with | mk b1 b2 b3 b4 => cases b4; simp
theorem change_ext (a b : Change) : a = b ↔ a.file = b.file ∧ a.kind = b.kind ∧ a.rrn = b.rrn ∧ a.before = b.before ∧ a.after = b.after := by
  cases a; cases b; simp
def formErr (e : Entry) : Int := if formUsed e = e then 0 else 5
def entryErr (e : Entry) : Int :=
  if ¬(0 ≤ e.kind ∧ e.kind ≤ 5) then 4 else if ¬(1 ≤ e.number ∧ e.number ≤ 9999) then 3
  else if (e.kind = 1 ∨ e.kind = 2 ∨ e.kind = 3) ∧ ¬(1 ≤ e.unit ∧ e.unit ≤ 999) then 3
  else if e.kind = 0 ∧ ¬(0 ≤ e.unit ∧ e.unit ≤ 999) then 3
  else if ¬formUsed e = e then 5 else if e.kind ≠ 0 ∧ e.kind ≠ 4 then 0 else if isName e.change.file = false then 7
  else if e.kind = 4 then 0 else changeErr e.change
def pBegin (u : Int) (e : Entry) : Bool := e.kind == 1 && e.unit == u
def pEnd (u : Int) (e : Entry) : Bool := (e.kind == 2 || e.kind == 3) && e.unit == u
def begins (l : List Entry) (u : Int) : Bool := l.any (pBegin u)
def ends? (l : List Entry) (u : Int) : Option Entry := l.find? (pEnd u)
def ends (l : List Entry) (u : Int) : Int := match ends? l u with | some e => e.kind | none => -1
def isOpen (l : List Entry) (u : Int) : Bool := begins l u && ends l u == -1
def stateErr (b : List Entry) (e : Entry) : Int :=
  if e.kind = 1 then (if isOpen b e.unit = true then 26 else if begins b e.unit = true then 13 else 0)
  else if e.kind = 2 ∨ e.kind = 3 then (if isOpen b e.unit = true then 0 else 26)
  else if e.kind = 0 then (if e.unit ≠ 0 ∧ isOpen b e.unit = false then 26 else 0) else 0
def checkFrom (l : List Entry) : Nat → Nat → Int × Int
  | 0, _ => (0, 0)
  | n + 1, i =>
    if entryErr (l.getD i zEntry) ≠ 0 then (i, entryErr (l.getD i zEntry))
    else if 0 < i ∧ (l.getD i zEntry).number ≠ IntKind.i64.wrap ((l.getD ((i : Int) - 1).toNat zEntry).number + 1) then (i, 14)
    else if stateErr (l.take i) (l.getD i zEntry) ≠ 0 then (i, stateErr (l.take i) (l.getD i zEntry))
    else checkFrom l n (i + 1)
def check (l : List Entry) : Int × Int := if 80 < l.length then (0, 2) else checkFrom l l.length 0
theorem checkFrom_lt {l : List Entry} {i : Nat} (h : i < l.length) : checkFrom l (l.length - i) i =
    if entryErr (l.getD i zEntry) ≠ 0 then ((i : Int), entryErr (l.getD i zEntry))
    else if 0 < i ∧ (l.getD i zEntry).number ≠ IntKind.i64.wrap ((l.getD ((i : Int) - 1).toNat zEntry).number + 1) then ((i : Int), 14)
    else if stateErr (l.take i) (l.getD i zEntry) ≠ 0 then ((i : Int), stateErr (l.take i) (l.getD i zEntry))
    else checkFrom l (l.length - (i + 1)) (i + 1) := by
  obtain ⟨n, hn⟩ : ∃ n, l.length - i = n + 1 := ⟨l.length - i - 1, by omega⟩
  rw [hn, show l.length - (i + 1) = n by omega]
  rfl
theorem checkFrom_end {l : List Entry} {i : Nat} (h : l.length ≤ i) : checkFrom l (l.length - i) i = (0, 0) := by
  rw [show l.length - i = 0 by omega]; rfl
theorem int_pred (i : Nat) : ((i : Int) - 1).toNat = i - 1 := by omega
section
variable {l : List Entry} {c : Int × Int} {i : Nat}
theorem checkFrom_bad1 (h : checkFrom l (l.length - i) i = c) (hi : i < l.length) (h1 : ¬entryErr (l.getD i zEntry) = 0) : c.1 = i ∧ c.2 = entryErr (l.getD i zEntry) := by
  rw [checkFrom_lt hi, if_pos h1] at h
  rw [← h]; exact ⟨rfl, rfl⟩
theorem checkFrom_bad2 (h : checkFrom l (l.length - i) i = c) (hi : i < l.length) (h1 : entryErr (l.getD i zEntry) = 0) (h0 : 0 < (i : Int)) (h2 : ¬(l.getD i zEntry).number = IntKind.i64.wrap ((l.getD ((i : Int) - 1).toNat zEntry).number + 1)) : c.1 = i ∧ c.2 = 14 := by
  rw [checkFrom_lt hi, if_neg (fun e => e h1), if_pos ⟨by omega, h2⟩] at h
  rw [← h]; exact ⟨rfl, rfl⟩
theorem checkFrom_bad3 (h : checkFrom l (l.length - i) i = c) (hi : i < l.length) (h1 : entryErr (l.getD i zEntry) = 0) (h2 : (i : Int) ≤ 0 ∨ (l.getD i zEntry).number = IntKind.i64.wrap ((l.getD ((i : Int) - 1).toNat zEntry).number + 1)) (h3 : ¬stateErr (l.take i) (l.getD i zEntry) = 0) :
    c.1 = i ∧ c.2 = stateErr (l.take i) (l.getD i zEntry) := by
  rw [checkFrom_lt hi, if_neg (fun e => e h1), if_neg (by omega), if_pos h3] at h
  rw [← h]; exact ⟨rfl, rfl⟩
theorem checkFrom_next (h : checkFrom l (l.length - i) i = c) (hi : i < l.length) (h1 : entryErr (l.getD i zEntry) = 0) (h2 : (i : Int) ≤ 0 ∨ (l.getD i zEntry).number = IntKind.i64.wrap ((l.getD ((i : Int) - 1).toNat zEntry).number + 1)) (h3 : stateErr (l.take i) (l.getD i zEntry) = 0) :
    checkFrom l (l.length - (i + 1)) (i + 1) = c := by
  rwa [checkFrom_lt hi, if_neg (fun e => e h1), if_neg (by omega), if_neg (fun e => e h3)] at h
end
section
variable {l : List Entry} {u : Int} {i : Nat}
theorem getD_mem {α : Type} {l : List α} {i : Nat} (z : α) (h : i < l.length) : l.getD i z ∈ l := by
  simp only [List.getD, List.getElem?_eq_getElem h, Option.getD_some]
  exact List.getElem_mem h
theorem begins_yes (h : i < l.length) (h1 : (l.getD i zEntry).kind = 1) (h2 : (l.getD i zEntry).unit = u) : begins l u = true := by
  unfold begins
  rw [List.any_eq_true]
  exact ⟨_, getD_mem zEntry h, by simp only [pBegin, Bool.and_eq_true, beq_iff_eq]; exact ⟨h1, h2⟩⟩
theorem begins_step (hb : begins (l.take i) u = false) (h : i < l.length) (hn : ¬((l.getD i zEntry).kind = 1 ∧ (l.getD i zEntry).unit = u)) : begins (l.take (i + 1)) u = false := by
  unfold begins at hb ⊢
  rw [take_getD zEntry h, List.any_append, hb]
  simp only [List.any_cons, List.any_nil, Bool.or_false, Bool.false_or, pBegin]
  rw [Bool.and_eq_false_iff]
  simp only [beq_eq_false_iff_ne, ne_eq]
  omega
theorem begins_end (hb : begins (l.take i) u = false) (h : l.length ≤ i) : begins l u = false := by
  rwa [List.take_of_length_le h] at hb
theorem ends_yes (hb : ends? (l.take i) u = none) (h : i < l.length) (h1 : (l.getD i zEntry).kind = 2 ∨ (l.getD i zEntry).kind = 3) (h2 : (l.getD i zEntry).unit = u) : ends l u = (l.getD i zEntry).kind := by
  have : ends? l u = some (l.getD i zEntry) := by
    unfold ends? at hb ⊢
    rw [← List.take_append_drop i l, List.find?_append, hb, Option.none_or, List.take_append_drop, drop_getD zEntry h, List.find?_cons]
    have : pEnd u (l.getD i zEntry) = true := by
      simp only [pEnd, Bool.and_eq_true, Bool.or_eq_true, beq_iff_eq]
      exact ⟨h1, h2⟩
    rw [this]
  unfold ends
  rw [this]
theorem ends_step (hb : ends? (l.take i) u = none) (h : i < l.length) (hn : ¬(((l.getD i zEntry).kind = 2 ∨ (l.getD i zEntry).kind = 3) ∧ (l.getD i zEntry).unit = u)) : ends? (l.take (i + 1)) u = none := by
  unfold ends? at hb ⊢
  rw [take_getD zEntry h, List.find?_append, hb, Option.none_or, List.find?_cons]
  have : pEnd u (l.getD i zEntry) = false := by
    rw [← Bool.not_eq_true]
    simp only [pEnd, Bool.and_eq_true, Bool.or_eq_true, beq_iff_eq]
    exact hn
  rw [this]; rfl
theorem ends_end (hb : ends? (l.take i) u = none) (h : l.length ≤ i) : ends l u = -1 := by
  rw [List.take_of_length_le h] at hb
  unfold ends; rw [hb]
end
theorem take_eq_step {α : Type} {a b : List α} {i : Nat} {z : α} (h : a.take i = b.take i) (ha : i < a.length) (hb : i < b.length) (he : a.getD i z = b.getD i z) : a.take (i + 1) = b.take (i + 1) := by
  rw [take_getD z ha, take_getD z hb, h, he]
theorem take_eq_end {α : Type} {a b : List α} {i : Nat} (h : a.take i = b.take i) (ha : a.length ≤ i) (hb : b.length ≤ i) : a = b := by
  rwa [List.take_of_length_le ha, List.take_of_length_le hb] at h
def beginsWith (l first : List Entry) : Bool := decide (first.length ≤ l.length) && decide (l.take first.length = first)
def wireErr (ns nt : Nat) : List Packet → Int
  | [] => 0
  | p :: r => if ¬(0 ≤ p.kind ∧ p.kind ≤ 1) then 4 else if p.kind = 0 ∧ ¬(1 ≤ p.number ∧ p.number ≤ (ns : Int)) ∨ p.kind = 1 ∧ ¬(0 ≤ p.number ∧ p.number ≤ (nt : Int)) then 3 else wireErr ns nt r
def remoteErr (x : Remote) : Int :=
  if (check x.source).2 ≠ 0 then (check x.source).2
  else if 40 < x.source.length then 2
  else if 0 < x.source.length ∧ (x.source.getD 0 zEntry).number ≠ 1 then 14
  else if beginsWith x.source x.target = false then 41
  else if ¬(0 ≤ x.sent ∧ x.sent ≤ (x.source.length : Int)) ∨ ¬(0 ≤ x.acked ∧ x.acked ≤ (x.target.length : Int) ∧ x.acked ≤ x.sent) then 3
  else if 12 < x.wire.length then 2
  else wireErr x.source.length x.target.length x.wire
end Go.Ev

namespace Go.Ev
theorem getD_append_one {α : Type} {l : List α} {y z : α} {j : Nat} : (l ++ [y]).getD j z = if j < l.length then l.getD j z else if j = l.length then y else z := by
  simp only [List.getD, List.getElem?_append]
  by_cases h : j < l.length
  · simp [h]
  · simp only [h, if_false]
    by_cases e : j = l.length
    · subst e; simp
    · have : j - l.length ≠ 0 := by omega
      simp [e, List.getElem?_cons, this]
def pktOk (ns nt : Nat) (p : Packet) : Prop := (p.kind = 0 ∨ p.kind = 1) ∧ (p.kind = 0 → 1 ≤ p.number ∧ p.number ≤ (ns : Int)) ∧ (p.kind = 1 → 0 ≤ p.number ∧ p.number ≤ (nt : Int))
theorem wireErr_iff {ns nt : Nat} : ∀ {l : List Packet}, wireErr ns nt l = 0 ↔ ∀ p ∈ l, pktOk ns nt p
  | [] => by simp [wireErr]
  | p :: l => by
    rw [List.forall_mem_cons, ← wireErr_iff (l := l), wireErr]
    unfold pktOk
    constructor
    · intro h
      split at h
      · cases h
      · split at h
        · cases h
        · exact ⟨by omega, h⟩
    · rintro ⟨h1, h2⟩
      rw [if_neg (by omega), if_neg (by omega)]; exact h2
structure rightR (x : Remote) : Prop where
  c : (check x.source).2 = 0
  n : x.source.length ≤ 40
  f : 0 < x.source.length → (x.source.getD 0 zEntry).number = 1
  t : x.target.length ≤ x.source.length
  b : x.source.take x.target.length = x.target
  s0 : 0 ≤ x.sent
  s1 : x.sent ≤ (x.source.length : Int)
  a0 : 0 ≤ x.acked
  a1 : x.acked ≤ (x.target.length : Int)
  a2 : x.acked ≤ x.sent
  w : x.wire.length ≤ 12
  p : ∀ p ∈ x.wire, pktOk x.source.length x.target.length p
theorem remoteErr_iff {x : Remote} : remoteErr x = 0 ↔ rightR x := by
  constructor
  · intro h
    unfold remoteErr at h
    split at h
    · exact absurd h ‹_›
    split at h
    · cases h
    split at h
    · cases h
    split at h
    · cases h
    split at h
    · cases h
    split at h
    · cases h
    rename_i h1 h2 h3 h4 h5 h6
    simp only [Bool.not_eq_false, beginsWith, Bool.and_eq_true, decide_eq_true_eq] at h4
    exact ⟨by omega, by omega, fun hl => by omega, h4.1, h4.2, by omega, by omega, by omega, by omega, by omega, by omega, wireErr_iff.1 h⟩
  · rintro ⟨h1, h2, h3, h4, h5, h6, h7, h8, h9, h10, h11, h12⟩
    unfold remoteErr
    rw [if_neg (by omega), if_neg (by omega), if_neg (fun h => h.2 (h3 h.1)), if_neg (by simp [beginsWith, h4, h5]), if_neg (by omega), if_neg (by omega)]
    exact wireErr_iff.2 h12
theorem rightR.err {x : Remote} (h : rightR x) : remoteErr x = 0 := remoteErr_iff.2 h
theorem pktOk.mono {ns nt ns' nt' : Nat} {p : Packet} (h : pktOk ns nt p) (h1 : ns ≤ ns') (h2 : nt ≤ nt') : pktOk ns' nt' p := by
  unfold pktOk at h ⊢
  omega
theorem fewGo_len : ∀ {l : List Entry} {i : Nat}, fewGo i l = true → i ≤ 82 → l.length + i ≤ 82
  | [], i, _, h => by simpa using h
  | e :: l, i, h, hi => by
    simp only [fewGo, Bool.and_eq_true, decide_eq_true_eq] at h
    have := fewGo_len h.2 (by omega)
    simp only [List.length_cons]; omega
theorem few35_len {l : List Entry} (h : few35 l = true) : l.length ≤ 82 := fewGo_len h (by omega)
theorem nc0 : ((0 : Nat) : Int) = 0 := rfl
theorem nc1 : ((1 : Nat) : Int) = 1 := rfl
theorem nc2 : ((2 : Nat) : Int) = 2 := rfl
end Go.Ev

namespace Go.Ev
theorem fnm_ex0 (B : Nat) : ∃ p : (Nat → Nat) × (Nat → Option Nat), (∀ k, B ≤ p.1 k) ∧ (∀ k, p.2 (p.1 k) = some k) ∧ ∀ i k, p.2 i = some k → i = p.1 k := by
  refine ⟨(fun k => k + B, fun i => if B ≤ i then some (i - B) else none), fun k => Nat.le_add_left _ _, fun k => ?_, fun i k h => ?_⟩
  · show (if _ then _ else _) = _
    rw [if_pos (Nat.le_add_left _ _), Nat.add_sub_cancel]
  · have h : (if B ≤ i then some (i - B) else none) = some k := h
    show i = k + B
    split at h
    · cases h; omega
    · cases h
theorem fnm_ex : ∃ p : (Nat → Nat) × (Nat → Option Nat), (∀ k, 1000000 ≤ p.1 k) ∧ (∀ k, p.2 (p.1 k) = some k) ∧ ∀ i k, p.2 i = some k → i = p.1 k := fnm_ex0 1000000
noncomputable def fnm : Nat → Nat := (Classical.choose fnm_ex).1
noncomputable def finv : Nat → Option Nat := (Classical.choose fnm_ex).2
theorem fnm_ge (k : Nat) : 1000000 ≤ fnm k := (Classical.choose_spec fnm_ex).1 k
theorem finv_fnm (k : Nat) : finv (fnm k) = some k := (Classical.choose_spec fnm_ex).2.1 k
theorem fnm_finv {i k : Nat} (h : finv i = some k) : i = fnm k := (Classical.choose_spec fnm_ex).2.2 i k h
theorem fnm_inj {j k : Nat} : (fnm j = fnm k) = (j = k) := by
  refine propext ⟨fun h => ?_, fun h => by rw [h]⟩
  have := finv_fnm j
  rw [h, finv_fnm] at this
  exact (Option.some.inj this).symm
theorem lit_fnm {i k : Nat} (h : i < 1000000) : (i = fnm k) = False := by
  refine propext ⟨fun e => ?_, False.elim⟩
  have := fnm_ge k
  omega
theorem fnm_lit {i k : Nat} (h : i < 1000000) : (fnm k = i) = False := by
  refine propext ⟨fun e => ?_, False.elim⟩
  have := fnm_ge k
  omega
noncomputable def famF (t : TypeId) : Nat → List (List D) → List (Nat × HS)
  | _, [] => []
  | k, c :: r => (fnm k, .live (.box t (c.map .d))) :: famF t (k + 1) r
noncomputable def fam (t : TypeId) (cs : List (List D)) : List (Nat × HS) := famF t 0 cs
noncomputable def ptrs (n : Nat) : List V := (List.range n).map fun k => .ptr (fnm k) 0
theorem aget_famF {t : TypeId} : ∀ {cs : List (List D)} {j k : Nat}, aget (famF t j cs) (fnm k) = if j ≤ k then (cs[k - j]?).map fun c => HS.live (.box t (c.map .d)) else none
  | [], j, k => by simp [famF, aget]
  | c :: r, j, k => by
    simp only [famF, aget, fnm_inj]
    by_cases e : k = j
    · subst e; simp
    · rw [if_neg e, aget_famF]
      by_cases h : j ≤ k
      · rw [if_pos h, if_pos (by omega), show k - j = (k - (j + 1)) + 1 by omega, List.getElem?_cons_succ]
      · rw [if_neg h, if_neg (by omega)]
theorem aget_famF_no {t : TypeId} {i : Nat} (h : ∀ k, i ≠ fnm k) : ∀ {cs : List (List D)} {j : Nat}, aget (famF t j cs) i = none
  | [], j => rfl
  | c :: r, j => by
    simp only [famF, aget]
    rw [if_neg (h j), aget_famF_no h]
theorem aget_famF_lt {t : TypeId} {i : Nat} (h : i < 1000000) {cs : List (List D)} {j : Nat} : aget (famF t j cs) i = none :=
  aget_famF_no fun k e => by have := fnm_ge k; omega
theorem aget_fam {t : TypeId} {cs : List (List D)} {k : Nat} : aget (fam t cs) (fnm k) = (cs[k]?).map fun c => HS.live (.box t (c.map .d)) := by
  unfold fam; rw [aget_famF]; simp
theorem aget_fam_lt {t : TypeId} {cs : List (List D)} {i : Nat} (h : i < 1000000) : aget (fam t cs) i = none := aget_famF_lt h
theorem ptrs_get {n k : Nat} (h : k < n) : (ptrs n).getD k (.d .np) = .ptr (fnm k) 0 := by
  simp [ptrs, List.getD, h]
theorem vss_d {ρ : Nat → Option Nat} {nf : Nat → Prop} : ∀ (l : List D), vss ρ nf (l.map .d) (l.map .d)
  | [] => trivial
  | d :: l => by
    simp only [List.map_cons, vss, vs]
    exact ⟨dle_refl d, vss_d l⟩
theorem vss_ptr {ρ : Nat → Option Nat} {nf : Nat → Prop} {f g : Nat → Nat} : ∀ (l : List Nat), (∀ k ∈ l, ρ (g k) = some (f k) ∧ nf (g k)) → vss ρ nf (l.map fun k => .ptr (f k) 0) (l.map fun k => .ptr (g k) 0)
  | [], _ => trivial
  | k :: l, h => by
    simp only [List.map_cons, vss, vs]
    exact ⟨⟨_, rfl, h k (by simp)⟩, vss_ptr l fun j hj => h j (by simp [hj])⟩
theorem sub_fam {C : Cfg} {M T t : Nat} (hM : M < 1000000) (hp0 : C.pins = []) {sl sl' : List (Nat × V)} {hp : List (Nat × HS)} {ks : List D} {cs : List (List D)} (r : Nat → Nat)
    (hmap : aget hp M = some (.live (.mp T ks ((List.range cs.length).map fun k => .ptr (r k) 0))))
    (hbox : ∀ k c, cs[k]? = some c → aget hp (r k) = some (.live (.box t (c.map .d))))
    (hr : ∀ k k', k < cs.length → k' < cs.length → r k = r k' → k = k') (hrM : ∀ k, k < cs.length → r k ≠ M)
    (hs : ∀ (ρ : Nat → Option Nat) (nf : Nat → Prop), ρ M = some M → nf M → slSub ρ nf sl sl') :
    Sub C (mkS sl hp) (mkS sl' ((M, .live (.mp T ks (ptrs cs.length))) :: fam t cs)) := by
  let ρ : Nat → Option Nat := fun i => if i = M then some M else match finv i with | some k => if k < cs.length then some (r k) else none | none => none
  have e1 : ρ M = some M := if_pos rfl
  have e2 : ∀ k, k < cs.length → ρ (fnm k) = some (r k) := fun k hk => by
    show (if _ then _ else match finv (fnm k) with | some k => if k < cs.length then some (r k) else none | none => none) = _
    rw [if_neg (by rw [fnm_lit hM]; exact id), finv_fnm]
    exact if_pos hk
  have hp1 : ∀ k, k < cs.length → ∃ c, cs[k]? = some c ∧ (mkS sl' ((M, .live (.mp T ks (ptrs cs.length))) :: fam t cs)).hp (fnm k) = .live (.box t (c.map .d)) := fun k hk => by
    refine ⟨cs[k], by simp [hk], ?_⟩
    show (aget _ _).getD HS.free = _
    simp only [aget, fnm_lit hM, if_false]
    rw [aget_fam]; simp [hk]
  have hpM : (mkS sl' ((M, .live (.mp T ks (ptrs cs.length))) :: fam t cs)).hp M = .live (.mp T ks (ptrs cs.length)) := by
    show (aget _ _).getD HS.free = _
    simp [aget]
  have nfM : Nf (mkS sl' ((M, .live (.mp T ks (ptrs cs.length))) :: fam t cs)).hp M := by unfold Nf; rw [hpM]; rfl
  have nfk : ∀ k, k < cs.length → Nf (mkS sl' ((M, .live (.mp T ks (ptrs cs.length))) :: fam t cs)).hp (fnm k) := fun k hk => by
    obtain ⟨c, _, h⟩ := hp1 k hk
    unfold Nf; rw [h]; rfl
  refine SubBy.sub (ρ := ρ) ⟨fun i y hy => ?_, fun i o' ho' => ?_, fun i j a hi hj => ?_⟩ (by rw [hp0]; intro p hp; cases hp)
  · exact slSub_mem (hs ρ _ e1 nfM) (aget_mem hy)
  · by_cases e : i = M
    · subst e
      rw [hpM] at ho' ⊢
      cases ho'
      refine .inl ⟨i, _, e1, by show ((aget hp i).getD HS.free).obj? = _; rw [hmap]; rfl, ?_, fun _ => by show ((aget hp i).getD HS.free).isLive = true; rw [hmap]; rfl⟩
      simp only [os]
      exact ⟨trivial, dles_refl _, vss_ptr _ fun k hk => ⟨e2 k (by simpa using hk), nfk k (by simpa using hk)⟩⟩
    · have hno : (∀ k, k < cs.length → i ≠ fnm k) → False := fun h => by
        have hf : (mkS sl' ((M, .live (.mp T ks (ptrs cs.length))) :: fam t cs)).hp i = .free := by
          show (aget _ _).getD HS.free = _
          simp only [aget]
          rw [if_neg e]
          cases hv : finv i with
          | none => rw [show aget (fam t cs) i = none from aget_famF_no fun k e => by rw [e, finv_fnm] at hv; cases hv]; rfl
          | some k =>
            have := fnm_finv hv
            subst this
            rw [aget_fam, List.getElem?_eq_none (Nat.le_of_not_lt fun hl => h k hl rfl)]; rfl
        rw [hf] at ho'; cases ho'
      by_cases h : ∃ k, k < cs.length ∧ i = fnm k
      · obtain ⟨k, hk, rfl⟩ := h
        obtain ⟨c, hc, hh⟩ := hp1 k hk
        rw [hh] at ho' ⊢
        cases ho'
        have hb := hbox k c hc
        refine .inl ⟨r k, _, e2 k hk, by show ((aget hp (r k)).getD HS.free).obj? = _; rw [hb]; rfl, ?_, fun _ => by show ((aget hp (r k)).getD HS.free).isLive = true; rw [hb]; rfl⟩
        simp only [os]
        exact ⟨trivial, vss_d c⟩
      · exact (hno fun k hk e => h ⟨k, hk, e⟩).elim
  · have inv : ∀ i, ρ i = some a → (i = M ∧ a = M) ∨ ∃ k, k < cs.length ∧ i = fnm k ∧ a = r k := fun i hi => by
      have hi : (if i = M then some M else match finv i with | some k => if k < cs.length then some (r k) else none | none => none) = some a := hi
      split at hi
      · cases hi; exact .inl ⟨‹_›, rfl⟩
      · split at hi
        · rename_i k hk
          split at hi
          · cases hi; exact .inr ⟨k, ‹_›, fnm_finv hk, rfl⟩
          · cases hi
        · cases hi
    rcases inv i hi with ⟨h1, h2⟩ | ⟨k, h1, h2, h3⟩ <;> rcases inv j hj with ⟨g1, g2⟩ | ⟨k', g1, g2, g3⟩
    · omega
    · exact absurd (g3.symm.trans h2) (hrM k' g1)
    · exact absurd (h3.symm.trans g2) (hrM k h1)
    · have := hr k k' h1 g1 (h3.symm.trans g3); rw [h2, g2, this]
theorem toDs_fam {s : St} {t : TypeId} {cs : List (List D)} (hs : ∀ k c, cs[k]? = some c → s.hp (fnm k) = .live (.box t (c.map .d))) :
    toDs (toD2 s) (ptrs cs.length) = some (cs.map .cp, (List.range cs.length).map fnm) := by
  have one : ∀ (c : List D), toDs (toD1 s) (c.map .d) = some (c, []) := fun c => by
    induction c with
    | nil => rfl
    | cons d c ih => simp [toDs, toD1, ih]
  have key : ∀ n j, (∀ k, j ≤ k → k < j + n → k < cs.length) → toDs (toD2 s) ((List.range' j n).map fun k => .ptr (fnm k) 0) = some (((cs.drop j).take n).map .cp, (List.range' j n).map fnm) := fun n => by
    induction n with
    | zero => intro j _; simp [toDs]
    | succ n ih =>
      intro j h
      have hj := h j (by omega) (by omega)
      have hc : cs[j]? = some cs[j] := by simp [hj]
      have h2 : toD2 s (.ptr (fnm j) 0) = some (.cp cs[j], [fnm j]) := by
        simp only [toD2, getBox, hs j _ hc]
        rw [one]; rfl
      rw [List.range'_succ, List.map_cons, toDs, h2, ih (j + 1) fun k h1 h2 => h k (by omega) (by omega)]
      rw [List.drop_eq_getElem_cons hj]
      rfl
  have := key cs.length 0 fun k _ h => by omega
  rw [ptrs, List.range_eq_range', this]
  simp
end Go.Ev

namespace Go.Ev
def cellsU (u : AUnit) : List D := [.i .i64 u.unit, .i .i64 u.first, .i .i64 u.last, .i .i64 u.state]
def keyU (u : AUnit) : D := .i .i64 u.unit
def uidx (us : List AUnit) (n : Int) : Option Nat := us.findIdx? (·.unit == n)
def uEnd (e : Entry) (u : AUnit) : AUnit := { u with last := e.number, state := if e.kind = 2 then 0 else if e.kind = 3 then 1 else u.state }
def uStep (us : List AUnit) (e : Entry) : List AUnit :=
  if e.kind = 1 then us ++ [⟨e.unit, e.number, e.number, 2⟩]
  else if e.kind = 2 ∨ e.kind = 3 ∨ (e.kind = 0 ∧ e.unit ≠ 0) then match uidx us e.unit with
    | some k => us.modify k (uEnd e)
    | none => us
  else us
def unitsOf (l : List Entry) : List AUnit := l.foldl uStep []
theorem unitsOf_snoc (l : List Entry) (e : Entry) : unitsOf (l ++ [e]) = uStep (unitsOf l) e := by simp [unitsOf]
theorem unitsOf_take {l : List Entry} {i : Nat} (h : i < l.length) : unitsOf (l.take (i + 1)) = uStep (unitsOf (l.take i)) (l.getD i zEntry) := by
  rw [take_getD zEntry h, unitsOf_snoc]
theorem keyIdx_U (us : List AUnit) (n : Int) : keyIdx (us.map keyU) (.i .i64 n) = uidx us n := by
  unfold uidx
  induction us with
  | nil => rfl
  | cons u us ih =>
    simp only [List.map_cons, keyIdx, keyU, kEq, List.findIdx?_cons]
    by_cases e : (u.unit == n) = true
    · simp [e]
    · simp only [e]
      rw [if_neg (by simp), ih]
      simp
def UInv (us : List AUnit) (b : List Entry) : Prop := ∀ n, begins b n = (uidx us n).isSome ∧ (begins b n = false → ends? b n = none) ∧ ∀ k u, uidx us n = some k → us[k]? = some u → (u.state = 2 ↔ ends? b n = none)
theorem uidx_some {us : List AUnit} {n : Int} {k : Nat} (h : uidx us n = some k) : ∃ u, us[k]? = some u ∧ u.unit = n ∧ k < us.length := by
  unfold uidx at h
  rw [List.findIdx?_eq_some_iff_getElem] at h
  obtain ⟨h1, h2, _⟩ := h
  exact ⟨us[k], by simp [h1], by simpa using h2, h1⟩
theorem ends_none' {b : List Entry} {n : Int} : ends b n = -1 ↔ ends? b n = none := by
  unfold ends
  cases h : ends? b n with
  | none => simp
  | some e =>
    have := List.find?_some h
    simp only [pEnd, Bool.and_eq_true, Bool.or_eq_true, beq_iff_eq] at this
    simp only [reduceCtorEq, iff_false]
    omega
theorem isOpen_iff {b : List Entry} {n : Int} : isOpen b n = true ↔ begins b n = true ∧ ends? b n = none := by
  unfold isOpen
  rw [Bool.and_eq_true, beq_iff_eq, ends_none']
theorem UInv.nil : UInv [] [] := fun n => ⟨rfl, fun _ => rfl, fun k u h => by cases h⟩
theorem UInv.isOpen {us : List AUnit} {b : List Entry} (h : UInv us b) (n : Int) : isOpen b n = match uidx us n with | some k => decide ((us.getD k ⟨0, 0, 0, 0⟩).state = 2) | none => false := by
  obtain ⟨h1, h2, h3⟩ := h n
  rw [Bool.eq_iff_iff, isOpen_iff, h1]
  cases hu : uidx us n with
  | none => simp
  | some k =>
    obtain ⟨u, hk, _, hl⟩ := uidx_some hu
    simp [← h3 k u hu hk, List.getD, hk]
theorem UInv.begins {us : List AUnit} {b : List Entry} (h : UInv us b) (n : Int) : begins b n = (uidx us n).isSome := (h n).1
theorem begins_snoc (b : List Entry) (e : Entry) (n : Int) : begins (b ++ [e]) n = (begins b n || pBegin n e) := by simp [Go.Ev.begins]
theorem ends_snoc (b : List Entry) (e : Entry) (n : Int) : ends? (b ++ [e]) n = none ↔ ends? b n = none ∧ pEnd n e = false := by
  simp [ends?, List.find?_append, List.find?_cons]
  cases pEnd n e <;> simp
theorem uidx_modify (us : List AUnit) (k : Nat) (e : Entry) (n : Int) : uidx (us.modify k (uEnd e)) n = uidx us n := by
  unfold uidx
  induction us generalizing k with
  | nil => simp
  | cons u us ih =>
    cases k with
    | zero => simp [List.findIdx?_cons, uEnd]
    | succ k => simp only [List.modify_succ_cons, List.findIdx?_cons]; rw [ih]
theorem UInv.step {us : List AUnit} {b : List Entry} {e : Entry} (h : UInv us b) (h0 : stateErr b e = 0) : UInv (uStep us e) (b ++ [e]) := by
  intro n
  obtain ⟨h1, h2, h3⟩ := h n
  rw [begins_snoc, ends_snoc]
  unfold stateErr at h0
  unfold uStep
  by_cases k1 : e.kind = 1
  · rw [if_pos k1] at h0 ⊢
    have hb : Go.Ev.begins b e.unit = false := by
      split at h0
      · cases h0
      · split at h0
        · cases h0
        · simpa using ‹¬Go.Ev.begins b e.unit = true›
    have hu : uidx us e.unit = none := by
      have := (h e.unit).1
      rw [hb] at this
      cases hx : uidx us e.unit with
      | none => rfl
      | some _ => rw [hx] at this; cases this
    have hp : pEnd n e = false := by simp [pEnd, k1]
    have ha : uidx (us ++ [⟨e.unit, e.number, e.number, 2⟩]) n = (uidx us n <|> if e.unit = n then some us.length else none) := by
      unfold uidx
      rw [List.findIdx?_append]
      by_cases en : e.unit = n
      · simp [en, List.findIdx?_cons]
      · simp [en, List.findIdx?_cons]
    rw [ha]
    by_cases en : e.unit = n
    · subst en
      rw [hu]
      simp only [hb, pBegin, k1, hp, if_pos, Option.isSome_some, Bool.false_or, beq_self_eq_true, Bool.and_self, true_and, and_true]
      refine ⟨rfl, fun hf => by simp at hf, fun k u hk hu2 => ?_⟩
      rw [show (none <|> some us.length : Option Nat) = some us.length from rfl] at hk
      cases hk
      rw [List.getElem?_append_right (Nat.le_refl _)] at hu2
      simp at hu2
      subst hu2
      simp [h2 (by rw [hb])] <;> first | exact (h e.unit).2.1 hb | skip
    · simp only [en, if_false, pBegin, hp]
      rw [show (uidx us n <|> none) = uidx us n by cases uidx us n <;> rfl]
      have en2 : (e.unit == n) = false := by simpa using en
      simp only [en2, Bool.and_false, Bool.or_false, and_true]
      refine ⟨h1, h2, fun k u hk hu2 => ?_⟩
      obtain ⟨_, _, _, hl⟩ := uidx_some hk
      rw [List.getElem?_append_left hl] at hu2
      exact h3 k u hk hu2
  · rw [if_neg k1] at h0 ⊢
    have hpb : pBegin n e = false := by simp [pBegin, k1]
    rw [hpb, Bool.or_false]
    by_cases k2 : e.kind = 2 ∨ e.kind = 3 ∨ (e.kind = 0 ∧ e.unit ≠ 0)
    · rw [if_pos k2]
      have ho : Go.Ev.isOpen b e.unit = true := by
        rcases k2 with k2 | k2 | k2
        · rw [if_pos (.inl k2)] at h0; split at h0; assumption; cases h0
        · rw [if_pos (.inr k2)] at h0; split at h0; assumption; cases h0
        · rw [if_neg (by omega), if_pos k2.1] at h0
          split at h0
          · cases h0
          · rename_i hh; cases hx : Go.Ev.isOpen b e.unit with
            | true => rfl
            | false => exact absurd ⟨k2.2, hx⟩ hh
      rw [isOpen_iff] at ho
      obtain ⟨g1, g2, g3⟩ := h e.unit
      rw [ho.1] at g1
      obtain ⟨k, hk⟩ := Option.isSome_iff_exists.1 g1.symm
      simp only [hk]
      rw [uidx_modify]
      refine ⟨h1, fun hb => ⟨h2 hb, ?_⟩, fun k' u hk' hu => ?_⟩
      · by_cases en : e.unit = n
        · subst en; rw [ho.1] at hb; cases hb
        · have en2 : (e.unit == n) = false := by simpa using en
          simp [pEnd, en2]
      · rw [List.getElem?_modify] at hu
        by_cases en : e.unit = n
        · subst en
          rw [hk] at hk'; cases hk'
          obtain ⟨v, hv, _, _⟩ := uidx_some hk
          rw [hv] at hu
          simp at hu
          subst hu
          have := g3 k v hk hv
          simp only [uEnd, pEnd]
          rcases k2 with k2 | k2 | k2
          · simp [k2]
          · simp [k2]
          · simp [k2.1, this]
        · have en2 : (e.unit == n) = false := by simpa using en
          have hne : k ≠ k' := by
            intro he; subst he
            obtain ⟨v, hv, q1, _⟩ := uidx_some hk
            obtain ⟨v', hv', q2, _⟩ := uidx_some hk'
            rw [hv] at hv'; cases hv'; exact en (q1.symm.trans q2)
          have := h3 k' u hk' (by simpa [hne] using hu)
          rw [this]
          simp [pEnd, en2]
    · rw [if_neg k2]
      have hp : pEnd n e = false := by
        simp only [not_or] at k2
        simp [pEnd, k2.1, k2.2.1]
      rw [hp]
      simp only [and_true]
      exact ⟨h1, h2, h3⟩
theorem uStep_same {us : List AUnit} {e : Entry} (h1 : ¬e.kind = 1) (h2 : ¬(e.kind = 2 ∨ e.kind = 3 ∨ (e.kind = 0 ∧ e.unit ≠ 0))) : uStep us e = us := by
  rw [uStep, if_neg h1, if_neg h2]
theorem uStep_new {us : List AUnit} {e : Entry} (h1 : e.kind = 1) : uStep us e = us ++ [⟨e.unit, e.number, e.number, 2⟩] := by rw [uStep, if_pos h1]
theorem uStep_upd {us : List AUnit} {e : Entry} {k : Nat} {u : AUnit} (h1 : ¬e.kind = 1) (h2 : e.kind = 2 ∨ e.kind = 3 ∨ (e.kind = 0 ∧ e.unit ≠ 0)) (h3 : uidx us e.unit = some k) (h4 : us[k]? = some u) : uStep us e = us.set k (uEnd e u) := by
  rw [uStep, if_neg h1, if_pos h2, h3]
  simp only
  apply List.ext_getElem?
  intro j
  rw [List.getElem?_modify, List.getElem?_set]
  have hk := (List.getElem?_eq_some_iff.1 h4).1
  by_cases e : k = j
  · subst e
    have : us[k] = u := by rw [List.getElem?_eq_getElem hk] at h4; exact Option.some.inj h4
    simp [hk, this]
  · simp [e]
section
variable {C : Cfg} {M T t : Nat} {sl sl' : List (Nat × V)} {hp : List (Nat × HS)} {us us' : List AUnit}
theorem subU_same (hM : M < 1000000) (hp0 : C.pins = []) (hmap : aget hp M = some (.live (.mp T (us.map keyU) (ptrs us.length)))) (hf : ∀ j, aget hp (fnm j) = aget (fam t (us.map cellsU)) (fnm j))
    (hs : ∀ (ρ : Nat → Option Nat) (nf : Nat → Prop), ρ M = some M → nf M → slSub ρ nf sl sl') (hu : us' = us) :
    Sub C (mkS sl hp) (mkS sl' ((M, .live (.mp T (us'.map keyU) (ptrs (us'.map cellsU).length))) :: fam t (us'.map cellsU))) := by
  subst hu
  exact sub_fam hM hp0 fnm (by rw [hmap, List.length_map]; rfl) (fun k c hc => by rw [hf, aget_fam, hc]; rfl) (fun k k' _ _ h => by rwa [fnm_inj] at h) (fun k _ h => by rwa [fnm_lit hM] at h) hs
theorem subU_new (hM : M < 1000000) (hp0 : C.pins = []) {b : Nat} {u : AUnit} (hb : b < 1000000) (hbM : b ≠ M) (hmap : aget hp M = some (.live (.mp T (us.map keyU ++ [.i .i64 u.unit]) (ptrs us.length ++ [.ptr b 0]))))
    (hbox : aget hp b = some (.live (.box t [.d (.i .i64 u.unit), .d (.i .i64 u.first), .d (.i .i64 u.last), .d (.i .i64 u.state)])))
    (hf : ∀ j, aget hp (fnm j) = aget (fam t (us.map cellsU)) (fnm j))
    (hs : ∀ (ρ : Nat → Option Nat) (nf : Nat → Prop), ρ M = some M → nf M → slSub ρ nf sl sl') (hu : us' = us ++ [u]) :
    Sub C (mkS sl hp) (mkS sl' ((M, .live (.mp T (us'.map keyU) (ptrs (us'.map cellsU).length))) :: fam t (us'.map cellsU))) := by
  subst hu
  have hl : ((us ++ [u]).map cellsU).length = us.length + 1 := by simp
  refine sub_fam hM hp0 (fun k => if k = us.length then b else fnm k) ?_ (fun k c hc => ?_) (fun k k' _ _ h => ?_) (fun k _ h => ?_) hs
  · rw [hmap, hl, List.range_succ, List.map_append, List.map_append, ptrs]
    simp only [List.map_cons, List.map_nil, if_true, keyU]
    congr 3
    congr 1
    refine List.map_congr_left fun k hk => ?_
    rw [if_neg (by have := List.mem_range.1 hk; omega)]
  · (try dsimp only)
    by_cases e : k = us.length
    · subst e
      rw [if_pos rfl, hbox]
      rw [List.getElem?_map, List.getElem?_append_right (Nat.le_refl _)] at hc
      simp at hc
      subst hc
      rfl
    · have hk := (List.getElem?_eq_some_iff.1 hc).1
      rw [if_neg e, hf, aget_fam]
      rw [hl] at hk
      rw [List.getElem?_map, List.getElem?_append_left (by omega), ← List.getElem?_map] at hc
      rw [hc]; rfl
  · (try dsimp only at h)
    split at h <;> split at h
    · omega
    · rw [lit_fnm hb] at h; exact h.elim
    · rw [fnm_lit hb] at h; exact h.elim
    · rwa [fnm_inj] at h
  · (try dsimp only at h)
    split at h
    · exact hbM h
    · rwa [fnm_lit hM] at h
theorem subU_upd (hM : M < 1000000) (hp0 : C.pins = []) {k : Nat} {u u' : AUnit} (hk : us[k]? = some u) (hmap : aget hp M = some (.live (.mp T (us.map keyU) (ptrs us.length))))
    (hbox : aget hp (fnm k) = some (.live (.box t [.d (.i .i64 u'.unit), .d (.i .i64 u'.first), .d (.i .i64 u'.last), .d (.i .i64 u'.state)]))) (hku : u'.unit = u.unit)
    (hf : ∀ j, j ≠ k → aget hp (fnm j) = aget (fam t (us.map cellsU)) (fnm j))
    (hs : ∀ (ρ : Nat → Option Nat) (nf : Nat → Prop), ρ M = some M → nf M → slSub ρ nf sl sl') (hu : us' = us.set k u') :
    Sub C (mkS sl hp) (mkS sl' ((M, .live (.mp T (us'.map keyU) (ptrs (us'.map cellsU).length))) :: fam t (us'.map cellsU))) := by
  subst hu
  have hlt := (List.getElem?_eq_some_iff.1 hk).1
  have hkeys : (us.set k u').map keyU = us.map keyU := by
    apply List.ext_getElem?
    intro j
    rw [List.getElem?_map, List.getElem?_map, List.getElem?_set]
    by_cases e : k = j
    · subst e; simp [hlt]
      have : us[k] = u := by rw [List.getElem?_eq_getElem hlt] at hk; exact Option.some.inj hk
      rw [this]; simp [keyU, hku]
    · simp [e]
  refine sub_fam hM hp0 fnm (by rw [hmap, hkeys, List.length_map, List.length_set]; rfl) (fun j c hc => ?_) (fun k k' _ _ h => by rwa [fnm_inj] at h) (fun k _ h => by rwa [fnm_lit hM] at h) hs
  · (try dsimp only)
    rw [List.getElem?_map, List.getElem?_set] at hc
    by_cases e : k = j
    · subst e
      simp [hlt] at hc
      subst hc
      rw [hbox]; rfl
    · rw [if_neg e] at hc
      rw [hf j (fun h => e h.symm), aget_fam, List.getElem?_map, hc]; rfl
theorem fam_box {k : Nat} {u : AUnit} (h : us[k]? = some u) : aget (fam t (us.map cellsU)) (fnm k) = some (.live (.box t [.d (.i .i64 u.unit), .d (.i .i64 u.first), .d (.i .i64 u.last), .d (.i .i64 u.state)])) := by
  rw [aget_fam, List.getElem?_map, h]; rfl
theorem toDs_U {sl : List (Nat × V)} {h : HS} (hM : M < 1000000) : toDs (toD2 (mkS sl ((M, h) :: fam t (us.map cellsU)))) (ptrs us.length) = some (us.map fun u => .cp (cellsU u), (List.range us.length).map fnm) := by
  have := toDs_fam (s := mkS sl ((M, h) :: fam t (us.map cellsU))) (t := t) (cs := us.map cellsU) (fun k c hc => by
    show (aget _ _).getD HS.free = _
    simp only [aget]
    simp only [fnm_lit hM, if_false]
    rw [aget_fam, hc]; rfl)
  rw [List.length_map] at this
  rw [this, List.map_map]
  rfl
end
def cycles (l : List Entry) : List AUnit := if (check l).2 = 0 then unitsOf l else []
theorem UInv.next {l : List Entry} {i : Nat} (h : UInv (unitsOf (l.take i)) (l.take i)) (hi : i < l.length) (h0 : stateErr (l.take i) (l.getD i zEntry) = 0) : UInv (unitsOf (l.take (i + 1))) (l.take (i + 1)) := by
  rw [unitsOf_take hi, take_getD zEntry hi]
  exact h.step h0
theorem cycles_err {l : List Entry} (h : (check l).2 ≠ 0) : cycles l = [] := by rw [cycles, if_neg h]
theorem cycles_ok {l : List Entry} (h : (check l).2 = 0) : cycles l = unitsOf l := by rw [cycles, if_pos h]
theorem check_large {l : List Entry} (h : 80 < l.length) : check l = (0, 2) := by rw [check, if_pos h]
theorem check_of {l : List Entry} (h : l.length ≤ 80) : checkFrom l (l.length - 0) 0 = check l := by rw [check, if_neg (by omega)]; rfl
section
variable {l : List Entry} {i : Nat}
theorem check_bad1 (h : checkFrom l (l.length - i) i = check l) (hi : i < l.length) (h1 : ¬entryErr (l.getD i zEntry) = 0) : check l = ((i : Int), entryErr (l.getD i zEntry)) := by
  rw [← h, checkFrom_lt hi, if_pos h1]
theorem check_bad2 (h : checkFrom l (l.length - i) i = check l) (hi : i < l.length) (h1 : entryErr (l.getD i zEntry) = 0) (h2 : 0 < (i : Int) ∧ ¬(l.getD i zEntry).number = IntKind.i64.wrap ((l.getD ((i : Int) - 1).toNat zEntry).number + 1)) : check l = ((i : Int), 14) := by
  rw [← h, checkFrom_lt hi, if_neg (fun e => e h1), if_pos ⟨by omega, h2.2⟩]
theorem check_state (h : checkFrom l (l.length - i) i = check l) (hi : i < l.length) (h1 : entryErr (l.getD i zEntry) = 0) (h2 : (i : Int) ≤ 0 ∨ (l.getD i zEntry).number = IntKind.i64.wrap ((l.getD ((i : Int) - 1).toNat zEntry).number + 1)) {s : Int} (h3 : stateErr (l.take i) (l.getD i zEntry) = s) :
    if s = 0 then checkFrom l (l.length - (i + 1)) (i + 1) = check l else check l = ((i : Int), s) := by
  rw [checkFrom_lt hi, if_neg (fun e => e h1), if_neg (by omega)] at h
  subst h3
  split
  · rename_i e
    rwa [if_neg (fun e' => e' e)] at h
  · rename_i e
    rw [if_pos e] at h
    exact h.symm
def stU (us : List AUnit) (e : Entry) : Int :=
  if e.kind = 1 then match uidx us e.unit with
    | some k => if (us.getD k ⟨0, 0, 0, 0⟩).state = 2 then 26 else 13
    | none => 0
  else if e.kind = 2 ∨ e.kind = 3 ∨ (e.kind = 0 ∧ e.unit ≠ 0) then match uidx us e.unit with
    | some k => if (us.getD k ⟨0, 0, 0, 0⟩).state = 2 then 0 else 26
    | none => 26
  else 0
theorem UInv.st {us : List AUnit} {b : List Entry} (h : UInv us b) (e : Entry) : stateErr b e = stU us e := by
  unfold stateErr stU
  rw [h.isOpen, h.begins]
  by_cases k1 : e.kind = 1
  · simp only [k1, if_true]
    cases uidx us e.unit <;> simp
  · simp only [k1, if_false]
    by_cases k2 : e.kind = 2 ∨ e.kind = 3
    · rw [if_pos k2, if_pos (show e.kind = 2 ∨ e.kind = 3 ∨ e.kind = 0 ∧ e.unit ≠ 0 by omega)]
      cases uidx us e.unit <;> simp
    · rw [if_neg k2]
      by_cases k0 : e.kind = 0
      · rw [if_pos k0]
        by_cases u0 : e.unit = 0
        · rw [if_neg (by rintro ⟨h, _⟩; exact h u0), if_neg (show ¬(e.kind = 2 ∨ e.kind = 3 ∨ e.kind = 0 ∧ e.unit ≠ 0) by omega)]
        · rw [if_pos (show e.kind = 2 ∨ e.kind = 3 ∨ e.kind = 0 ∧ e.unit ≠ 0 by omega)]
          cases uidx us e.unit <;> simp [u0]
      · rw [if_neg k0, if_neg (show ¬(e.kind = 2 ∨ e.kind = 3 ∨ e.kind = 0 ∧ e.unit ≠ 0) by omega)]
theorem stU_none {us : List AUnit} {e : Entry} (h : uidx us e.unit = none) : stU us e = if e.kind = 1 then 0 else if e.kind = 2 ∨ e.kind = 3 ∨ (e.kind = 0 ∧ e.unit ≠ 0) then 26 else 0 := by
  unfold stU; rw [h]
theorem stU_some {us : List AUnit} {e : Entry} {k : Nat} {u : AUnit} (h : uidx us e.unit = some k) (hu : us[k]? = some u) : stU us e = if e.kind = 1 then (if u.state = 2 then 26 else 13) else if e.kind = 2 ∨ e.kind = 3 ∨ (e.kind = 0 ∧ e.unit ≠ 0) then (if u.state = 2 then 0 else 26) else 0 := by
  unfold stU; rw [h]; simp [List.getD, hu]
end
end Go.Ev

namespace Go.Ev
def chk (l : List Entry) (j : Nat) : Prop := entryErr (l.getD j zEntry) = 0 ∧ ¬(0 < j ∧ (l.getD j zEntry).number ≠ IntKind.i64.wrap ((l.getD ((j : Int) - 1).toNat zEntry).number + 1)) ∧ stateErr (l.take j) (l.getD j zEntry) = 0
theorem checkFrom_all {l : List Entry} : ∀ (n i : Nat), (checkFrom l n i).2 = 0 → ∀ j, i ≤ j → j < i + n → chk l j
  | 0, i, _, j, h1, h2 => by omega
  | n + 1, i, h, j, h1, h2 => by
    unfold checkFrom at h
    split at h
    · exact absurd h ‹_›
    split at h
    · exact absurd h (show ¬((14 : Int) = 0) by decide)
    split at h
    · exact absurd h ‹_›
    by_cases e : j = i
    · subst e
      refine ⟨by omega, ‹_›, by omega⟩
    · exact checkFrom_all n (i + 1) h j (by omega) (by omega)
theorem check_all {l : List Entry} (h : (check l).2 = 0) {j : Nat} (hj : j < l.length) : chk l j := by
  unfold check at h
  split at h
  · cases h
  · exact checkFrom_all _ 0 h j (by omega) (by omega)
end Go.Ev

namespace Go.Ev
def staOf (k : Int) : Int := if k = 2 then 0 else if k = 3 then 1 else 2
def lastN (u : Int) : List Entry → Int → Int
  | [], n => n
  | e :: r, n => lastN u r (if e.unit = u then e.number else n)
theorem lastN_snoc (u : Int) : ∀ (l : List Entry) (e : Entry) (n : Int), lastN u (l ++ [e]) n = if e.unit = u then e.number else lastN u l n
  | [], e, n => rfl
  | a :: l, e, n => lastN_snoc u l e _
def refU (l : List Entry) (i : Nat) : AUnit := ⟨(l.getD i zEntry).unit, (l.getD i zEntry).number, lastN (l.getD i zEntry).unit (l.drop i) 0, staOf (ends l (l.getD i zEntry).unit)⟩
def refsTo (l : List Entry) : Nat → List AUnit
  | 0 => []
  | i + 1 => if (l.getD i zEntry).kind = 1 then refsTo l i ++ [refU l i] else refsTo l i
theorem getD_snoc_lt {l : List Entry} {e : Entry} {i : Nat} (h : i < l.length) : (l ++ [e]).getD i zEntry = l.getD i zEntry := by rw [getD_append_one, if_pos h]
theorem getD_snoc_eq {l : List Entry} {e : Entry} : (l ++ [e]).getD l.length zEntry = e := by rw [getD_append_one, if_neg (by omega), if_pos rfl]
theorem ends_snoc_eq (b : List Entry) (e : Entry) (n : Int) : ends (b ++ [e]) n = if ends? b n = none then (if pEnd n e = true then e.kind else -1) else ends b n := by
  unfold ends ends?
  rw [List.find?_append]
  cases h : List.find? (pEnd n) b with
  | none =>
    simp only [Option.none_or, if_true, List.find?_cons, List.find?_nil]
    cases pEnd n e <;> simp
  | some x => simp
theorem staOf_none {b : List Entry} {n : Int} (h : ends? b n = none) : staOf (ends b n) = 2 := by rw [ends_none'.2 h]; rfl
def updU (e : Entry) (u : AUnit) : AUnit := if e.unit = u.unit then uEnd e u else u
theorem refU_snoc {l : List Entry} {e : Entry} {i : Nat} (hi : i < l.length) (h : e.unit = (l.getD i zEntry).unit → ends? l e.unit = none ∧ (e.kind = 2 ∨ e.kind = 3 ∨ e.kind = 0)) : refU (l ++ [e]) i = updU e (refU l i) := by
  unfold refU updU
  rw [getD_snoc_lt hi]
  generalize hg : l.getD i zEntry = b at h ⊢
  by_cases hu : e.unit = b.unit
  · obtain ⟨h1, h2⟩ := h hu
    rw [if_pos hu]
    unfold uEnd
    rw [AUnit.mk.injEq]
    refine ⟨rfl, rfl, ?_, ?_⟩
    · rw [List.drop_append_of_le_length (by omega), lastN_snoc, if_pos hu]
    · rw [hu] at h1
      simp only
      rw [ends_snoc_eq, if_pos h1, staOf_none h1]
      unfold pEnd
      rcases h2 with h2 | h2 | h2 <;> simp [h2, hu, staOf]
  · rw [if_neg hu]
    rw [AUnit.mk.injEq]
    refine ⟨rfl, rfl, ?_, ?_⟩
    · rw [List.drop_append_of_le_length (by omega), lastN_snoc, if_neg hu]
    · rw [ends_snoc_eq]
      have hp : pEnd b.unit e = false := by simp [pEnd, hu]
      rw [hp]
      split
      · rename_i h1; rw [if_neg (by simp), ends_none'.2 h1]
      · rfl
theorem refsTo_snoc {l : List Entry} {e : Entry} (h : ∀ i, i < l.length → (l.getD i zEntry).kind = 1 → e.unit = (l.getD i zEntry).unit → ends? l e.unit = none ∧ (e.kind = 2 ∨ e.kind = 3 ∨ e.kind = 0)) :
    ∀ i, i ≤ l.length → refsTo (l ++ [e]) i = (refsTo l i).map (updU e)
  | 0, _ => rfl
  | i + 1, hi => by
    unfold refsTo
    rw [getD_snoc_lt (by omega)]
    split
    · rename_i hk
      rw [List.map_append, refsTo_snoc h i (by omega), refU_snoc (by omega) (h i (by omega) hk)]; rfl
    · exact refsTo_snoc h i (by omega)
structure PInv (b : List Entry) : Prop where
  u : UInv (unitsOf b) b
  nd : ((unitsOf b).map (·.unit)).Nodup
  eq : unitsOf b = refsTo b b.length
  f : (unitsOf b).map (·.first) = (b.filter fun e => e.kind == 1).map (·.number)
  un : ∀ u ∈ unitsOf b, 1 ≤ u.unit
theorem PInv.nil : PInv [] := ⟨UInv.nil, by simp [unitsOf], rfl, rfl, fun u hu => by cases hu⟩
theorem updU_unit (e : Entry) (u : AUnit) : (updU e u).unit = u.unit := by unfold updU uEnd; split <;> rfl
theorem updU_first (e : Entry) (u : AUnit) : (updU e u).first = u.first := by unfold updU uEnd; split <;> rfl
theorem modify_map {us : List AUnit} {e : Entry} {k : Nat} (hn : (us.map (·.unit)).Nodup) (hk : uidx us e.unit = some k) : us.modify k (uEnd e) = us.map (updU e) := by
  obtain ⟨u, h1, h2, h3⟩ := uidx_some hk
  apply List.ext_getElem?
  intro j
  rw [List.getElem?_modify, List.getElem?_map]
  cases hj : us[j]? with
  | none => rfl
  | some v =>
    have hjl := (List.getElem?_eq_some_iff.1 hj).1
    simp only [Option.map_some, Option.map_eq_map]
    by_cases e1 : k = j
    · subst e1
      rw [h1] at hj; cases hj
      rw [if_pos rfl]
      unfold updU; rw [if_pos h2.symm]
    · rw [if_neg e1]
      unfold updU
      rw [if_neg (fun e2 => e1 ?_)]
      have ha : (us.map (·.unit))[k]? = some e.unit := by rw [List.getElem?_map, h1]; simp [h2]
      have hb : (us.map (·.unit))[j]? = some e.unit := by rw [List.getElem?_map, hj]; simp [e2]
      obtain ⟨ka, ea⟩ := List.getElem?_eq_some_iff.1 ha
      obtain ⟨kb, eb⟩ := List.getElem?_eq_some_iff.1 hb
      rcases Nat.lt_trichotomy k j with hh | hh | hh
      · exact absurd (ea.trans eb.symm) (List.pairwise_iff_getElem.1 hn k j ka kb hh)
      · exact hh
      · exact absurd (eb.trans ea.symm) (List.pairwise_iff_getElem.1 hn j k kb ka hh)
theorem mem_refs {l : List Entry} : ∀ {i : Nat} {j : Nat}, j < i → (l.getD j zEntry).kind = 1 → refU l j ∈ refsTo l i
  | 0, j, h, _ => by omega
  | i + 1, j, h, hk => by
    unfold refsTo
    by_cases e : j = i
    · subst e; rw [if_pos hk]; simp
    · have := mem_refs (l := l) (i := i) (j := j) (by omega) hk
      split
      · exact List.mem_append_left _ this
      · exact this
theorem entry_unit {e : Entry} (h : entryErr e = 0) : (e.kind = 1 ∨ e.kind = 2 ∨ e.kind = 3 → 1 ≤ e.unit) ∧ (e.kind ≠ 0 → e.kind ≠ 1 → e.kind ≠ 2 → e.kind ≠ 3 → e.unit = 0) ∧ (e.kind = 0 → 0 ≤ e.unit) := by
  unfold entryErr at h
  split at h
  · cases h
  split at h
  · cases h
  split at h
  · cases h
  split at h
  · cases h
  split at h
  · cases h
  rename_i h1 h2 h3 h4 h5
  rw [Decidable.not_not] at h5
  refine ⟨fun hk => by omega, fun k0 k1 k2 k3 => ?_, fun hk => by omega⟩
  unfold formUsed at h5
  rw [if_neg k0, if_neg (by omega)] at h5
  split at h5
  · rw [← h5]
  · rw [← h5]
theorem PInv.step {b : List Entry} {e : Entry} (h : PInv b) (h1 : entryErr e = 0) (h2 : stateErr b e = 0) : PInv (b ++ [e]) := by
  have hu := h.u.step h2
  rw [← unitsOf_snoc] at hu
  obtain ⟨q1, q2, q3⟩ := entry_unit h1
  have hlen : (b ++ [e]).length = b.length + 1 := by simp
  have hidx : ∀ i, i < b.length → (b.getD i zEntry).kind = 1 → (uidx (unitsOf b) (b.getD i zEntry).unit).isSome = true := fun i hi hk => by
    rw [← h.u.begins]
    exact begins_yes hi hk rfl
  have hsm : ∀ i, i < b.length → (b.getD i zEntry).kind = 1 → 1 ≤ (b.getD i zEntry).unit := fun i hi hk => by
    have := h.un (refU b i) (by rw [h.eq]; exact mem_refs hi hk)
    exact this
  have hno : e.kind = 1 → begins b e.unit = false := fun k1 => by
    unfold stateErr at h2
    rw [if_pos k1] at h2
    split at h2
    · cases h2
    split at h2
    · cases h2
    · simpa using ‹¬begins b e.unit = true›
  have hopen : (e.kind = 2 ∨ e.kind = 3 ∨ (e.kind = 0 ∧ e.unit ≠ 0)) → begins b e.unit = true ∧ ends? b e.unit = none := fun k2 => by
    rw [← isOpen_iff]
    unfold stateErr at h2
    rcases k2 with k2 | k2 | k2
    · rw [if_neg (by omega), if_pos (.inl k2)] at h2; split at h2; assumption; cases h2
    · rw [if_neg (by omega), if_pos (.inr k2)] at h2; split at h2; assumption; cases h2
    · rw [if_neg (by omega), if_neg (by omega), if_pos k2.1] at h2
      split at h2
      · cases h2
      · rename_i hh; cases hx : isOpen b e.unit with
        | true => rfl
        | false => exact absurd ⟨k2.2, hx⟩ hh
  have hcond : ∀ i, i < b.length → (b.getD i zEntry).kind = 1 → e.unit = (b.getD i zEntry).unit → ends? b e.unit = none ∧ (e.kind = 2 ∨ e.kind = 3 ∨ e.kind = 0) := fun i hi hk he => by
    have hb : begins b e.unit = true := begins_yes hi hk he.symm
    have h1u := hsm i hi hk
    by_cases k1 : e.kind = 1
    · rw [hno k1] at hb; cases hb
    by_cases k2 : e.kind = 2 ∨ e.kind = 3 ∨ (e.kind = 0 ∧ e.unit ≠ 0)
    · exact ⟨(hopen k2).2, by omega⟩
    · have := q2; omega
  have hrefs := refsTo_snoc hcond b.length (Nat.le_refl _)
  by_cases k1 : e.kind = 1
  · have hz : unitsOf (b ++ [e]) = unitsOf b ++ [⟨e.unit, e.number, e.number, 2⟩] := by rw [unitsOf_snoc, uStep_new k1]
    have hb := hno k1
    have hen : ends? b e.unit = none := (h.u e.unit).2.1 hb
    have hin : ∀ u ∈ unitsOf b, e.unit ≠ u.unit := fun u hm he => by
      have : uidx (unitsOf b) e.unit = none := by
        have := (h.u e.unit).1
        rw [hb] at this
        cases hx : uidx (unitsOf b) e.unit with
        | none => rfl
        | some _ => rw [hx] at this; cases this
      unfold uidx at this
      rw [List.findIdx?_eq_none_iff] at this
      have := this u hm
      simp at this
      exact this he.symm
    refine ⟨hu, ?_, ?_, ?_, ?_⟩
    · rw [hz, List.map_append, List.nodup_append]
      refine ⟨h.nd, by simp, fun x hx y hy => ?_⟩
      simp at hy
      obtain ⟨u, hm, rfl⟩ := List.mem_map.1 hx
      rw [hy]
      exact fun he => hin u hm he.symm
    · rw [hlen]
      unfold refsTo
      rw [getD_snoc_eq, if_pos k1, hrefs, ← h.eq, hz]
      congr 1
      · have : (unitsOf b).map (updU e) = (unitsOf b).map id := List.map_congr_left fun u hm => by unfold updU; rw [if_neg (hin u hm)]; rfl
        rw [this, List.map_id]
      · unfold refU
        rw [getD_snoc_eq]
        congr 1
        rw [AUnit.mk.injEq]
        refine ⟨rfl, rfl, ?_, ?_⟩
        · rw [List.drop_append_of_le_length (Nat.le_refl _), List.drop_length, List.nil_append]; simp [lastN]
        · rw [ends_snoc_eq, if_pos hen]
          have : pEnd e.unit e = false := by simp [pEnd, k1]
          rw [this]; rfl
    · rw [hz, List.map_append, h.f, List.filter_append, List.map_append]
      simp [k1]
    · rw [hz]
      intro u hm
      rw [List.mem_append, List.mem_singleton] at hm
      rcases hm with hm | rfl
      · exact h.un u hm
      · exact q1 (.inl k1)
  · have hf : ((b ++ [e]).filter fun e => e.kind == 1) = b.filter fun e => e.kind == 1 := by rw [List.filter_append]; simp [k1]
    have hz : unitsOf (b ++ [e]) = (unitsOf b).map (updU e) := by
      rw [unitsOf_snoc]
      by_cases k2 : e.kind = 2 ∨ e.kind = 3 ∨ (e.kind = 0 ∧ e.unit ≠ 0)
      · unfold uStep
        rw [if_neg k1, if_pos k2]
        have := (h.u e.unit).1
        rw [(hopen k2).1] at this
        obtain ⟨k, hk⟩ := Option.isSome_iff_exists.1 this.symm
        rw [hk]
        exact modify_map h.nd hk
      · rw [uStep_same k1 k2]
        have : (unitsOf b).map (updU e) = (unitsOf b).map id := List.map_congr_left fun u hm => by
          unfold updU
          have := h.un u hm
          rw [if_neg (by omega)]; rfl
        rw [this, List.map_id]
    refine ⟨hu, ?_, ?_, ?_, ?_⟩
    · rw [hz, List.map_map]
      have : (unitsOf b).map ((·.unit) ∘ updU e) = (unitsOf b).map (·.unit) := List.map_congr_left fun u _ => updU_unit e u
      rw [this]; exact h.nd
    · rw [hlen]
      unfold refsTo
      rw [getD_snoc_eq, if_neg k1, hrefs, ← h.eq, hz]
    · rw [hz, List.map_map, hf, ← h.f]
      exact List.map_congr_left fun u _ => updU_first e u
    · rw [hz]
      intro u hm
      obtain ⟨v, hv, rfl⟩ := List.mem_map.1 hm
      rw [updU_unit]; exact h.un v hv
theorem PInv.take {l : List Entry} (h : ∀ j, j < l.length → chk l j) : ∀ k, k ≤ l.length → PInv (l.take k)
  | 0, _ => PInv.nil
  | k + 1, hk => by
    rw [take_getD zEntry (by omega)]
    exact (PInv.take h k (by omega)).step (h k (by omega)).1 (h k (by omega)).2.2
theorem right_PInv {l : List Entry} (h : (check l).2 = 0) : PInv l := by
  have := PInv.take (fun j hj => check_all h hj) l.length (Nat.le_refl _)
  rwa [List.take_length] at this
end Go.Ev
