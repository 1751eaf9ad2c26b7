/- Tools and contracts under the laws of this seat: DevTy35z, DevDec, DevData, DevPure, DevGood, DevFam, DevCyc, DevChk, DevU35. -/
import Derived.Test.YtkgkgcojfocomaaGreatE02
import Derived.Test.YtkgkgcojfocomaaGreatProg
import Derived.KernelRfl
import Derived.Laws.Strings
import Derived.WideShapes
set_option linter.unusedVariables false
set_option linter.unusedSimpArgs false
namespace Go.Ev.Ty
open Go.Proofs
theorem sz3 : qbw Tryz.prog 3 = some 1 := by kernel_rfl
theorem ag3 : aggT Tryz.prog 3 = some false := by kernel_rfl
theorem zr3 : qck Tryz.prog 3 = some [.i .i64 0] := by kernel_rfl
theorem zo3 : qfe Tryz.prog 3 = some (.i .i64 0) := by kernel_rfl
theorem zd3 : zD Tryz.prog 3 = .i .i64 0 := by kernel_rfl
theorem by3 : qde Tryz.prog 3 = some 8 := by kernel_rfl
theorem sl3 : qbk Tryz.prog 3 = false := by kernel_rfl
theorem st3 : qdi Tryz.prog 3 = false := by kernel_rfl
theorem bo3 : qcx Tryz.prog 3 = false := by kernel_rfl
theorem pt3 : qdj Tryz.prog 3 = false := by kernel_rfl
theorem ck3 : ckT Tryz.prog 3 = .int .i64 := by kernel_rfl
theorem sz4 : qbw Tryz.prog 4 = some 1 := by kernel_rfl
theorem ag4 : aggT Tryz.prog 4 = some false := by kernel_rfl
theorem zr4 : qck Tryz.prog 4 = some [.b false] := by kernel_rfl
theorem zo4 : qfe Tryz.prog 4 = some (.b false) := by kernel_rfl
theorem zd4 : zD Tryz.prog 4 = .b false := by kernel_rfl
theorem by4 : qde Tryz.prog 4 = some 1 := by kernel_rfl
theorem sl4 : qbk Tryz.prog 4 = false := by kernel_rfl
theorem st4 : qdi Tryz.prog 4 = false := by kernel_rfl
theorem bo4 : qcx Tryz.prog 4 = true := by kernel_rfl
theorem pt4 : qdj Tryz.prog 4 = false := by kernel_rfl
theorem sz5 : qbw Tryz.prog 5 = some 1 := by kernel_rfl
theorem ag5 : aggT Tryz.prog 5 = some false := by kernel_rfl
theorem zr5 : qck Tryz.prog 5 = some [.i .u8 0] := by kernel_rfl
theorem zo5 : qfe Tryz.prog 5 = some (.i .u8 0) := by kernel_rfl
theorem zd5 : zD Tryz.prog 5 = .i .u8 0 := by kernel_rfl
theorem by5 : qde Tryz.prog 5 = some 1 := by kernel_rfl
theorem sl5 : qbk Tryz.prog 5 = false := by kernel_rfl
theorem st5 : qdi Tryz.prog 5 = false := by kernel_rfl
theorem bo5 : qcx Tryz.prog 5 = false := by kernel_rfl
theorem pt5 : qdj Tryz.prog 5 = false := by kernel_rfl
theorem ck5 : ckT Tryz.prog 5 = .int .u8 := by kernel_rfl
theorem sz9 : qbw Tryz.prog 9 = some 1 := by kernel_rfl
theorem ag9 : aggT Tryz.prog 9 = some false := by kernel_rfl
theorem zr9 : qck Tryz.prog 9 = some [.s ⟨#[]⟩] := by kernel_rfl
theorem zo9 : qfe Tryz.prog 9 = some (.s ⟨#[]⟩) := by kernel_rfl
theorem zd9 : zD Tryz.prog 9 = .s ⟨#[]⟩ := by kernel_rfl
theorem by9 : qde Tryz.prog 9 = some 16 := by kernel_rfl
theorem sl9 : qbk Tryz.prog 9 = false := by kernel_rfl
theorem un9 : Tryz.prog.underlying 9 = some .string := by kernel_rfl
theorem st9 : qdi Tryz.prog 9 = true := by kernel_rfl
theorem bo9 : qcx Tryz.prog 9 = false := by kernel_rfl
theorem pt9 : qdj Tryz.prog 9 = false := by kernel_rfl
theorem ck9 : ckT Tryz.prog 9 = .str := by kernel_rfl
theorem sz22 : qbw Tryz.prog 22 = some 1 := by kernel_rfl
theorem ag22 : aggT Tryz.prog 22 = some false := by kernel_rfl
theorem zr22 : qck Tryz.prog 22 = some [.nil] := by kernel_rfl
theorem zo22 : qfe Tryz.prog 22 = some (.nil) := by kernel_rfl
theorem zd22 : zD Tryz.prog 22 = .nil := by kernel_rfl
theorem by22 : qde Tryz.prog 22 = some 24 := by kernel_rfl
theorem el22 : qfz Tryz.prog 22 = some 80 := by kernel_rfl
theorem sl22 : qbk Tryz.prog 22 = true := by kernel_rfl
theorem un22 : Tryz.prog.underlying 22 = some (.slice 80) := by kernel_rfl
theorem st22 : qdi Tryz.prog 22 = false := by kernel_rfl
theorem bo22 : qcx Tryz.prog 22 = false := by kernel_rfl
theorem pt22 : qdj Tryz.prog 22 = false := by kernel_rfl
theorem sz23 : qbw Tryz.prog 23 = some 1 := by kernel_rfl
theorem ag23 : aggT Tryz.prog 23 = some false := by kernel_rfl
theorem zr23 : qck Tryz.prog 23 = some [.nil] := by kernel_rfl
theorem zo23 : qfe Tryz.prog 23 = some (.nil) := by kernel_rfl
theorem zd23 : zD Tryz.prog 23 = .nil := by kernel_rfl
theorem by23 : qde Tryz.prog 23 = some 24 := by kernel_rfl
theorem el23 : qfz Tryz.prog 23 = some 50 := by kernel_rfl
theorem sl23 : qbk Tryz.prog 23 = true := by kernel_rfl
theorem un23 : Tryz.prog.underlying 23 = some (.slice 50) := by kernel_rfl
theorem st23 : qdi Tryz.prog 23 = false := by kernel_rfl
theorem bo23 : qcx Tryz.prog 23 = false := by kernel_rfl
theorem pt23 : qdj Tryz.prog 23 = false := by kernel_rfl
theorem sz26 : qbw Tryz.prog 26 = some 1 := by kernel_rfl
theorem ag26 : aggT Tryz.prog 26 = some false := by kernel_rfl
theorem zr26 : qck Tryz.prog 26 = some [.i .i64 0] := by kernel_rfl
theorem zo26 : qfe Tryz.prog 26 = some (.i .i64 0) := by kernel_rfl
theorem zd26 : zD Tryz.prog 26 = .i .i64 0 := by kernel_rfl
theorem by26 : qde Tryz.prog 26 = some 8 := by kernel_rfl
theorem sl26 : qbk Tryz.prog 26 = false := by kernel_rfl
theorem st26 : qdi Tryz.prog 26 = false := by kernel_rfl
theorem bo26 : qcx Tryz.prog 26 = false := by kernel_rfl
theorem pt26 : qdj Tryz.prog 26 = false := by kernel_rfl
theorem ck26 : ckT Tryz.prog 26 = .int .i64 := by kernel_rfl
theorem sz31 : qbw Tryz.prog 31 = some 1 := by kernel_rfl
theorem ag31 : aggT Tryz.prog 31 = some false := by kernel_rfl
theorem zr31 : qck Tryz.prog 31 = some [.nil] := by kernel_rfl
theorem zo31 : qfe Tryz.prog 31 = some (.nil) := by kernel_rfl
theorem zd31 : zD Tryz.prog 31 = .nil := by kernel_rfl
theorem by31 : qde Tryz.prog 31 = some 24 := by kernel_rfl
theorem el31 : qfz Tryz.prog 31 = some 3 := by kernel_rfl
theorem sl31 : qbk Tryz.prog 31 = true := by kernel_rfl
theorem un31 : Tryz.prog.underlying 31 = some (.slice 3) := by kernel_rfl
theorem st31 : qdi Tryz.prog 31 = false := by kernel_rfl
theorem bo31 : qcx Tryz.prog 31 = false := by kernel_rfl
theorem pt31 : qdj Tryz.prog 31 = false := by kernel_rfl
theorem sz33 : qbw Tryz.prog 33 = some 4 := by kernel_rfl
theorem ag33 : aggT Tryz.prog 33 = some true := by kernel_rfl
theorem zr33 : qck Tryz.prog 33 = some [.nil, .i .i64 0, .nil, .i .i64 0] := by kernel_rfl
theorem zd33 : zD Tryz.prog 33 = .agg [.nil, .i .i64 0, .nil, .i .i64 0] := by kernel_rfl
theorem by33 : qde Tryz.prog 33 = some 64 := by kernel_rfl
theorem sl33 : qbk Tryz.prog 33 = false := by kernel_rfl
theorem st33 : qdi Tryz.prog 33 = false := by kernel_rfl
theorem bo33 : qcx Tryz.prog 33 = false := by kernel_rfl
theorem pt33 : qdj Tryz.prog 33 = false := by kernel_rfl
theorem qbnv : offT Tryz.prog 33 0 = some (0, 1) := by kernel_rfl
theorem qbnw : qcz Tryz.prog 33 0 = some 22 := by kernel_rfl
theorem qbnx : offT Tryz.prog 33 1 = some (1, 1) := by kernel_rfl
theorem qbny : qcz Tryz.prog 33 1 = some 3 := by kernel_rfl
theorem qbnz : offT Tryz.prog 33 2 = some (2, 1) := by kernel_rfl
theorem qbn0 : qcz Tryz.prog 33 2 = some 31 := by kernel_rfl
theorem qbn1 : offT Tryz.prog 33 3 = some (3, 1) := by kernel_rfl
theorem qbn2 : qcz Tryz.prog 33 3 = some 3 := by kernel_rfl
theorem pl33 : qf8 Tryz.prog 33 = some [(0, 1), (1, 1), (2, 1), (3, 1)] := by kernel_rfl
theorem sz48 : qbw Tryz.prog 48 = some 5 := by kernel_rfl
theorem ag48 : aggT Tryz.prog 48 = some true := by kernel_rfl
theorem zr48 : qck Tryz.prog 48 = some [.s ⟨#[]⟩, .i .i64 0, .i .i64 0, .s ⟨#[]⟩, .s ⟨#[]⟩] := by kernel_rfl
theorem zd48 : zD Tryz.prog 48 = .agg [.s ⟨#[]⟩, .i .i64 0, .i .i64 0, .s ⟨#[]⟩, .s ⟨#[]⟩] := by kernel_rfl
theorem by48 : qde Tryz.prog 48 = some 64 := by kernel_rfl
theorem sl48 : qbk Tryz.prog 48 = false := by kernel_rfl
theorem st48 : qdi Tryz.prog 48 = false := by kernel_rfl
theorem bo48 : qcx Tryz.prog 48 = false := by kernel_rfl
theorem pt48 : qdj Tryz.prog 48 = false := by kernel_rfl
theorem qbn3 : offT Tryz.prog 48 0 = some (0, 1) := by kernel_rfl
theorem qbn4 : qcz Tryz.prog 48 0 = some 9 := by kernel_rfl
theorem qbn5 : offT Tryz.prog 48 1 = some (1, 1) := by kernel_rfl
theorem qbn6 : qcz Tryz.prog 48 1 = some 3 := by kernel_rfl
theorem qbn7 : offT Tryz.prog 48 2 = some (2, 1) := by kernel_rfl
theorem qbn8 : qcz Tryz.prog 48 2 = some 3 := by kernel_rfl
theorem qbn9 : offT Tryz.prog 48 3 = some (3, 1) := by kernel_rfl
theorem qboa : qcz Tryz.prog 48 3 = some 9 := by kernel_rfl
theorem qbob : offT Tryz.prog 48 4 = some (4, 1) := by kernel_rfl
theorem qboc : qcz Tryz.prog 48 4 = some 9 := by kernel_rfl
theorem pl48 : qf8 Tryz.prog 48 = some [(0, 1), (1, 1), (2, 1), (3, 1), (4, 1)] := by kernel_rfl
theorem ek48 : eqKs Tryz.prog 48 = some [.s, .i, .i, .s, .s] := by kernel_rfl
theorem sz50 : qbw Tryz.prog 50 = some 8 := by kernel_rfl
theorem ag50 : aggT Tryz.prog 50 = some true := by kernel_rfl
theorem zr50 : qck Tryz.prog 50 = some [.i .i64 0, .i .i64 0, .i .i64 0, .s ⟨#[]⟩, .i .i64 0, .i .i64 0, .s ⟨#[]⟩, .s ⟨#[]⟩] := by kernel_rfl
theorem zd50 : zD Tryz.prog 50 = .agg [.i .i64 0, .i .i64 0, .i .i64 0, .s ⟨#[]⟩, .i .i64 0, .i .i64 0, .s ⟨#[]⟩, .s ⟨#[]⟩] := by kernel_rfl
theorem by50 : qde Tryz.prog 50 = some 88 := by kernel_rfl
theorem sl50 : qbk Tryz.prog 50 = false := by kernel_rfl
theorem st50 : qdi Tryz.prog 50 = false := by kernel_rfl
theorem bo50 : qcx Tryz.prog 50 = false := by kernel_rfl
theorem pt50 : qdj Tryz.prog 50 = false := by kernel_rfl
theorem qbod : offT Tryz.prog 50 0 = some (0, 1) := by kernel_rfl
theorem qboe : qcz Tryz.prog 50 0 = some 3 := by kernel_rfl
theorem qbof : offT Tryz.prog 50 1 = some (1, 1) := by kernel_rfl
theorem qbog : qcz Tryz.prog 50 1 = some 3 := by kernel_rfl
theorem qboh : offT Tryz.prog 50 2 = some (2, 1) := by kernel_rfl
theorem qboi : qcz Tryz.prog 50 2 = some 3 := by kernel_rfl
theorem qboj : offT Tryz.prog 50 3 = some (3, 5) := by kernel_rfl
theorem qbok : qcz Tryz.prog 50 3 = some 48 := by kernel_rfl
theorem pl50 : qf8 Tryz.prog 50 = some [(0, 1), (1, 1), (2, 1), (3, 5)] := by kernel_rfl
theorem ek50 : eqKs Tryz.prog 50 = some [.i, .i, .i, .s, .i, .i, .s, .s] := by kernel_rfl
theorem sz53 : qbw Tryz.prog 53 = some 1 := by kernel_rfl
theorem ag53 : aggT Tryz.prog 53 = some false := by kernel_rfl
theorem zr53 : qck Tryz.prog 53 = some [.nil] := by kernel_rfl
theorem zo53 : qfe Tryz.prog 53 = some (.nil) := by kernel_rfl
theorem zd53 : zD Tryz.prog 53 = .nil := by kernel_rfl
theorem by53 : qde Tryz.prog 53 = some 24 := by kernel_rfl
theorem el53 : qfz Tryz.prog 53 = some 61 := by kernel_rfl
theorem sl53 : qbk Tryz.prog 53 = true := by kernel_rfl
theorem un53 : Tryz.prog.underlying 53 = some (.slice 61) := by kernel_rfl
theorem st53 : qdi Tryz.prog 53 = false := by kernel_rfl
theorem bo53 : qcx Tryz.prog 53 = false := by kernel_rfl
theorem pt53 : qdj Tryz.prog 53 = false := by kernel_rfl
theorem sz56 : qbw Tryz.prog 56 = some 1 := by kernel_rfl
theorem ag56 : aggT Tryz.prog 56 = some false := by kernel_rfl
theorem zr56 : qck Tryz.prog 56 = some [.nil] := by kernel_rfl
theorem zo56 : qfe Tryz.prog 56 = some (.nil) := by kernel_rfl
theorem zd56 : zD Tryz.prog 56 = .nil := by kernel_rfl
theorem by56 : qde Tryz.prog 56 = some 24 := by kernel_rfl
theorem el56 : qfz Tryz.prog 56 = some 9 := by kernel_rfl
theorem sl56 : qbk Tryz.prog 56 = true := by kernel_rfl
theorem un56 : Tryz.prog.underlying 56 = some (.slice 9) := by kernel_rfl
theorem st56 : qdi Tryz.prog 56 = false := by kernel_rfl
theorem bo56 : qcx Tryz.prog 56 = false := by kernel_rfl
theorem pt56 : qdj Tryz.prog 56 = false := by kernel_rfl
theorem sz61 : qbw Tryz.prog 61 = some 4 := by kernel_rfl
theorem ag61 : aggT Tryz.prog 61 = some true := by kernel_rfl
theorem zr61 : qck Tryz.prog 61 = some [.i .i64 0, .i .i64 0, .i .i64 0, .i .i64 0] := by kernel_rfl
theorem zd61 : zD Tryz.prog 61 = .agg [.i .i64 0, .i .i64 0, .i .i64 0, .i .i64 0] := by kernel_rfl
theorem by61 : qde Tryz.prog 61 = some 32 := by kernel_rfl
theorem sl61 : qbk Tryz.prog 61 = false := by kernel_rfl
theorem st61 : qdi Tryz.prog 61 = false := by kernel_rfl
theorem bo61 : qcx Tryz.prog 61 = false := by kernel_rfl
theorem pt61 : qdj Tryz.prog 61 = false := by kernel_rfl
theorem qbol : offT Tryz.prog 61 0 = some (0, 1) := by kernel_rfl
theorem qbom : qcz Tryz.prog 61 0 = some 3 := by kernel_rfl
theorem qbon : offT Tryz.prog 61 1 = some (1, 1) := by kernel_rfl
theorem qboo : qcz Tryz.prog 61 1 = some 3 := by kernel_rfl
theorem qbop : offT Tryz.prog 61 2 = some (2, 1) := by kernel_rfl
theorem qboq : qcz Tryz.prog 61 2 = some 3 := by kernel_rfl
theorem qbor : offT Tryz.prog 61 3 = some (3, 1) := by kernel_rfl
theorem qbos : qcz Tryz.prog 61 3 = some 3 := by kernel_rfl
theorem pl61 : qf8 Tryz.prog 61 = some [(0, 1), (1, 1), (2, 1), (3, 1)] := by kernel_rfl
theorem ek61 : eqKs Tryz.prog 61 = some [.i, .i, .i, .i] := by kernel_rfl
theorem sz65 : qbw Tryz.prog 65 = some 1 := by kernel_rfl
theorem ag65 : aggT Tryz.prog 65 = some false := by kernel_rfl
theorem by65 : qde Tryz.prog 65 = some 8 := by kernel_rfl
theorem sl65 : qbk Tryz.prog 65 = false := by kernel_rfl
theorem st65 : qdi Tryz.prog 65 = false := by kernel_rfl
theorem bo65 : qcx Tryz.prog 65 = false := by kernel_rfl
theorem pt65 : qdj Tryz.prog 65 = false := by kernel_rfl
theorem mt65 : mapT Tryz.prog 65 = some (3, 99) := by kernel_rfl
theorem sz69 : qbw Tryz.prog 69 = some 1 := by kernel_rfl
theorem ag69 : aggT Tryz.prog 69 = some false := by kernel_rfl
theorem zr69 : qck Tryz.prog 69 = some [.nil] := by kernel_rfl
theorem zo69 : qfe Tryz.prog 69 = some (.nil) := by kernel_rfl
theorem zd69 : zD Tryz.prog 69 = .nil := by kernel_rfl
theorem by69 : qde Tryz.prog 69 = some 24 := by kernel_rfl
theorem el69 : qfz Tryz.prog 69 = some 48 := by kernel_rfl
theorem sl69 : qbk Tryz.prog 69 = true := by kernel_rfl
theorem un69 : Tryz.prog.underlying 69 = some (.slice 48) := by kernel_rfl
theorem st69 : qdi Tryz.prog 69 = false := by kernel_rfl
theorem bo69 : qcx Tryz.prog 69 = false := by kernel_rfl
theorem pt69 : qdj Tryz.prog 69 = false := by kernel_rfl
theorem sz72 : qbw Tryz.prog 72 = some 1 := by kernel_rfl
theorem ag72 : aggT Tryz.prog 72 = some false := by kernel_rfl
theorem zr72 : qck Tryz.prog 72 = some [.nil] := by kernel_rfl
theorem zo72 : qfe Tryz.prog 72 = some (.nil) := by kernel_rfl
theorem zd72 : zD Tryz.prog 72 = .nil := by kernel_rfl
theorem by72 : qde Tryz.prog 72 = some 24 := by kernel_rfl
theorem el72 : qfz Tryz.prog 72 = some 110 := by kernel_rfl
theorem sl72 : qbk Tryz.prog 72 = true := by kernel_rfl
theorem un72 : Tryz.prog.underlying 72 = some (.slice 110) := by kernel_rfl
theorem st72 : qdi Tryz.prog 72 = false := by kernel_rfl
theorem bo72 : qcx Tryz.prog 72 = false := by kernel_rfl
theorem pt72 : qdj Tryz.prog 72 = false := by kernel_rfl
theorem sz74 : qbw Tryz.prog 74 = some 2 := by kernel_rfl
theorem ag74 : aggT Tryz.prog 74 = some true := by kernel_rfl
theorem zr74 : qck Tryz.prog 74 = some [.s ⟨#[]⟩, .nil] := by kernel_rfl
theorem zd74 : zD Tryz.prog 74 = .agg [.s ⟨#[]⟩, .nil] := by kernel_rfl
theorem by74 : qde Tryz.prog 74 = some 40 := by kernel_rfl
theorem sl74 : qbk Tryz.prog 74 = false := by kernel_rfl
theorem st74 : qdi Tryz.prog 74 = false := by kernel_rfl
theorem bo74 : qcx Tryz.prog 74 = false := by kernel_rfl
theorem pt74 : qdj Tryz.prog 74 = false := by kernel_rfl
theorem qbot : offT Tryz.prog 74 0 = some (0, 1) := by kernel_rfl
theorem qbou : qcz Tryz.prog 74 0 = some 9 := by kernel_rfl
theorem qbov : offT Tryz.prog 74 1 = some (1, 1) := by kernel_rfl
theorem qbow : qcz Tryz.prog 74 1 = some 72 := by kernel_rfl
theorem pl74 : qf8 Tryz.prog 74 = some [(0, 1), (1, 1)] := by kernel_rfl
theorem sz75 : qbw Tryz.prog 75 = some 1 := by kernel_rfl
theorem ag75 : aggT Tryz.prog 75 = some false := by kernel_rfl
theorem zr75 : qck Tryz.prog 75 = some [.nil] := by kernel_rfl
theorem zo75 : qfe Tryz.prog 75 = some (.nil) := by kernel_rfl
theorem zd75 : zD Tryz.prog 75 = .nil := by kernel_rfl
theorem by75 : qde Tryz.prog 75 = some 24 := by kernel_rfl
theorem el75 : qfz Tryz.prog 75 = some 113 := by kernel_rfl
theorem sl75 : qbk Tryz.prog 75 = true := by kernel_rfl
theorem un75 : Tryz.prog.underlying 75 = some (.slice 113) := by kernel_rfl
theorem st75 : qdi Tryz.prog 75 = false := by kernel_rfl
theorem bo75 : qcx Tryz.prog 75 = false := by kernel_rfl
theorem pt75 : qdj Tryz.prog 75 = false := by kernel_rfl
theorem sz77 : qbw Tryz.prog 77 = some 5 := by kernel_rfl
theorem ag77 : aggT Tryz.prog 77 = some true := by kernel_rfl
theorem zr77 : qck Tryz.prog 77 = some [.s ⟨#[]⟩, .s ⟨#[]⟩, .nil, .nil, .b false] := by kernel_rfl
theorem zd77 : zD Tryz.prog 77 = .agg [.s ⟨#[]⟩, .s ⟨#[]⟩, .nil, .nil, .b false] := by kernel_rfl
theorem by77 : qde Tryz.prog 77 = some 88 := by kernel_rfl
theorem sl77 : qbk Tryz.prog 77 = false := by kernel_rfl
theorem st77 : qdi Tryz.prog 77 = false := by kernel_rfl
theorem bo77 : qcx Tryz.prog 77 = false := by kernel_rfl
theorem pt77 : qdj Tryz.prog 77 = false := by kernel_rfl
theorem qbox : offT Tryz.prog 77 0 = some (0, 1) := by kernel_rfl
theorem qboy : qcz Tryz.prog 77 0 = some 9 := by kernel_rfl
theorem qboz : offT Tryz.prog 77 1 = some (1, 2) := by kernel_rfl
theorem qbo0 : qcz Tryz.prog 77 1 = some 74 := by kernel_rfl
theorem qbo1 : offT Tryz.prog 77 2 = some (3, 1) := by kernel_rfl
theorem qbo2 : qcz Tryz.prog 77 2 = some 75 := by kernel_rfl
theorem qbo3 : offT Tryz.prog 77 3 = some (4, 1) := by kernel_rfl
theorem qbo4 : qcz Tryz.prog 77 3 = some 4 := by kernel_rfl
theorem pl77 : qf8 Tryz.prog 77 = some [(0, 1), (1, 2), (3, 1), (4, 1)] := by kernel_rfl
theorem sz78 : qbw Tryz.prog 78 = some 1 := by kernel_rfl
theorem ag78 : aggT Tryz.prog 78 = some false := by kernel_rfl
theorem zr78 : qck Tryz.prog 78 = some [.nil] := by kernel_rfl
theorem zo78 : qfe Tryz.prog 78 = some (.nil) := by kernel_rfl
theorem zd78 : zD Tryz.prog 78 = .nil := by kernel_rfl
theorem by78 : qde Tryz.prog 78 = some 24 := by kernel_rfl
theorem el78 : qfz Tryz.prog 78 = some 104 := by kernel_rfl
theorem sl78 : qbk Tryz.prog 78 = true := by kernel_rfl
theorem un78 : Tryz.prog.underlying 78 = some (.slice 104) := by kernel_rfl
theorem st78 : qdi Tryz.prog 78 = false := by kernel_rfl
theorem bo78 : qcx Tryz.prog 78 = false := by kernel_rfl
theorem pt78 : qdj Tryz.prog 78 = false := by kernel_rfl
theorem sz80 : qbw Tryz.prog 80 = some 6 := by kernel_rfl
theorem ag80 : aggT Tryz.prog 80 = some true := by kernel_rfl
theorem zr80 : qck Tryz.prog 80 = some [.s ⟨#[]⟩, .s ⟨#[]⟩, .nil, .nil, .b false, .nil] := by kernel_rfl
theorem zd80 : zD Tryz.prog 80 = .agg [.s ⟨#[]⟩, .s ⟨#[]⟩, .nil, .nil, .b false, .nil] := by kernel_rfl
theorem by80 : qde Tryz.prog 80 = some 112 := by kernel_rfl
theorem sl80 : qbk Tryz.prog 80 = false := by kernel_rfl
theorem st80 : qdi Tryz.prog 80 = false := by kernel_rfl
theorem bo80 : qcx Tryz.prog 80 = false := by kernel_rfl
theorem pt80 : qdj Tryz.prog 80 = false := by kernel_rfl
theorem qbo5 : offT Tryz.prog 80 0 = some (0, 5) := by kernel_rfl
theorem qbo6 : qcz Tryz.prog 80 0 = some 77 := by kernel_rfl
theorem qbo7 : offT Tryz.prog 80 1 = some (5, 1) := by kernel_rfl
theorem qbo8 : qcz Tryz.prog 80 1 = some 78 := by kernel_rfl
theorem pl80 : qf8 Tryz.prog 80 = some [(0, 5), (5, 1)] := by kernel_rfl
theorem sz99 : qbw Tryz.prog 99 = some 1 := by kernel_rfl
theorem ag99 : aggT Tryz.prog 99 = some false := by kernel_rfl
theorem zr99 : qck Tryz.prog 99 = some [.np] := by kernel_rfl
theorem zo99 : qfe Tryz.prog 99 = some (.np) := by kernel_rfl
theorem zd99 : zD Tryz.prog 99 = .np := by kernel_rfl
theorem by99 : qde Tryz.prog 99 = some 8 := by kernel_rfl
theorem sl99 : qbk Tryz.prog 99 = false := by kernel_rfl
theorem st99 : qdi Tryz.prog 99 = false := by kernel_rfl
theorem bo99 : qcx Tryz.prog 99 = false := by kernel_rfl
theorem pt99 : qdj Tryz.prog 99 = true := by kernel_rfl
theorem sz104 : qbw Tryz.prog 104 = some 2 := by kernel_rfl
theorem qbr6 : aggT Tryz.prog 104 = some true := by kernel_rfl
theorem qbr7 : qck Tryz.prog 104 = some [.b false, .s ⟨#[]⟩] := by kernel_rfl
theorem qbr8 : zD Tryz.prog 104 = .agg [.b false, .s ⟨#[]⟩] := by kernel_rfl
theorem qbr9 : qde Tryz.prog 104 = some 24 := by kernel_rfl
theorem qbsa : qbk Tryz.prog 104 = false := by kernel_rfl
theorem qbsb : qdi Tryz.prog 104 = false := by kernel_rfl
theorem qbsc : qcx Tryz.prog 104 = false := by kernel_rfl
theorem qbsd : qdj Tryz.prog 104 = false := by kernel_rfl
theorem qbjv : offT Tryz.prog 104 0 = some (0, 1) := by kernel_rfl
theorem qbjw : qcz Tryz.prog 104 0 = some 4 := by kernel_rfl
theorem qbjx : offT Tryz.prog 104 1 = some (1, 1) := by kernel_rfl
theorem qbjy : qcz Tryz.prog 104 1 = some 9 := by kernel_rfl
theorem qbse : qf8 Tryz.prog 104 = some [(0, 1), (1, 1)] := by kernel_rfl
theorem qbsf : eqKs Tryz.prog 104 = some [.b, .s] := by kernel_rfl
theorem sz108 : qbw Tryz.prog 108 = some 3 := by kernel_rfl
theorem qbsg : aggT Tryz.prog 108 = some true := by kernel_rfl
theorem qbsh : qck Tryz.prog 108 = some [.i .i64 0, .i .i64 0, .i .i64 0] := by kernel_rfl
theorem qbsi : zD Tryz.prog 108 = .agg [.i .i64 0, .i .i64 0, .i .i64 0] := by kernel_rfl
theorem qbsj : qde Tryz.prog 108 = some 24 := by kernel_rfl
theorem qbsk : qbk Tryz.prog 108 = false := by kernel_rfl
theorem qbsl : qdi Tryz.prog 108 = false := by kernel_rfl
theorem qbsm : qcx Tryz.prog 108 = false := by kernel_rfl
theorem qbsn : qdj Tryz.prog 108 = false := by kernel_rfl
theorem qbjz : offT Tryz.prog 108 0 = some (0, 1) := by kernel_rfl
theorem qbj0 : qcz Tryz.prog 108 0 = some 3 := by kernel_rfl
theorem qbj1 : offT Tryz.prog 108 1 = some (1, 1) := by kernel_rfl
theorem qbj2 : qcz Tryz.prog 108 1 = some 3 := by kernel_rfl
theorem qbj3 : offT Tryz.prog 108 2 = some (2, 1) := by kernel_rfl
theorem qbj4 : qcz Tryz.prog 108 2 = some 3 := by kernel_rfl
theorem qbso : qf8 Tryz.prog 108 = some [(0, 1), (1, 1), (2, 1)] := by kernel_rfl
theorem qbsp : eqKs Tryz.prog 108 = some [.i, .i, .i] := by kernel_rfl
theorem sz110 : qbw Tryz.prog 110 = some 4 := by kernel_rfl
theorem qbsq : aggT Tryz.prog 110 = some true := by kernel_rfl
theorem qbsr : qck Tryz.prog 110 = some [.s ⟨#[]⟩, .i .i64 0, .i .i64 0, .i .i64 0] := by kernel_rfl
theorem qbss : zD Tryz.prog 110 = .agg [.s ⟨#[]⟩, .i .i64 0, .i .i64 0, .i .i64 0] := by kernel_rfl
theorem qbst : qde Tryz.prog 110 = some 40 := by kernel_rfl
theorem qbsu : qbk Tryz.prog 110 = false := by kernel_rfl
theorem qbsv : qdi Tryz.prog 110 = false := by kernel_rfl
theorem qbsw : qcx Tryz.prog 110 = false := by kernel_rfl
theorem qbsx : qdj Tryz.prog 110 = false := by kernel_rfl
theorem qbj5 : offT Tryz.prog 110 0 = some (0, 1) := by kernel_rfl
theorem qbj6 : qcz Tryz.prog 110 0 = some 9 := by kernel_rfl
theorem qbj7 : offT Tryz.prog 110 1 = some (1, 3) := by kernel_rfl
theorem qbj8 : qcz Tryz.prog 110 1 = some 108 := by kernel_rfl
theorem qbsy : qf8 Tryz.prog 110 = some [(0, 1), (1, 3)] := by kernel_rfl
theorem qbsz : eqKs Tryz.prog 110 = some [.s, .i, .i, .i] := by kernel_rfl
theorem sz113 : qbw Tryz.prog 113 = some 2 := by kernel_rfl
theorem qbs0 : aggT Tryz.prog 113 = some true := by kernel_rfl
theorem qbs1 : qck Tryz.prog 113 = some [.s ⟨#[]⟩, .b false] := by kernel_rfl
theorem qbs2 : zD Tryz.prog 113 = .agg [.s ⟨#[]⟩, .b false] := by kernel_rfl
theorem qbs3 : qde Tryz.prog 113 = some 24 := by kernel_rfl
theorem qbs4 : qbk Tryz.prog 113 = false := by kernel_rfl
theorem qbs5 : qdi Tryz.prog 113 = false := by kernel_rfl
theorem qbs6 : qcx Tryz.prog 113 = false := by kernel_rfl
theorem qbs7 : qdj Tryz.prog 113 = false := by kernel_rfl
theorem qbj9 : offT Tryz.prog 113 0 = some (0, 1) := by kernel_rfl
theorem qbka : qcz Tryz.prog 113 0 = some 9 := by kernel_rfl
theorem qbkb : offT Tryz.prog 113 1 = some (1, 1) := by kernel_rfl
theorem qbkc : qcz Tryz.prog 113 1 = some 4 := by kernel_rfl
theorem qbs8 : qf8 Tryz.prog 113 = some [(0, 1), (1, 1)] := by kernel_rfl
theorem qbs9 : eqKs Tryz.prog 113 = some [.s, .b] := by kernel_rfl
theorem qbta : qbw Tryz.prog 182 = some 1 := by kernel_rfl
theorem qbtb : aggT Tryz.prog 182 = some false := by kernel_rfl
theorem qbtc : qck Tryz.prog 182 = some [.nil] := by kernel_rfl
theorem qbtd : qfe Tryz.prog 182 = some (.nil) := by kernel_rfl
theorem qbte : zD Tryz.prog 182 = .nil := by kernel_rfl
theorem qbtf : qde Tryz.prog 182 = some 24 := by kernel_rfl
theorem qbtg : qfz Tryz.prog 182 = some 26 := by kernel_rfl
theorem qbth : qbk Tryz.prog 182 = true := by kernel_rfl
theorem qbti : Tryz.prog.underlying 182 = some (.slice 26) := by kernel_rfl
theorem qbtj : qdi Tryz.prog 182 = false := by kernel_rfl
theorem qbtk : qcx Tryz.prog 182 = false := by kernel_rfl
theorem qbtl : qdj Tryz.prog 182 = false := by kernel_rfl
theorem qbtm : qbw Tryz.prog 197 = some 1 := by kernel_rfl
theorem qbtn : aggT Tryz.prog 197 = some false := by kernel_rfl
theorem qbto : qde Tryz.prog 197 = some 8 := by kernel_rfl
theorem qbtp : qbk Tryz.prog 197 = false := by kernel_rfl
theorem qbtq : qdi Tryz.prog 197 = false := by kernel_rfl
theorem qbtr : qcx Tryz.prog 197 = false := by kernel_rfl
theorem qbts : qdj Tryz.prog 197 = false := by kernel_rfl
theorem qbtt : mapT Tryz.prog 197 = some (9, 4) := by kernel_rfl
theorem qbtu : qbw Tryz.prog 200 = some 1 := by kernel_rfl
theorem qbtv : aggT Tryz.prog 200 = some false := by kernel_rfl
theorem qbtw : qck Tryz.prog 200 = some [.nil] := by kernel_rfl
theorem qbtx : qfe Tryz.prog 200 = some (.nil) := by kernel_rfl
theorem qbty : zD Tryz.prog 200 = .nil := by kernel_rfl
theorem qbtz : qde Tryz.prog 200 = some 24 := by kernel_rfl
theorem qbt0 : qfz Tryz.prog 200 = some 212 := by kernel_rfl
theorem qbt1 : qbk Tryz.prog 200 = true := by kernel_rfl
theorem qbt2 : Tryz.prog.underlying 200 = some (.slice 212) := by kernel_rfl
theorem qbt3 : qdi Tryz.prog 200 = false := by kernel_rfl
theorem qbt4 : qcx Tryz.prog 200 = false := by kernel_rfl
theorem qbt5 : qdj Tryz.prog 200 = false := by kernel_rfl
theorem qbt6 : qbw Tryz.prog 206 = some 1 := by kernel_rfl
theorem qbt7 : aggT Tryz.prog 206 = some false := by kernel_rfl
theorem qbt8 : qck Tryz.prog 206 = some [.nil] := by kernel_rfl
theorem qbt9 : qfe Tryz.prog 206 = some (.nil) := by kernel_rfl
theorem qbua : zD Tryz.prog 206 = .nil := by kernel_rfl
theorem qbub : qde Tryz.prog 206 = some 24 := by kernel_rfl
theorem qbuc : qfz Tryz.prog 206 = some 5 := by kernel_rfl
theorem qbud : qbk Tryz.prog 206 = true := by kernel_rfl
theorem qbue : Tryz.prog.underlying 206 = some (.slice 5) := by kernel_rfl
theorem qbuf : qdi Tryz.prog 206 = false := by kernel_rfl
theorem qbug : qcx Tryz.prog 206 = false := by kernel_rfl
theorem qbuh : qdj Tryz.prog 206 = false := by kernel_rfl
theorem qbui : ckT Tryz.prog 206 = .bytes := by kernel_rfl
theorem qbuj : qbw Tryz.prog 212 = some 2 := by kernel_rfl
theorem qbuk : aggT Tryz.prog 212 = some true := by kernel_rfl
theorem qbul : qck Tryz.prog 212 = some [.i .i64 0, .s ⟨#[]⟩] := by kernel_rfl
theorem qbum : zD Tryz.prog 212 = .agg [.i .i64 0, .s ⟨#[]⟩] := by kernel_rfl
theorem qbun : qde Tryz.prog 212 = some 24 := by kernel_rfl
theorem qbuo : qbk Tryz.prog 212 = false := by kernel_rfl
theorem qbup : qdi Tryz.prog 212 = false := by kernel_rfl
theorem qbuq : qcx Tryz.prog 212 = false := by kernel_rfl
theorem qbur : qdj Tryz.prog 212 = false := by kernel_rfl
theorem qbkd : offT Tryz.prog 212 0 = some (0, 1) := by kernel_rfl
theorem qbke : qcz Tryz.prog 212 0 = some 3 := by kernel_rfl
theorem qbkf : offT Tryz.prog 212 1 = some (1, 1) := by kernel_rfl
theorem qbkg : qcz Tryz.prog 212 1 = some 9 := by kernel_rfl
theorem qbus : qf8 Tryz.prog 212 = some [(0, 1), (1, 1)] := by kernel_rfl
theorem qbut : eqKs Tryz.prog 212 = some [.i, .s] := by kernel_rfl
theorem qbuu : qbw Tryz.prog 232 = some 1 := by kernel_rfl
theorem qbuv : aggT Tryz.prog 232 = some false := by kernel_rfl
theorem qbuw : qck Tryz.prog 232 = some [.i .i8 0] := by kernel_rfl
theorem qbux : qfe Tryz.prog 232 = some (.i .i8 0) := by kernel_rfl
theorem qbuy : zD Tryz.prog 232 = .i .i8 0 := by kernel_rfl
theorem qbuz : qde Tryz.prog 232 = some 1 := by kernel_rfl
theorem qbu0 : qbk Tryz.prog 232 = false := by kernel_rfl
theorem qbu1 : qdi Tryz.prog 232 = false := by kernel_rfl
theorem qbu2 : qcx Tryz.prog 232 = false := by kernel_rfl
theorem qbu3 : qdj Tryz.prog 232 = false := by kernel_rfl
theorem qbu4 : ckT Tryz.prog 232 = .int .i8 := by kernel_rfl
end Go.Ev.Ty

namespace Go.Ev
def decI (k : IntKind) : D → Option Int
  | .i k' n => if k' = k then some n else none
  | _ => none
def decS : D → Option ByteArray
  | .s x => some x
  | _ => none
def decM {α : Type} (f : D → Option α) : List D → Option (List α)
  | [] => some []
  | d :: l => match f d, decM f l with
    | some x, some r => some (x :: r)
    | _, _ => none
def decL {α : Type} (z : Nat) (f : D → Option α) : D → Option (List α)
  | .nil => some []
  | .sl z' l => if z' = z then decM f l else none
  | _ => none
theorem qbc0 (k : IntKind) (n : Int) : decI k (D.i k n) = some n := by simp [decI]
theorem qbc1 (n : ByteArray) : decS (D.s n) = some n := rfl
theorem qho {k : IntKind} {d : D} {n : Int} (h : decI k d = some n) : dle d (D.i k n) := by
  unfold decI at h
  split at h
  · split at h
    · cases h; rename_i e; subst e; exact q01 _
    · cases h
  · cases h
theorem q3a {d : D} {n : ByteArray} (h : decS d = some n) : dle d (D.s n) := by
  unfold decS at h
  split at h
  · cases h; exact q01 _
  · cases h
theorem qb0 {α : Type} {f : D → Option α} : decM f [] = some [] := rfl
theorem qbm {α : Type} {f : D → Option α} {d : D} {l : List D} : decM f (d :: l) = (match f d, decM f l with
    | some x, some r => some (x :: r)
    | _, _ => none) := rfl
theorem qdk {α : Type} {f : α → D} {l : List α} {d : D} : (l.map f ++ [d]).take (l.length + 1) = l.map f ++ [d] := List.take_of_length_le (by simp)
theorem qfq {α : Type} {f : D → Option α} {g : α → D} (h : ∀ x, f (g x) = some x) : ∀ l : List α, decM f (l.map g) = some l
  | [] => rfl
  | x :: l => by simp [decM, h, qfq h l]
theorem qdz {α : Type} {f : D → Option α} : ∀ {l m : List D}, decM f (l ++ m) = (match decM f l, decM f m with
    | some x, some y => some (x ++ y)
    | _, _ => none)
  | [], m => by
    simp only [List.nil_append, decM]
    cases decM f m <;> rfl
  | d :: l, m => by
    simp only [List.cons_append, decM, qdz (l := l) (m := m)]
    cases f d <;> cases decM f l <;> cases decM f m <;> rfl
theorem qce {α : Type} {f : D → Option α} {z : Nat} : decL z f .nil = some [] := rfl
theorem qcc {α : Type} {f : D → Option α} {z z' : Nat} {l : List D} : decL z f (.sl z' l) = if z' = z then decM f l else none := rfl
theorem qfr {α : Type} {f : D → Option α} {g : α → D} {z : Nat} (h : ∀ x, f (g x) = some x) (l : List α) : decL z f (.sl z (l.map g)) = some l := by simp [decL, qfq h]
theorem qjt {l m : List D} (h : l = m) : dles l m := h ▸ q0p l
theorem qu1 {α : Type} {f : D → Option α} {g : α → D} (h : ∀ {d x}, f d = some x → dle d (g x)) : ∀ {l : List D} {x : List α}, decM f l = some x → dles l (x.map g)
  | [], x, hl => by cases hl; simp [dles]
  | d :: l, x, hl => by
    unfold decM at hl
    split at hl
    · rename_i a r h1 h2
      cases hl
      simp only [List.map_cons, dles]
      exact ⟨h h1, qu1 h h2⟩
    · cases hl
theorem q0y {α : Type} {f : D → Option α} {g : α → D} {z : Nat} (h : ∀ {d x}, f d = some x → dle d (g x)) {d : D} {x : List α} (hd : decL z f d = some x) : dle d (.sl z (x.map g)) := by
  unfold decL at hd
  split at hd
  · cases hd; simp [dle]
  · split at hd
    · rename_i e
      subst e
      simp only [dle]
      exact ⟨trivial, qu1 h hd⟩
    · cases hd
  · cases hd
theorem qu2 (x y : ByteArray) : seq x y = true ↔ x = y := by
  unfold seq
  rw [beq_iff_eq, ByteArray.toList_eq, ByteArray.toList_eq]
  exact ⟨fun h => Go.WideShapes.bytes_inj h, fun h => by rw [h]⟩
theorem qdq (x y : ByteArray) : seq x y = decide (x = y) := by
  rw [Bool.eq_iff_iff, qu2, decide_eq_true_iff]
end Go.Ev

namespace Go.Ev
structure Change where
  file : ByteArray
  kind : Int
  rrn : Int
  before : ByteArray
  after : ByteArray
deriving DecidableEq
def q0u (x : Change) : D := .agg [.s x.file, .i .i64 x.kind, .i .i64 x.rrn, .s x.before, .s x.after]
def qba : Change := ⟨⟨#[]⟩, 0, 0, ⟨#[]⟩, ⟨#[]⟩⟩
theorem q08 (x : Change) : (⟨x.file, x.kind, x.rrn, x.before, x.after⟩ : Change) = x := rfl
def q0z : D → Option Change
  | .agg [.s a0, .i .i64 a1, .i .i64 a2, .s a3, .s a4] => some ⟨a0, a1, a2, a3, a4⟩
  | _ => none
theorem qpu (x : Change) : q0z (q0u x) = some x := rfl
theorem qew {d : D} {x : Change} (h : q0z d = some x) : dle d (q0u x) := by
  unfold q0z at h
  split at h
  · cases h; exact q01 _
  · cases h
theorem qbh : (⟨⟨#[]⟩, 0, 0, ⟨#[]⟩, ⟨#[]⟩⟩ : Change) = qba := rfl
theorem qd3 {a0 b0 : ByteArray} {a1 b1 : Int} {a2 b2 : Int} {a3 b3 : ByteArray} {a4 b4 : ByteArray} : qdd [.s, .i, .i, .s, .s] [.s a0, .i .i64 a1, .i .i64 a2, .s a3, .s a4] [.s b0, .i .i64 b1, .i .i64 b2, .s b3, .s b4] = some (eqB (⟨a0, a1, a2, a3, a4⟩ : Change) ⟨b0, b1, b2, b3, b4⟩) := by
  simp only [qdd, qic, qdq, ↓reduceIte, Option.some.injEq, Bool.and_true]; rw [Bool.eq_iff_iff]; simp [eqB]
theorem q14 (l : List Change) (k : Nat) : (l.map q0u).getD k (q0u qba) = q0u (l.getD k qba) := by
  simp only [List.getD, List.getElem?_map]
  cases l[k]? <;> rfl
theorem qd7 (l : List Change) (k : Nat) : (l.map q0u).getD k (.agg [.s ⟨#[]⟩, .i .i64 0, .i .i64 0, .s ⟨#[]⟩, .s ⟨#[]⟩]) = q0u (l.getD k qba) := q14 l k
theorem qcs (l : List Change) : decL 5 q0z (.sl 5 (l.map q0u)) = some l := qfr qpu l
theorem qct (l : List Change) : decM q0z (l.map q0u) = some l := qfq qpu l
structure Entry where
  number : Int
  kind : Int
  unit : Int
  change : Change
deriving DecidableEq
def q0r (x : Entry) : D := .agg [.i .i64 x.number, .i .i64 x.kind, .i .i64 x.unit, .s x.change.file, .i .i64 x.change.kind, .i .i64 x.change.rrn, .s x.change.before, .s x.change.after]
def q0q : Entry := ⟨0, 0, 0, qba⟩
theorem qb3 (x : Entry) : (⟨x.number, x.kind, x.unit, x.change⟩ : Entry) = x := rfl
def q0w : D → Option Entry
  | .agg [.i .i64 a0, .i .i64 a1, .i .i64 a2, .s a3, .i .i64 a4, .i .i64 a5, .s a6, .s a7] => some ⟨a0, a1, a2, ⟨a3, a4, a5, a6, a7⟩⟩
  | _ => none
theorem qqh (x : Entry) : q0w (q0r x) = some x := rfl
theorem q04 {d : D} {x : Entry} (h : q0w d = some x) : dle d (q0r x) := by
  unfold q0w at h
  split at h
  · cases h; exact q01 _
  · cases h
theorem qcf : (⟨0, 0, 0, qba⟩ : Entry) = q0q := rfl
theorem qem {a0 b0 : Int} {a1 b1 : Int} {a2 b2 : Int} {a3 b3 : ByteArray} {a4 b4 : Int} {a5 b5 : Int} {a6 b6 : ByteArray} {a7 b7 : ByteArray} : qdd [.i, .i, .i, .s, .i, .i, .s, .s] [.i .i64 a0, .i .i64 a1, .i .i64 a2, .s a3, .i .i64 a4, .i .i64 a5, .s a6, .s a7] [.i .i64 b0, .i .i64 b1, .i .i64 b2, .s b3, .i .i64 b4, .i .i64 b5, .s b6, .s b7] = some (eqB (⟨a0, a1, a2, ⟨a3, a4, a5, a6, a7⟩⟩ : Entry) ⟨b0, b1, b2, ⟨b3, b4, b5, b6, b7⟩⟩) := by
  simp only [qdd, qic, qdq, ↓reduceIte, Option.some.injEq, Bool.and_true]; rw [Bool.eq_iff_iff]; simp [eqB]
theorem q4n (l : List Entry) (k : Nat) : (l.map q0r).getD k (q0r q0q) = q0r (l.getD k q0q) := by
  simp only [List.getD, List.getElem?_map]
  cases l[k]? <;> rfl
theorem qci (l : List Entry) (k : Nat) : (l.map q0r).getD k (.agg [.i .i64 0, .i .i64 0, .i .i64 0, .s ⟨#[]⟩, .i .i64 0, .i .i64 0, .s ⟨#[]⟩, .s ⟨#[]⟩]) = q0r (l.getD k q0q) := q4n l k
theorem qdt (l : List Entry) : decL 8 q0w (.sl 8 (l.map q0r)) = some l := qfr qqh l
theorem qdx (l : List Entry) : decM q0w (l.map q0r) = some l := qfq qqh l
structure Packet where
  kind : Int
  number : Int
deriving DecidableEq
def qv5 (x : Packet) : D := .agg [.i .i64 x.kind, .i .i64 x.number]
def qv6 : D → Option Packet
  | .agg [.i .i64 a0, .i .i64 a1] => some ⟨a0, a1⟩
  | _ => none
theorem qxi (x : Packet) : qv6 (qv5 x) = some x := rfl
theorem qe1 (l : List Packet) : decM qv6 (l.map qv5) = some l := qfq qxi l
structure Remote where
  sync : Bool
  source : List Entry
  target : List Entry
  sent : Int
  acked : Int
  wire : List Packet
deriving DecidableEq
structure RAct where
  kind : Int
  n : Int
  entry : Entry
deriving DecidableEq
def q3b (x : RAct) : D := .agg [.i .i64 x.kind, .i .i64 x.n, .i .i64 x.entry.number, .i .i64 x.entry.kind, .i .i64 x.entry.unit, .s x.entry.change.file, .i .i64 x.entry.change.kind, .i .i64 x.entry.change.rrn, .s x.entry.change.before, .s x.entry.change.after]
def q3c : D → Option RAct
  | .agg [.i .i64 a0, .i .i64 a1, .i .i64 a2, .i .i64 a3, .i .i64 a4, .s a5, .i .i64 a6, .i .i64 a7, .s a8, .s a9] => some ⟨a0, a1, ⟨a2, a3, a4, ⟨a5, a6, a7, a8, a9⟩⟩⟩
  | _ => none
theorem q15 (x : RAct) : q3c (q3b x) = some x := rfl
theorem qga (l : List RAct) : decM q3c (l.map q3b) = some l := qfq q15 l
structure AUnit where
  unit : Int
  first : Int
  last : Int
  state : Int
deriving DecidableEq
def qbr (x : AUnit) : D := .agg [.i .i64 x.unit, .i .i64 x.first, .i .i64 x.last, .i .i64 x.state]
def qje : AUnit := ⟨0, 0, 0, 0⟩
theorem qjf (x : AUnit) : (⟨x.unit, x.first, x.last, x.state⟩ : AUnit) = x := rfl
def qe2 : D → Option AUnit
  | .agg [.i .i64 a0, .i .i64 a1, .i .i64 a2, .i .i64 a3] => some ⟨a0, a1, a2, a3⟩
  | _ => none
theorem qqi (x : AUnit) : qe2 (qbr x) = some x := rfl
theorem qr7 {d : D} {x : AUnit} (h : qe2 d = some x) : dle d (qbr x) := by
  unfold qe2 at h
  split at h
  · cases h; exact q01 _
  · cases h
theorem qlf : (⟨0, 0, 0, 0⟩ : AUnit) = qje := rfl
theorem qka {a0 b0 : Int} {a1 b1 : Int} {a2 b2 : Int} {a3 b3 : Int} : qdd [.i, .i, .i, .i] [.i .i64 a0, .i .i64 a1, .i .i64 a2, .i .i64 a3] [.i .i64 b0, .i .i64 b1, .i .i64 b2, .i .i64 b3] = some (eqB (⟨a0, a1, a2, a3⟩ : AUnit) ⟨b0, b1, b2, b3⟩) := by
  simp only [qdd, qic, qdq, ↓reduceIte, Option.some.injEq, Bool.and_true]; rw [Bool.eq_iff_iff]; simp [eqB]
theorem q4o (l : List AUnit) (k : Nat) : (l.map qbr).getD k (qbr qje) = qbr (l.getD k qje) := by
  simp only [List.getD, List.getElem?_map]
  cases l[k]? <;> rfl
theorem qh7 (l : List AUnit) (k : Nat) : (l.map qbr).getD k (.agg [.i .i64 0, .i .i64 0, .i .i64 0, .i .i64 0]) = qbr (l.getD k qje) := q4o l k
theorem qkb (l : List AUnit) : decL 4 qe2 (.sl 4 (l.map qbr)) = some l := qfr qqi l
theorem qjg (l : List AUnit) : decM qe2 (l.map qbr) = some l := qfq qqi l
end Go.Ev

namespace Go.Ev
def qo8 : Nat → List Entry → Bool
  | _, [] => true
  | i, e :: r => decide (i ≤ 81) && (decide (e.change.before.size ≤ 300) && decide (e.change.after.size ≤ 300)) && qo8 (i + 1) r
def qlw (l : List Entry) : Bool := qo8 0 l
def chr (s : ByteArray) (i : Nat) : Int := ((s.data.toList.getD i 0).toNat : Int)
def qnv (first : Bool) (c : Int) : Bool := (decide (65 ≤ c) && decide (c ≤ 90) || c == 35 || c == 36 || c == 64) || (!first && (c == 95 || c == 46 || decide (48 ≤ c) && decide (c ≤ 57)))
def qbb (s : ByteArray) : Bool := decide (1 ≤ s.size) && decide (s.size ≤ 10) && (List.range s.size).all fun i => qnv (i == 0) (chr s i)
theorem qbl (s : ByteArray) (k : Nat) : (qhb s).getD k (.i .u8 0) = .i .u8 (chr s k) := by
  unfold qhb chr
  simp only [List.getD, List.getElem?_map]
  cases s.data.toList[k]? <;> rfl
theorem qyo (s : ByteArray) (i : Nat) : 0 ≤ chr s i ∧ chr s i ≤ 255 := by
  unfold chr
  have := (s.data.toList.getD i 0).toNat_lt
  omega
theorem qc9 (s : ByteArray) (i : Nat) : ((s.data.toList.getD i 0).toNat : Int) = chr s i := rfl
theorem qqj {s : ByteArray} {i : Nat} (h : i < s.size) (hc : qnv (i == 0) (chr s i) = false) : qbb s = false := by
  unfold qbb
  rw [Bool.and_eq_false_iff]
  right
  rw [List.all_eq_false]
  exact ⟨i, by simpa using h, by simp [hc]⟩
theorem qo9 {s : ByteArray} (h1 : 1 ≤ s.size) (h2 : s.size ≤ 10) (h : ∀ j, j < s.size → qnv (j == 0) (chr s j) = true) : qbb s = true := by
  unfold qbb
  simp only [Bool.and_eq_true, decide_eq_true_eq, List.all_eq_true, List.mem_range]
  exact ⟨⟨h1, h2⟩, h⟩
theorem qpa {s : ByteArray} (h : (s.size : Int) < 1 ∨ 10 < (s.size : Int)) : qbb s = false := by
  unfold qbb
  rw [Bool.and_eq_false_iff]
  left
  simp only [Bool.and_eq_false_iff, decide_eq_false_iff_not]
  omega
theorem qkm (i : Nat) (c : Int) : qnv (i == 0) c = true ↔ (((65 ≤ c ∧ c ≤ 90) ∨ c = 35 ∨ c = 36 ∨ c = 64) ∨ (i ≠ 0 ∧ (c = 95 ∨ c = 46 ∨ (48 ≤ c ∧ c ≤ 57)))) := by
  simp [qnv]
  omega
theorem qsn (s : ByteArray) : s = ⟨#[]⟩ ↔ s.size = 0 := by
  constructor
  · rintro rfl; rfl
  · intro h
    cases s with | mk d => simp only [ByteArray.size, Array.size_eq_zero_iff] at h; rw [h]
def qkn (c : Change) : Int :=
  if ¬(0 ≤ c.kind ∧ c.kind ≤ 2) then 4 else if ¬(1 ≤ c.rrn ∧ c.rrn ≤ 60) then 3 else if 200 < c.before.size ∨ 200 < c.after.size then 18
  else if ¬(c.before = ⟨#[]⟩ ↔ c.kind = 0) ∨ ¬(c.after = ⟨#[]⟩ ↔ c.kind = 2) then 5 else 0
def qlg (e : Entry) : Entry :=
  if e.kind = 0 then e else if e.kind = 1 ∨ e.kind = 2 ∨ e.kind = 3 then ⟨e.number, e.kind, e.unit, qba⟩
  else if e.kind = 4 then ⟨e.number, e.kind, 0, { qba with file := e.change.file }⟩ else ⟨e.number, e.kind, 0, qba⟩
theorem qv7 (a b : Entry) : a = b ↔ a.number = b.number ∧ a.kind = b.kind ∧ a.unit = b.unit ∧ a.change.file = b.change.file ∧ a.change.kind = b.change.kind ∧ a.change.rrn = b.change.rrn ∧ a.change.before = b.change.before ∧ a.change.after = b.change.after := by
  cases a with | mk a1 a2 a3 a4 => cases a4; cases b with | mk b1 b2 b3 b4 => cases b4; simp
theorem qto (a b : Change) : a = b ↔ a.file = b.file ∧ a.kind = b.kind ∧ a.rrn = b.rrn ∧ a.before = b.before ∧ a.after = b.after := by
  cases a; cases b; simp
def qri (e : Entry) : Int := if qlg e = e then 0 else 5
def qc3 (e : Entry) : Int :=
  if ¬(0 ≤ e.kind ∧ e.kind ≤ 5) then 4 else if ¬(1 ≤ e.number ∧ e.number ≤ 9999) then 3
  else if (e.kind = 1 ∨ e.kind = 2 ∨ e.kind = 3) ∧ ¬(1 ≤ e.unit ∧ e.unit ≤ 999) then 3
  else if e.kind = 0 ∧ ¬(0 ≤ e.unit ∧ e.unit ≤ 999) then 3
  else if ¬qlg e = e then 5 else if e.kind ≠ 0 ∧ e.kind ≠ 4 then 0 else if qbb e.change.file = false then 7
  else if e.kind = 4 then 0 else qkn e.change
def qkx (u : Int) (e : Entry) : Bool := e.kind == 1 && e.unit == u
def pEnd (u : Int) (e : Entry) : Bool := (e.kind == 2 || e.kind == 3) && e.unit == u
def begins (l : List Entry) (u : Int) : Bool := l.any (qkx u)
def qfn (l : List Entry) (u : Int) : Option Entry := l.find? (pEnd u)
def ends (l : List Entry) (u : Int) : Int := match qfn l u with | some e => e.kind | none => -1
def isOpen (l : List Entry) (u : Int) : Bool := begins l u && ends l u == -1
def qen (b : List Entry) (e : Entry) : Int :=
  if e.kind = 1 then (if isOpen b e.unit = true then 26 else if begins b e.unit = true then 13 else 0)
  else if e.kind = 2 ∨ e.kind = 3 then (if isOpen b e.unit = true then 0 else 26)
  else if e.kind = 0 then (if e.unit ≠ 0 ∧ isOpen b e.unit = false then 26 else 0) else 0
def qd8 (l : List Entry) : Nat → Nat → Int × Int
  | 0, _ => (0, 0)
  | n + 1, i =>
    if qc3 (l.getD i q0q) ≠ 0 then (i, qc3 (l.getD i q0q))
    else if 0 < i ∧ (l.getD i q0q).number ≠ IntKind.i64.wrap ((l.getD ((i : Int) - 1).toNat q0q).number + 1) then (i, 14)
    else if qen (l.take i) (l.getD i q0q) ≠ 0 then (i, qen (l.take i) (l.getD i q0q))
    else qd8 l n (i + 1)
def qbc (l : List Entry) : Int × Int := if 80 < l.length then (0, 2) else qd8 l l.length 0
theorem qhf {l : List Entry} {i : Nat} (h : i < l.length) : qd8 l (l.length - i) i =
    if qc3 (l.getD i q0q) ≠ 0 then ((i : Int), qc3 (l.getD i q0q))
    else if 0 < i ∧ (l.getD i q0q).number ≠ IntKind.i64.wrap ((l.getD ((i : Int) - 1).toNat q0q).number + 1) then ((i : Int), 14)
    else if qen (l.take i) (l.getD i q0q) ≠ 0 then ((i : Int), qen (l.take i) (l.getD i q0q))
    else qd8 l (l.length - (i + 1)) (i + 1) := by
  obtain ⟨n, hn⟩ : ∃ n, l.length - i = n + 1 := ⟨l.length - i - 1, by omega⟩
  rw [hn, show l.length - (i + 1) = n by omega]
  rfl
theorem qmf {l : List Entry} {i : Nat} (h : l.length ≤ i) : qd8 l (l.length - i) i = (0, 0) := by
  rw [show l.length - i = 0 by omega]; rfl
theorem qjh (i : Nat) : ((i : Int) - 1).toNat = i - 1 := by omega
section
variable {l : List Entry} {c : Int × Int} {i : Nat}
theorem qon (h : qd8 l (l.length - i) i = c) (hi : i < l.length) (h1 : ¬qc3 (l.getD i q0q) = 0) : c.1 = i ∧ c.2 = qc3 (l.getD i q0q) := by
  rw [qhf hi, if_pos h1] at h
  rw [← h]; exact ⟨rfl, rfl⟩
theorem qoo (h : qd8 l (l.length - i) i = c) (hi : i < l.length) (h1 : qc3 (l.getD i q0q) = 0) (h0 : 0 < (i : Int)) (h2 : ¬(l.getD i q0q).number = IntKind.i64.wrap ((l.getD ((i : Int) - 1).toNat q0q).number + 1)) : c.1 = i ∧ c.2 = 14 := by
  rw [qhf hi, if_neg (fun e => e h1), if_pos ⟨by omega, h2⟩] at h
  rw [← h]; exact ⟨rfl, rfl⟩
theorem qop (h : qd8 l (l.length - i) i = c) (hi : i < l.length) (h1 : qc3 (l.getD i q0q) = 0) (h2 : (i : Int) ≤ 0 ∨ (l.getD i q0q).number = IntKind.i64.wrap ((l.getD ((i : Int) - 1).toNat q0q).number + 1)) (h3 : ¬qen (l.take i) (l.getD i q0q) = 0) :
    c.1 = i ∧ c.2 = qen (l.take i) (l.getD i q0q) := by
  rw [qhf hi, if_neg (fun e => e h1), if_neg (by omega), if_pos h3] at h
  rw [← h]; exact ⟨rfl, rfl⟩
theorem qu3 (h : qd8 l (l.length - i) i = c) (hi : i < l.length) (h1 : qc3 (l.getD i q0q) = 0) (h2 : (i : Int) ≤ 0 ∨ (l.getD i q0q).number = IntKind.i64.wrap ((l.getD ((i : Int) - 1).toNat q0q).number + 1)) (h3 : qen (l.take i) (l.getD i q0q) = 0) :
    qd8 l (l.length - (i + 1)) (i + 1) = c := by
  rwa [qhf hi, if_neg (fun e => e h1), if_neg (by omega), if_neg (fun e => e h3)] at h
end
section
variable {l : List Entry} {u : Int} {i : Nat}
theorem qbc2 {α : Type} {l : List α} {i : Nat} (z : α) (h : i < l.length) : l.getD i z ∈ l := by
  simp only [List.getD, List.getElem?_eq_getElem h, Option.getD_some]
  exact List.getElem_mem h
theorem qpb (h : i < l.length) (h1 : (l.getD i q0q).kind = 1) (h2 : (l.getD i q0q).unit = u) : begins l u = true := by
  unfold begins
  rw [List.any_eq_true]
  exact ⟨_, qbc2 q0q h, by simp only [qkx, Bool.and_eq_true, beq_iff_eq]; exact ⟨h1, h2⟩⟩
theorem q16 (hb : begins (l.take i) u = false) (h : i < l.length) (hn : ¬((l.getD i q0q).kind = 1 ∧ (l.getD i q0q).unit = u)) : begins (l.take (i + 1)) u = false := by
  unfold begins at hb ⊢
  rw [qdy q0q h, List.any_append, hb]
  simp only [List.any_cons, List.any_nil, Bool.or_false, Bool.false_or, qkx]
  rw [Bool.and_eq_false_iff]
  simp only [beq_eq_false_iff_ne, ne_eq]
  omega
theorem q4p (hb : begins (l.take i) u = false) (h : l.length ≤ i) : begins l u = false := by
  rwa [List.take_of_length_le h] at hb
theorem qyp (hb : qfn (l.take i) u = none) (h : i < l.length) (h1 : (l.getD i q0q).kind = 2 ∨ (l.getD i q0q).kind = 3) (h2 : (l.getD i q0q).unit = u) : ends l u = (l.getD i q0q).kind := by
  have : qfn l u = some (l.getD i q0q) := by
    unfold qfn at hb ⊢
    rw [← List.take_append_drop i l, List.find?_append, hb, Option.none_or, List.take_append_drop, qe0 q0q h, List.find?_cons]
    have : pEnd u (l.getD i q0q) = true := by
      simp only [pEnd, Bool.and_eq_true, Bool.or_eq_true, beq_iff_eq]
      exact ⟨h1, h2⟩
    rw [this]
  unfold ends
  rw [this]
theorem q8w (hb : qfn (l.take i) u = none) (h : i < l.length) (hn : ¬(((l.getD i q0q).kind = 2 ∨ (l.getD i q0q).kind = 3) ∧ (l.getD i q0q).unit = u)) : qfn (l.take (i + 1)) u = none := by
  unfold qfn at hb ⊢
  rw [qdy q0q h, List.find?_append, hb, Option.none_or, List.find?_cons]
  have : pEnd u (l.getD i q0q) = false := by
    rw [← Bool.not_eq_true]
    simp only [pEnd, Bool.and_eq_true, Bool.or_eq_true, beq_iff_eq]
    exact hn
  rw [this]; rfl
theorem qbc3 (hb : qfn (l.take i) u = none) (h : l.length ≤ i) : ends l u = -1 := by
  rw [List.take_of_length_le h] at hb
  unfold ends; rw [hb]
end
theorem qgp {α : Type} {a b : List α} {i : Nat} {z : α} (h : a.take i = b.take i) (ha : i < a.length) (hb : i < b.length) (he : a.getD i z = b.getD i z) : a.take (i + 1) = b.take (i + 1) := by
  rw [qdy z ha, qdy z hb, h, he]
theorem qb9 {α : Type} {a b : List α} {i : Nat} (h : a.take i = b.take i) (ha : a.length ≤ i) (hb : b.length ≤ i) : a = b := by
  rwa [List.take_of_length_le ha, List.take_of_length_le hb] at h
def qpc (l first : List Entry) : Bool := decide (first.length ≤ l.length) && decide (l.take first.length = first)
def qoq (ns nt : Nat) : List Packet → Int
  | [] => 0
  | p :: r => if ¬(0 ≤ p.kind ∧ p.kind ≤ 1) then 4 else if p.kind = 0 ∧ ¬(1 ≤ p.number ∧ p.number ≤ (ns : Int)) ∨ p.kind = 1 ∧ ¬(0 ≤ p.number ∧ p.number ≤ (nt : Int)) then 3 else qoq ns nt r
def qnw (x : Remote) : Int :=
  if (qbc x.source).2 ≠ 0 then (qbc x.source).2
  else if 40 < x.source.length then 2
  else if 0 < x.source.length ∧ (x.source.getD 0 q0q).number ≠ 1 then 14
  else if qpc x.source x.target = false then 41
  else if ¬(0 ≤ x.sent ∧ x.sent ≤ (x.source.length : Int)) ∨ ¬(0 ≤ x.acked ∧ x.acked ≤ (x.target.length : Int) ∧ x.acked ≤ x.sent) then 3
  else if 12 < x.wire.length then 2
  else qoq x.source.length x.target.length x.wire
end Go.Ev

namespace Go.Ev
theorem qnx {α : Type} {l : List α} {y z : α} {j : Nat} : (l ++ [y]).getD j z = if j < l.length then l.getD j z else if j = l.length then y else z := by
  simp only [List.getD, List.getElem?_append]
  by_cases h : j < l.length
  · simp [h]
  · simp only [h, if_false]
    by_cases e : j = l.length
    · subst e; simp
    · have : j - l.length ≠ 0 := by omega
      simp [e, List.getElem?_cons, this]
def pktOk (ns nt : Nat) (p : Packet) : Prop := (p.kind = 0 ∨ p.kind = 1) ∧ (p.kind = 0 → 1 ≤ p.number ∧ p.number ≤ (ns : Int)) ∧ (p.kind = 1 → 0 ≤ p.number ∧ p.number ≤ (nt : Int))
theorem qob {ns nt : Nat} : ∀ {l : List Packet}, qoq ns nt l = 0 ↔ ∀ p ∈ l, pktOk ns nt p
  | [] => by simp [qoq]
  | p :: l => by
    rw [List.forall_mem_cons, ← qob (l := l), qoq]
    unfold pktOk
    constructor
    · intro h
      split at h
      · cases h
      · split at h
        · cases h
        · exact ⟨by omega, h⟩
    · rintro ⟨h1, h2⟩
      rw [if_neg (by omega), if_neg (by omega)]; exact h2
structure rightR (x : Remote) : Prop where
  c : (qbc x.source).2 = 0
  n : x.source.length ≤ 40
  f : 0 < x.source.length → (x.source.getD 0 q0q).number = 1
  t : x.target.length ≤ x.source.length
  b : x.source.take x.target.length = x.target
  s0 : 0 ≤ x.sent
  s1 : x.sent ≤ (x.source.length : Int)
  a0 : 0 ≤ x.acked
  a1 : x.acked ≤ (x.target.length : Int)
  a2 : x.acked ≤ x.sent
  w : x.wire.length ≤ 12
  p : ∀ p ∈ x.wire, pktOk x.source.length x.target.length p
theorem qxj {x : Remote} : qnw x = 0 ↔ rightR x := by
  constructor
  · intro h
    unfold qnw at h
    split at h
    · exact absurd h ‹_›
    split at h
    · cases h
    split at h
    · cases h
    split at h
    · cases h
    split at h
    · cases h
    split at h
    · cases h
    rename_i h1 h2 h3 h4 h5 h6
    simp only [Bool.not_eq_false, qpc, Bool.and_eq_true, decide_eq_true_eq] at h4
    exact ⟨by omega, by omega, fun hl => by omega, h4.1, h4.2, by omega, by omega, by omega, by omega, by omega, by omega, qob.1 h⟩
  · rintro ⟨h1, h2, h3, h4, h5, h6, h7, h8, h9, h10, h11, h12⟩
    unfold qnw
    rw [if_neg (by omega), if_neg (by omega), if_neg (fun h => h.2 (h3 h.1)), if_neg (by simp [qpc, h4, h5]), if_neg (by omega), if_neg (by omega)]
    exact qob.2 h12
theorem rightR.err {x : Remote} (h : rightR x) : qnw x = 0 := qxj.2 h
theorem pktOk.mono {ns nt ns' nt' : Nat} {p : Packet} (h : pktOk ns nt p) (h1 : ns ≤ ns') (h2 : nt ≤ nt') : pktOk ns' nt' p := by
  unfold pktOk at h ⊢
  omega
theorem qv8 : ∀ {l : List Entry} {i : Nat}, qo8 i l = true → i ≤ 82 → l.length + i ≤ 82
  | [], i, _, h => by simpa using h
  | e :: l, i, h, hi => by
    simp only [qo8, Bool.and_eq_true, decide_eq_true_eq] at h
    have := qv8 h.2 (by omega)
    simp only [List.length_cons]; omega
theorem qny {l : List Entry} (h : qlw l = true) : l.length ≤ 82 := qv8 h (by omega)
theorem nc0 : ((0 : Nat) : Int) = 0 := rfl
theorem nc1 : ((1 : Nat) : Int) = 1 := rfl
theorem nc2 : ((2 : Nat) : Int) = 2 := rfl
end Go.Ev

namespace Go.Ev
theorem qbkh (B : Nat) : ∃ p : (Nat → Nat) × (Nat → Option Nat), (∀ k, B ≤ p.1 k) ∧ (∀ k, p.2 (p.1 k) = some k) ∧ ∀ i k, p.2 i = some k → i = p.1 k := by
  refine ⟨(fun k => k + B, fun i => if B ≤ i then some (i - B) else none), fun k => Nat.le_add_left _ _, fun k => ?_, fun i k h => ?_⟩
  · show (if _ then _ else _) = _
    rw [if_pos (Nat.le_add_left _ _), Nat.add_sub_cancel]
  · have h : (if B ≤ i then some (i - B) else none) = some k := h
    show i = k + B
    split at h
    · cases h; omega
    · cases h
theorem qqk : ∃ p : (Nat → Nat) × (Nat → Option Nat), (∀ k, 1000000 ≤ p.1 k) ∧ (∀ k, p.2 (p.1 k) = some k) ∧ ∀ i k, p.2 i = some k → i = p.1 k := qbkh 1000000
noncomputable def fnm : Nat → Nat := (Classical.choose qqk).1
noncomputable def finv : Nat → Option Nat := (Classical.choose qqk).2
theorem qyq (k : Nat) : 1000000 ≤ fnm k := (Classical.choose_spec qqk).1 k
theorem qpd (k : Nat) : finv (fnm k) = some k := (Classical.choose_spec qqk).2.1 k
theorem qyr {i k : Nat} (h : finv i = some k) : i = fnm k := (Classical.choose_spec qqk).2.2 i k h
theorem qey {j k : Nat} : (fnm j = fnm k) = (j = k) := by
  refine propext ⟨fun h => ?_, fun h => by rw [h]⟩
  have := qpd j
  rw [h, qpd] at this
  exact (Option.some.inj this).symm
theorem qfi {i k : Nat} (h : i < 1000000) : (i = fnm k) = False := by
  refine propext ⟨fun e => ?_, False.elim⟩
  have := qyq k
  omega
theorem qeh {i k : Nat} (h : i < 1000000) : (fnm k = i) = False := by
  refine propext ⟨fun e => ?_, False.elim⟩
  have := qyq k
  omega
noncomputable def famF (t : TypeId) : Nat → List (List D) → List (Nat × HS)
  | _, [] => []
  | k, c :: r => (fnm k, .live (.box t (c.map .d))) :: famF t (k + 1) r
noncomputable def fam (t : TypeId) (cs : List (List D)) : List (Nat × HS) := famF t 0 cs
noncomputable def ptrs (n : Nat) : List V := (List.range n).map fun k => .ptr (fnm k) 0
theorem qv9 {t : TypeId} : ∀ {cs : List (List D)} {j k : Nat}, aget (famF t j cs) (fnm k) = if j ≤ k then (cs[k - j]?).map fun c => HS.live (.box t (c.map .d)) else none
  | [], j, k => by simp [famF, aget]
  | c :: r, j, k => by
    simp only [famF, aget, qey]
    by_cases e : k = j
    · subst e; simp
    · rw [if_neg e, qv9]
      by_cases h : j ≤ k
      · rw [if_pos h, if_pos (by omega), show k - j = (k - (j + 1)) + 1 by omega, List.getElem?_cons_succ]
      · rw [if_neg h, if_neg (by omega)]
theorem qm9 {t : TypeId} {i : Nat} (h : ∀ k, i ≠ fnm k) : ∀ {cs : List (List D)} {j : Nat}, aget (famF t j cs) i = none
  | [], j => rfl
  | c :: r, j => by
    simp only [famF, aget]
    rw [if_neg (h j), qm9 h]
theorem qys {t : TypeId} {i : Nat} (h : i < 1000000) {cs : List (List D)} {j : Nat} : aget (famF t j cs) i = none :=
  qm9 fun k e => by have := qyq k; omega
theorem qkc {t : TypeId} {cs : List (List D)} {k : Nat} : aget (fam t cs) (fnm k) = (cs[k]?).map fun c => HS.live (.box t (c.map .d)) := by
  unfold fam; rw [qv9]; simp
theorem q17 {t : TypeId} {cs : List (List D)} {i : Nat} (h : i < 1000000) : aget (fam t cs) i = none := qys h
theorem qbc4 {n k : Nat} (h : k < n) : (ptrs n).getD k (.d .np) = .ptr (fnm k) 0 := by
  simp [ptrs, List.getD, h]
theorem qbgt {ρ : Nat → Option Nat} {nf : Nat → Prop} : ∀ (l : List D), vss ρ nf (l.map .d) (l.map .d)
  | [] => trivial
  | d :: l => by
    simp only [List.map_cons, vss, vs]
    exact ⟨q01 d, qbgt l⟩
theorem q3d {ρ : Nat → Option Nat} {nf : Nat → Prop} {f g : Nat → Nat} : ∀ (l : List Nat), (∀ k ∈ l, ρ (g k) = some (f k) ∧ nf (g k)) → vss ρ nf (l.map fun k => .ptr (f k) 0) (l.map fun k => .ptr (g k) 0)
  | [], _ => trivial
  | k :: l, h => by
    simp only [List.map_cons, vss, vs]
    exact ⟨⟨_, rfl, h k (by simp)⟩, q3d l fun j hj => h j (by simp [hj])⟩
theorem qu4 {C : Cfg} {M T t : Nat} (hM : M < 1000000) (hp0 : C.pins = []) {sl sl' : List (Nat × V)} {hp : List (Nat × HS)} {ks : List D} {cs : List (List D)} (r : Nat → Nat)
    (hmap : aget hp M = some (.live (.mp T ks ((List.range cs.length).map fun k => .ptr (r k) 0))))
    (hbox : ∀ k c, cs[k]? = some c → aget hp (r k) = some (.live (.box t (c.map .d))))
    (hr : ∀ k k', k < cs.length → k' < cs.length → r k = r k' → k = k') (hrM : ∀ k, k < cs.length → r k ≠ M)
    (hs : ∀ (ρ : Nat → Option Nat) (nf : Nat → Prop), ρ M = some M → nf M → qio ρ nf sl sl') :
    Sub C (mkS sl hp) (mkS sl' ((M, .live (.mp T ks (ptrs cs.length))) :: fam t cs)) := by
  let ρ : Nat → Option Nat := fun i => if i = M then some M else match finv i with | some k => if k < cs.length then some (r k) else none | none => none
  have e1 : ρ M = some M := if_pos rfl
  have e2 : ∀ k, k < cs.length → ρ (fnm k) = some (r k) := fun k hk => by
    show (if _ then _ else match finv (fnm k) with | some k => if k < cs.length then some (r k) else none | none => none) = _
    rw [if_neg (by rw [qeh hM]; exact id), qpd]
    exact if_pos hk
  have hp1 : ∀ k, k < cs.length → ∃ c, cs[k]? = some c ∧ (mkS sl' ((M, .live (.mp T ks (ptrs cs.length))) :: fam t cs)).hp (fnm k) = .live (.box t (c.map .d)) := fun k hk => by
    refine ⟨cs[k], by simp [hk], ?_⟩
    show (aget _ _).getD HS.free = _
    simp only [aget, qeh hM, if_false]
    rw [qkc]; simp [hk]
  have hpM : (mkS sl' ((M, .live (.mp T ks (ptrs cs.length))) :: fam t cs)).hp M = .live (.mp T ks (ptrs cs.length)) := by
    show (aget _ _).getD HS.free = _
    simp [aget]
  have nfM : Nf (mkS sl' ((M, .live (.mp T ks (ptrs cs.length))) :: fam t cs)).hp M := by unfold Nf; rw [hpM]; rfl
  have nfk : ∀ k, k < cs.length → Nf (mkS sl' ((M, .live (.mp T ks (ptrs cs.length))) :: fam t cs)).hp (fnm k) := fun k hk => by
    obtain ⟨c, _, h⟩ := hp1 k hk
    unfold Nf; rw [h]; rfl
  refine SubBy.sub (ρ := ρ) ⟨fun i y hy => ?_, fun i o' ho' => ?_, fun i j a hi hj => ?_⟩ (by rw [hp0]; intro p hp; cases hp)
  · exact qqg (hs ρ _ e1 nfM) (qin hy)
  · by_cases e : i = M
    · subst e
      rw [hpM] at ho' ⊢
      cases ho'
      refine .inl ⟨i, _, e1, by show ((aget hp i).getD HS.free).obj? = _; rw [hmap]; rfl, ?_, fun _ => by show ((aget hp i).getD HS.free).isLive = true; rw [hmap]; rfl⟩
      simp only [os]
      exact ⟨trivial, q0p _, q3d _ fun k hk => ⟨e2 k (by simpa using hk), nfk k (by simpa using hk)⟩⟩
    · have hno : (∀ k, k < cs.length → i ≠ fnm k) → False := fun h => by
        have hf : (mkS sl' ((M, .live (.mp T ks (ptrs cs.length))) :: fam t cs)).hp i = .free := by
          show (aget _ _).getD HS.free = _
          simp only [aget]
          rw [if_neg e]
          cases hv : finv i with
          | none => rw [show aget (fam t cs) i = none from qm9 fun k e => by rw [e, qpd] at hv; cases hv]; rfl
          | some k =>
            have := qyr hv
            subst this
            rw [qkc, List.getElem?_eq_none (Nat.le_of_not_lt fun hl => h k hl rfl)]; rfl
        rw [hf] at ho'; cases ho'
      by_cases h : ∃ k, k < cs.length ∧ i = fnm k
      · obtain ⟨k, hk, rfl⟩ := h
        obtain ⟨c, hc, hh⟩ := hp1 k hk
        rw [hh] at ho' ⊢
        cases ho'
        have hb := hbox k c hc
        refine .inl ⟨r k, _, e2 k hk, by show ((aget hp (r k)).getD HS.free).obj? = _; rw [hb]; rfl, ?_, fun _ => by show ((aget hp (r k)).getD HS.free).isLive = true; rw [hb]; rfl⟩
        simp only [os]
        exact ⟨trivial, qbgt c⟩
      · exact (hno fun k hk e => h ⟨k, hk, e⟩).elim
  · have inv : ∀ i, ρ i = some a → (i = M ∧ a = M) ∨ ∃ k, k < cs.length ∧ i = fnm k ∧ a = r k := fun i hi => by
      have hi : (if i = M then some M else match finv i with | some k => if k < cs.length then some (r k) else none | none => none) = some a := hi
      split at hi
      · cases hi; exact .inl ⟨‹_›, rfl⟩
      · split at hi
        · rename_i k hk
          split at hi
          · cases hi; exact .inr ⟨k, ‹_›, qyr hk, rfl⟩
          · cases hi
        · cases hi
    rcases inv i hi with ⟨h1, h2⟩ | ⟨k, h1, h2, h3⟩ <;> rcases inv j hj with ⟨g1, g2⟩ | ⟨k', g1, g2, g3⟩
    · omega
    · exact absurd (g3.symm.trans h2) (hrM k' g1)
    · exact absurd (h3.symm.trans g2) (hrM k h1)
    · have := hr k k' h1 g1 (h3.symm.trans g3); rw [h2, g2, this]
theorem qbc5 {s : St} {t : TypeId} {cs : List (List D)} (hs : ∀ k c, cs[k]? = some c → s.hp (fnm k) = .live (.box t (c.map .d))) :
    toDs (toD2 s) (ptrs cs.length) = some (cs.map .cp, (List.range cs.length).map fnm) := by
  have one : ∀ (c : List D), toDs (toD1 s) (c.map .d) = some (c, []) := fun c => by
    induction c with
    | nil => rfl
    | cons d c ih => simp [toDs, toD1, ih]
  have key : ∀ n j, (∀ k, j ≤ k → k < j + n → k < cs.length) → toDs (toD2 s) ((List.range' j n).map fun k => .ptr (fnm k) 0) = some (((cs.drop j).take n).map .cp, (List.range' j n).map fnm) := fun n => by
    induction n with
    | zero => intro j _; simp [toDs]
    | succ n ih =>
      intro j h
      have hj := h j (by omega) (by omega)
      have hc : cs[j]? = some cs[j] := by simp [hj]
      have h2 : toD2 s (.ptr (fnm j) 0) = some (.cp cs[j], [fnm j]) := by
        simp only [toD2, qha, hs j _ hc]
        rw [one]; rfl
      rw [List.range'_succ, List.map_cons, toDs, h2, ih (j + 1) fun k h1 h2 => h k (by omega) (by omega)]
      rw [List.drop_eq_getElem_cons hj]
      rfl
  have := key cs.length 0 fun k _ h => by omega
  rw [ptrs, List.range_eq_range', this]
  simp
end Go.Ev

namespace Go.Ev
def qdf (u : AUnit) : List D := [.i .i64 u.unit, .i .i64 u.first, .i .i64 u.last, .i .i64 u.state]
def keyU (u : AUnit) : D := .i .i64 u.unit
def uidx (us : List AUnit) (n : Int) : Option Nat := us.findIdx? (·.unit == n)
def uEnd (e : Entry) (u : AUnit) : AUnit := { u with last := e.number, state := if e.kind = 2 then 0 else if e.kind = 3 then 1 else u.state }
def qh9 (us : List AUnit) (e : Entry) : List AUnit :=
  if e.kind = 1 then us ++ [⟨e.unit, e.number, e.number, 2⟩]
  else if e.kind = 2 ∨ e.kind = 3 ∨ (e.kind = 0 ∧ e.unit ≠ 0) then match uidx us e.unit with
    | some k => us.modify k (uEnd e)
    | none => us
  else us
def qbs (l : List Entry) : List AUnit := l.foldl qh9 []
theorem qky (l : List Entry) (e : Entry) : qbs (l ++ [e]) = qh9 (qbs l) e := by simp [qbs]
theorem qeo {l : List Entry} {i : Nat} (h : i < l.length) : qbs (l.take (i + 1)) = qh9 (qbs (l.take i)) (l.getD i q0q) := by
  rw [qdy q0q h, qky]
theorem qyt (us : List AUnit) (n : Int) : qer (us.map keyU) (.i .i64 n) = uidx us n := by
  unfold uidx
  induction us with
  | nil => rfl
  | cons u us ih =>
    simp only [List.map_cons, qer, keyU, kEq, List.findIdx?_cons]
    by_cases e : (u.unit == n) = true
    · simp [e]
    · simp only [e]
      rw [if_neg (by simp), ih]
      simp
def UInv (us : List AUnit) (b : List Entry) : Prop := ∀ n, begins b n = (uidx us n).isSome ∧ (begins b n = false → qfn b n = none) ∧ ∀ k u, uidx us n = some k → us[k]? = some u → (u.state = 2 ↔ qfn b n = none)
theorem qhv {us : List AUnit} {n : Int} {k : Nat} (h : uidx us n = some k) : ∃ u, us[k]? = some u ∧ u.unit = n ∧ k < us.length := by
  unfold uidx at h
  rw [List.findIdx?_eq_some_iff_getElem] at h
  obtain ⟨h1, h2, _⟩ := h
  exact ⟨us[k], by simp [h1], by simpa using h2, h1⟩
theorem qpe {b : List Entry} {n : Int} : ends b n = -1 ↔ qfn b n = none := by
  unfold ends
  cases h : qfn b n with
  | none => simp
  | some e =>
    have := List.find?_some h
    simp only [pEnd, Bool.and_eq_true, Bool.or_eq_true, beq_iff_eq] at this
    simp only [reduceCtorEq, iff_false]
    omega
theorem qmo {b : List Entry} {n : Int} : isOpen b n = true ↔ begins b n = true ∧ qfn b n = none := by
  unfold isOpen
  rw [Bool.and_eq_true, beq_iff_eq, qpe]
theorem UInv.nil : UInv [] [] := fun n => ⟨rfl, fun _ => rfl, fun k u h => by cases h⟩
theorem UInv.isOpen {us : List AUnit} {b : List Entry} (h : UInv us b) (n : Int) : isOpen b n = match uidx us n with | some k => decide ((us.getD k ⟨0, 0, 0, 0⟩).state = 2) | none => false := by
  obtain ⟨h1, h2, h3⟩ := h n
  rw [Bool.eq_iff_iff, qmo, h1]
  cases hu : uidx us n with
  | none => simp
  | some k =>
    obtain ⟨u, hk, _, hl⟩ := qhv hu
    simp [← h3 k u hu hk, List.getD, hk]
theorem UInv.begins {us : List AUnit} {b : List Entry} (h : UInv us b) (n : Int) : begins b n = (uidx us n).isSome := (h n).1
theorem q18 (b : List Entry) (e : Entry) (n : Int) : begins (b ++ [e]) n = (begins b n || qkx n e) := by simp [Go.Ev.begins]
theorem q8x (b : List Entry) (e : Entry) (n : Int) : qfn (b ++ [e]) n = none ↔ qfn b n = none ∧ pEnd n e = false := by
  simp [qfn, List.find?_append, List.find?_cons]
  cases pEnd n e <;> simp
theorem q19 (us : List AUnit) (k : Nat) (e : Entry) (n : Int) : uidx (us.modify k (uEnd e)) n = uidx us n := by
  unfold uidx
  induction us generalizing k with
  | nil => simp
  | cons u us ih =>
    cases k with
    | zero => simp [List.findIdx?_cons, uEnd]
    | succ k => simp only [List.modify_succ_cons, List.findIdx?_cons]; rw [ih]
theorem UInv.step {us : List AUnit} {b : List Entry} {e : Entry} (h : UInv us b) (h0 : qen b e = 0) : UInv (qh9 us e) (b ++ [e]) := by
  intro n
  obtain ⟨h1, h2, h3⟩ := h n
  rw [q18, q8x]
  unfold qen at h0
  unfold qh9
  by_cases k1 : e.kind = 1
  · rw [if_pos k1] at h0 ⊢
    have hb : Go.Ev.begins b e.unit = false := by
      split at h0
      · cases h0
      · split at h0
        · cases h0
        · simpa using ‹¬Go.Ev.begins b e.unit = true›
    have hu : uidx us e.unit = none := by
      have := (h e.unit).1
      rw [hb] at this
      cases hx : uidx us e.unit with
      | none => rfl
      | some _ => rw [hx] at this; cases this
    have hp : pEnd n e = false := by simp [pEnd, k1]
    have ha : uidx (us ++ [⟨e.unit, e.number, e.number, 2⟩]) n = (uidx us n <|> if e.unit = n then some us.length else none) := by
      unfold uidx
      rw [List.findIdx?_append]
      by_cases en : e.unit = n
      · simp [en, List.findIdx?_cons]
      · simp [en, List.findIdx?_cons]
    rw [ha]
    by_cases en : e.unit = n
    · subst en
      rw [hu]
      simp only [hb, qkx, k1, hp, if_pos, Option.isSome_some, Bool.false_or, beq_self_eq_true, Bool.and_self, true_and, and_true]
      refine ⟨rfl, fun hf => by simp at hf, fun k u hk hu2 => ?_⟩
      rw [show (none <|> some us.length : Option Nat) = some us.length from rfl] at hk
      cases hk
      rw [List.getElem?_append_right (Nat.le_refl _)] at hu2
      simp at hu2
      subst hu2
      simp [h2 (by rw [hb])] <;> first | exact (h e.unit).2.1 hb | skip
    · simp only [en, if_false, qkx, hp]
      rw [show (uidx us n <|> none) = uidx us n by cases uidx us n <;> rfl]
      have en2 : (e.unit == n) = false := by simpa using en
      simp only [en2, Bool.and_false, Bool.or_false, and_true]
      refine ⟨h1, h2, fun k u hk hu2 => ?_⟩
      obtain ⟨_, _, _, hl⟩ := qhv hk
      rw [List.getElem?_append_left hl] at hu2
      exact h3 k u hk hu2
  · rw [if_neg k1] at h0 ⊢
    have hpb : qkx n e = false := by simp [qkx, k1]
    rw [hpb, Bool.or_false]
    by_cases k2 : e.kind = 2 ∨ e.kind = 3 ∨ (e.kind = 0 ∧ e.unit ≠ 0)
    · rw [if_pos k2]
      have ho : Go.Ev.isOpen b e.unit = true := by
        rcases k2 with k2 | k2 | k2
        · rw [if_pos (.inl k2)] at h0; split at h0; assumption; cases h0
        · rw [if_pos (.inr k2)] at h0; split at h0; assumption; cases h0
        · rw [if_neg (by omega), if_pos k2.1] at h0
          split at h0
          · cases h0
          · rename_i hh; cases hx : Go.Ev.isOpen b e.unit with
            | true => rfl
            | false => exact absurd ⟨k2.2, hx⟩ hh
      rw [qmo] at ho
      obtain ⟨g1, g2, g3⟩ := h e.unit
      rw [ho.1] at g1
      obtain ⟨k, hk⟩ := Option.isSome_iff_exists.1 g1.symm
      simp only [hk]
      rw [q19]
      refine ⟨h1, fun hb => ⟨h2 hb, ?_⟩, fun k' u hk' hu => ?_⟩
      · by_cases en : e.unit = n
        · subst en; rw [ho.1] at hb; cases hb
        · have en2 : (e.unit == n) = false := by simpa using en
          simp [pEnd, en2]
      · rw [List.getElem?_modify] at hu
        by_cases en : e.unit = n
        · subst en
          rw [hk] at hk'; cases hk'
          obtain ⟨v, hv, _, _⟩ := qhv hk
          rw [hv] at hu
          simp at hu
          subst hu
          have := g3 k v hk hv
          simp only [uEnd, pEnd]
          rcases k2 with k2 | k2 | k2
          · simp [k2]
          · simp [k2]
          · simp [k2.1, this]
        · have en2 : (e.unit == n) = false := by simpa using en
          have hne : k ≠ k' := by
            intro he; subst he
            obtain ⟨v, hv, q1, _⟩ := qhv hk
            obtain ⟨v', hv', q2, _⟩ := qhv hk'
            rw [hv] at hv'; cases hv'; exact en (q1.symm.trans q2)
          have := h3 k' u hk' (by simpa [hne] using hu)
          rw [this]
          simp [pEnd, en2]
    · rw [if_neg k2]
      have hp : pEnd n e = false := by
        simp only [not_or] at k2
        simp [pEnd, k2.1, k2.2.1]
      rw [hp]
      simp only [and_true]
      exact ⟨h1, h2, h3⟩
theorem qkz {us : List AUnit} {e : Entry} (h1 : ¬e.kind = 1) (h2 : ¬(e.kind = 2 ∨ e.kind = 3 ∨ (e.kind = 0 ∧ e.unit ≠ 0))) : qh9 us e = us := by
  rw [qh9, if_neg h1, if_neg h2]
theorem ql9 {us : List AUnit} {e : Entry} (h1 : e.kind = 1) : qh9 us e = us ++ [⟨e.unit, e.number, e.number, 2⟩] := by rw [qh9, if_pos h1]
theorem qnz {us : List AUnit} {e : Entry} {k : Nat} {u : AUnit} (h1 : ¬e.kind = 1) (h2 : e.kind = 2 ∨ e.kind = 3 ∨ (e.kind = 0 ∧ e.unit ≠ 0)) (h3 : uidx us e.unit = some k) (h4 : us[k]? = some u) : qh9 us e = us.set k (uEnd e u) := by
  rw [qh9, if_neg h1, if_pos h2, h3]
  simp only
  apply List.ext_getElem?
  intro j
  rw [List.getElem?_modify, List.getElem?_set]
  have hk := (List.getElem?_eq_some_iff.1 h4).1
  by_cases e : k = j
  · subst e
    have : us[k] = u := by rw [List.getElem?_eq_getElem hk] at h4; exact Option.some.inj h4
    simp [hk, this]
  · simp [e]
section
variable {C : Cfg} {M T t : Nat} {sl sl' : List (Nat × V)} {hp : List (Nat × HS)} {us us' : List AUnit}
theorem qwa (hM : M < 1000000) (hp0 : C.pins = []) (hmap : aget hp M = some (.live (.mp T (us.map keyU) (ptrs us.length)))) (hf : ∀ j, aget hp (fnm j) = aget (fam t (us.map qdf)) (fnm j))
    (hs : ∀ (ρ : Nat → Option Nat) (nf : Nat → Prop), ρ M = some M → nf M → qio ρ nf sl sl') (hu : us' = us) :
    Sub C (mkS sl hp) (mkS sl' ((M, .live (.mp T (us'.map keyU) (ptrs (us'.map qdf).length))) :: fam t (us'.map qdf))) := by
  subst hu
  exact qu4 hM hp0 fnm (by rw [hmap, List.length_map]; rfl) (fun k c hc => by rw [hf, qkc, hc]; rfl) (fun k k' _ _ h => by rwa [qey] at h) (fun k _ h => by rwa [qeh hM] at h) hs
theorem qbc6 (hM : M < 1000000) (hp0 : C.pins = []) {b : Nat} {u : AUnit} (hb : b < 1000000) (hbM : b ≠ M) (hmap : aget hp M = some (.live (.mp T (us.map keyU ++ [.i .i64 u.unit]) (ptrs us.length ++ [.ptr b 0]))))
    (hbox : aget hp b = some (.live (.box t [.d (.i .i64 u.unit), .d (.i .i64 u.first), .d (.i .i64 u.last), .d (.i .i64 u.state)])))
    (hf : ∀ j, aget hp (fnm j) = aget (fam t (us.map qdf)) (fnm j))
    (hs : ∀ (ρ : Nat → Option Nat) (nf : Nat → Prop), ρ M = some M → nf M → qio ρ nf sl sl') (hu : us' = us ++ [u]) :
    Sub C (mkS sl hp) (mkS sl' ((M, .live (.mp T (us'.map keyU) (ptrs (us'.map qdf).length))) :: fam t (us'.map qdf))) := by
  subst hu
  have hl : ((us ++ [u]).map qdf).length = us.length + 1 := by simp
  refine qu4 hM hp0 (fun k => if k = us.length then b else fnm k) ?_ (fun k c hc => ?_) (fun k k' _ _ h => ?_) (fun k _ h => ?_) hs
  · rw [hmap, hl, List.range_succ, List.map_append, List.map_append, ptrs]
    simp only [List.map_cons, List.map_nil, if_true, keyU]
    congr 3
    congr 1
    refine List.map_congr_left fun k hk => ?_
    rw [if_neg (by have := List.mem_range.1 hk; omega)]
  · (try dsimp only)
    by_cases e : k = us.length
    · subst e
      rw [if_pos rfl, hbox]
      rw [List.getElem?_map, List.getElem?_append_right (Nat.le_refl _)] at hc
      simp at hc
      subst hc
      rfl
    · have hk := (List.getElem?_eq_some_iff.1 hc).1
      rw [if_neg e, hf, qkc]
      rw [hl] at hk
      rw [List.getElem?_map, List.getElem?_append_left (by omega), ← List.getElem?_map] at hc
      rw [hc]; rfl
  · (try dsimp only at h)
    split at h <;> split at h
    · omega
    · rw [qfi hb] at h; exact h.elim
    · rw [qeh hb] at h; exact h.elim
    · rwa [qey] at h
  · (try dsimp only at h)
    split at h
    · exact hbM h
    · rwa [qeh hM] at h
theorem qbc7 (hM : M < 1000000) (hp0 : C.pins = []) {k : Nat} {u u' : AUnit} (hk : us[k]? = some u) (hmap : aget hp M = some (.live (.mp T (us.map keyU) (ptrs us.length))))
    (hbox : aget hp (fnm k) = some (.live (.box t [.d (.i .i64 u'.unit), .d (.i .i64 u'.first), .d (.i .i64 u'.last), .d (.i .i64 u'.state)]))) (hku : u'.unit = u.unit)
    (hf : ∀ j, j ≠ k → aget hp (fnm j) = aget (fam t (us.map qdf)) (fnm j))
    (hs : ∀ (ρ : Nat → Option Nat) (nf : Nat → Prop), ρ M = some M → nf M → qio ρ nf sl sl') (hu : us' = us.set k u') :
    Sub C (mkS sl hp) (mkS sl' ((M, .live (.mp T (us'.map keyU) (ptrs (us'.map qdf).length))) :: fam t (us'.map qdf))) := by
  subst hu
  have hlt := (List.getElem?_eq_some_iff.1 hk).1
  have hkeys : (us.set k u').map keyU = us.map keyU := by
    apply List.ext_getElem?
    intro j
    rw [List.getElem?_map, List.getElem?_map, List.getElem?_set]
    by_cases e : k = j
    · subst e; simp [hlt]
      have : us[k] = u := by rw [List.getElem?_eq_getElem hlt] at hk; exact Option.some.inj hk
      rw [this]; simp [keyU, hku]
    · simp [e]
  refine qu4 hM hp0 fnm (by rw [hmap, hkeys, List.length_map, List.length_set]; rfl) (fun j c hc => ?_) (fun k k' _ _ h => by rwa [qey] at h) (fun k _ h => by rwa [qeh hM] at h) hs
  · (try dsimp only)
    rw [List.getElem?_map, List.getElem?_set] at hc
    by_cases e : k = j
    · subst e
      simp [hlt] at hc
      subst hc
      rw [hbox]; rfl
    · rw [if_neg e] at hc
      rw [hf j (fun h => e h.symm), qkc, List.getElem?_map, hc]; rfl
theorem qbki {k : Nat} {u : AUnit} (h : us[k]? = some u) : aget (fam t (us.map qdf)) (fnm k) = some (.live (.box t [.d (.i .i64 u.unit), .d (.i .i64 u.first), .d (.i .i64 u.last), .d (.i .i64 u.state)])) := by
  rw [qkc, List.getElem?_map, h]; rfl
theorem qbo9 {sl : List (Nat × V)} {h : HS} (hM : M < 1000000) : toDs (toD2 (mkS sl ((M, h) :: fam t (us.map qdf)))) (ptrs us.length) = some (us.map fun u => .cp (qdf u), (List.range us.length).map fnm) := by
  have := qbc5 (s := mkS sl ((M, h) :: fam t (us.map qdf))) (t := t) (cs := us.map qdf) (fun k c hc => by
    show (aget _ _).getD HS.free = _
    simp only [aget]
    simp only [qeh hM, if_false]
    rw [qkc, hc]; rfl)
  rw [List.length_map] at this
  rw [this, List.map_map]
  rfl
end
def qek (l : List Entry) : List AUnit := if (qbc l).2 = 0 then qbs l else []
theorem UInv.next {l : List Entry} {i : Nat} (h : UInv (qbs (l.take i)) (l.take i)) (hi : i < l.length) (h0 : qen (l.take i) (l.getD i q0q) = 0) : UInv (qbs (l.take (i + 1))) (l.take (i + 1)) := by
  rw [qeo hi, qdy q0q hi]
  exact h.step h0
theorem qip {l : List Entry} (h : (qbc l).2 ≠ 0) : qek l = [] := by rw [qek, if_neg h]
theorem qko {l : List Entry} (h : (qbc l).2 = 0) : qek l = qbs l := by rw [qek, if_pos h]
theorem qr8 {l : List Entry} (h : 80 < l.length) : qbc l = (0, 2) := by rw [qbc, if_pos h]
theorem qbc8 {l : List Entry} (h : l.length ≤ 80) : qd8 l (l.length - 0) 0 = qbc l := by rw [qbc, if_neg (by omega)]; rfl
section
variable {l : List Entry} {i : Nat}
theorem qtp (h : qd8 l (l.length - i) i = qbc l) (hi : i < l.length) (h1 : ¬qc3 (l.getD i q0q) = 0) : qbc l = ((i : Int), qc3 (l.getD i q0q)) := by
  rw [← h, qhf hi, if_pos h1]
theorem qtq (h : qd8 l (l.length - i) i = qbc l) (hi : i < l.length) (h1 : qc3 (l.getD i q0q) = 0) (h2 : 0 < (i : Int) ∧ ¬(l.getD i q0q).number = IntKind.i64.wrap ((l.getD ((i : Int) - 1).toNat q0q).number + 1)) : qbc l = ((i : Int), 14) := by
  rw [← h, qhf hi, if_neg (fun e => e h1), if_pos ⟨by omega, h2.2⟩]
theorem qr9 (h : qd8 l (l.length - i) i = qbc l) (hi : i < l.length) (h1 : qc3 (l.getD i q0q) = 0) (h2 : (i : Int) ≤ 0 ∨ (l.getD i q0q).number = IntKind.i64.wrap ((l.getD ((i : Int) - 1).toNat q0q).number + 1)) {s : Int} (h3 : qen (l.take i) (l.getD i q0q) = s) :
    if s = 0 then qd8 l (l.length - (i + 1)) (i + 1) = qbc l else qbc l = ((i : Int), s) := by
  rw [qhf hi, if_neg (fun e => e h1), if_neg (by omega)] at h
  subst h3
  split
  · rename_i e
    rwa [if_neg (fun e' => e' e)] at h
  · rename_i e
    rw [if_pos e] at h
    exact h.symm
def stU (us : List AUnit) (e : Entry) : Int :=
  if e.kind = 1 then match uidx us e.unit with
    | some k => if (us.getD k ⟨0, 0, 0, 0⟩).state = 2 then 26 else 13
    | none => 0
  else if e.kind = 2 ∨ e.kind = 3 ∨ (e.kind = 0 ∧ e.unit ≠ 0) then match uidx us e.unit with
    | some k => if (us.getD k ⟨0, 0, 0, 0⟩).state = 2 then 0 else 26
    | none => 26
  else 0
theorem UInv.st {us : List AUnit} {b : List Entry} (h : UInv us b) (e : Entry) : qen b e = stU us e := by
  unfold qen stU
  rw [h.isOpen, h.begins]
  by_cases k1 : e.kind = 1
  · simp only [k1, if_true]
    cases uidx us e.unit <;> simp
  · simp only [k1, if_false]
    by_cases k2 : e.kind = 2 ∨ e.kind = 3
    · rw [if_pos k2, if_pos (show e.kind = 2 ∨ e.kind = 3 ∨ e.kind = 0 ∧ e.unit ≠ 0 by omega)]
      cases uidx us e.unit <;> simp
    · rw [if_neg k2]
      by_cases k0 : e.kind = 0
      · rw [if_pos k0]
        by_cases u0 : e.unit = 0
        · rw [if_neg (by rintro ⟨h, _⟩; exact h u0), if_neg (show ¬(e.kind = 2 ∨ e.kind = 3 ∨ e.kind = 0 ∧ e.unit ≠ 0) by omega)]
        · rw [if_pos (show e.kind = 2 ∨ e.kind = 3 ∨ e.kind = 0 ∧ e.unit ≠ 0 by omega)]
          cases uidx us e.unit <;> simp [u0]
      · rw [if_neg k0, if_neg (show ¬(e.kind = 2 ∨ e.kind = 3 ∨ e.kind = 0 ∧ e.unit ≠ 0) by omega)]
theorem qbc9 {us : List AUnit} {e : Entry} (h : uidx us e.unit = none) : stU us e = if e.kind = 1 then 0 else if e.kind = 2 ∨ e.kind = 3 ∨ (e.kind = 0 ∧ e.unit ≠ 0) then 26 else 0 := by
  unfold stU; rw [h]
theorem qbda {us : List AUnit} {e : Entry} {k : Nat} {u : AUnit} (h : uidx us e.unit = some k) (hu : us[k]? = some u) : stU us e = if e.kind = 1 then (if u.state = 2 then 26 else 13) else if e.kind = 2 ∨ e.kind = 3 ∨ (e.kind = 0 ∧ e.unit ≠ 0) then (if u.state = 2 then 0 else 26) else 0 := by
  unfold stU; rw [h]; simp [List.getD, hu]
end
end Go.Ev

namespace Go.Ev
def chk (l : List Entry) (j : Nat) : Prop := qc3 (l.getD j q0q) = 0 ∧ ¬(0 < j ∧ (l.getD j q0q).number ≠ IntKind.i64.wrap ((l.getD ((j : Int) - 1).toNat q0q).number + 1)) ∧ qen (l.take j) (l.getD j q0q) = 0
theorem qpv {l : List Entry} : ∀ (n i : Nat), (qd8 l n i).2 = 0 → ∀ j, i ≤ j → j < i + n → chk l j
  | 0, i, _, j, h1, h2 => by omega
  | n + 1, i, h, j, h1, h2 => by
    unfold qd8 at h
    split at h
    · exact absurd h ‹_›
    split at h
    · exact absurd h (show ¬((14 : Int) = 0) by decide)
    split at h
    · exact absurd h ‹_›
    by_cases e : j = i
    · subst e
      refine ⟨by omega, ‹_›, by omega⟩
    · exact qpv n (i + 1) h j (by omega) (by omega)
theorem qji {l : List Entry} (h : (qbc l).2 = 0) {j : Nat} (hj : j < l.length) : chk l j := by
  unfold qbc at h
  split at h
  · cases h
  · exact qpv _ 0 h j (by omega) (by omega)
end Go.Ev

namespace Go.Ev
def q4q (k : Int) : Int := if k = 2 then 0 else if k = 3 then 1 else 2
def qtr (u : Int) : List Entry → Int → Int
  | [], n => n
  | e :: r, n => qtr u r (if e.unit = u then e.number else n)
theorem qpf (u : Int) : ∀ (l : List Entry) (e : Entry) (n : Int), qtr u (l ++ [e]) n = if e.unit = u then e.number else qtr u l n
  | [], e, n => rfl
  | a :: l, e, n => qpf u l e _
def refU (l : List Entry) (i : Nat) : AUnit := ⟨(l.getD i q0q).unit, (l.getD i q0q).number, qtr (l.getD i q0q).unit (l.drop i) 0, q4q (ends l (l.getD i q0q).unit)⟩
def qj1 (l : List Entry) : Nat → List AUnit
  | 0 => []
  | i + 1 => if (l.getD i q0q).kind = 1 then qj1 l i ++ [refU l i] else qj1 l i
theorem qql {l : List Entry} {e : Entry} {i : Nat} (h : i < l.length) : (l ++ [e]).getD i q0q = l.getD i q0q := by rw [qnx, if_pos h]
theorem qna {l : List Entry} {e : Entry} : (l ++ [e]).getD l.length q0q = e := by rw [qnx, if_neg (by omega), if_pos rfl]
theorem qnb (b : List Entry) (e : Entry) (n : Int) : ends (b ++ [e]) n = if qfn b n = none then (if pEnd n e = true then e.kind else -1) else ends b n := by
  unfold ends qfn
  rw [List.find?_append]
  cases h : List.find? (pEnd n) b with
  | none =>
    simp only [Option.none_or, if_true, List.find?_cons, List.find?_nil]
    cases pEnd n e <;> simp
  | some x => simp
theorem q4r {b : List Entry} {n : Int} (h : qfn b n = none) : q4q (ends b n) = 2 := by rw [qpe.2 h]; rfl
def updU (e : Entry) (u : AUnit) : AUnit := if e.unit = u.unit then uEnd e u else u
theorem q8y {l : List Entry} {e : Entry} {i : Nat} (hi : i < l.length) (h : e.unit = (l.getD i q0q).unit → qfn l e.unit = none ∧ (e.kind = 2 ∨ e.kind = 3 ∨ e.kind = 0)) : refU (l ++ [e]) i = updU e (refU l i) := by
  unfold refU updU
  rw [qql hi]
  generalize hg : l.getD i q0q = b at h ⊢
  by_cases hu : e.unit = b.unit
  · obtain ⟨h1, h2⟩ := h hu
    rw [if_pos hu]
    unfold uEnd
    rw [AUnit.mk.injEq]
    refine ⟨rfl, rfl, ?_, ?_⟩
    · rw [List.drop_append_of_le_length (by omega), qpf, if_pos hu]
    · rw [hu] at h1
      simp only
      rw [qnb, if_pos h1, q4r h1]
      unfold pEnd
      rcases h2 with h2 | h2 | h2 <;> simp [h2, hu, q4q]
  · rw [if_neg hu]
    rw [AUnit.mk.injEq]
    refine ⟨rfl, rfl, ?_, ?_⟩
    · rw [List.drop_append_of_le_length (by omega), qpf, if_neg hu]
    · rw [qnb]
      have hp : pEnd b.unit e = false := by simp [pEnd, hu]
      rw [hp]
      split
      · rename_i h1; rw [if_neg (by simp), qpe.2 h1]
      · rfl
theorem qoc {l : List Entry} {e : Entry} (h : ∀ i, i < l.length → (l.getD i q0q).kind = 1 → e.unit = (l.getD i q0q).unit → qfn l e.unit = none ∧ (e.kind = 2 ∨ e.kind = 3 ∨ e.kind = 0)) :
    ∀ i, i ≤ l.length → qj1 (l ++ [e]) i = (qj1 l i).map (updU e)
  | 0, _ => rfl
  | i + 1, hi => by
    unfold qj1
    rw [qql (by omega)]
    split
    · rename_i hk
      rw [List.map_append, qoc h i (by omega), q8y (by omega) (h i (by omega) hk)]; rfl
    · exact qoc h i (by omega)
structure PInv (b : List Entry) : Prop where
  u : UInv (qbs b) b
  nd : ((qbs b).map (·.unit)).Nodup
  eq : qbs b = qj1 b b.length
  f : (qbs b).map (·.first) = (b.filter fun e => e.kind == 1).map (·.number)
  un : ∀ u ∈ qbs b, 1 ≤ u.unit
theorem PInv.nil : PInv [] := ⟨UInv.nil, by simp [qbs], rfl, rfl, fun u hu => by cases hu⟩
theorem qwb (e : Entry) (u : AUnit) : (updU e u).unit = u.unit := by unfold updU uEnd; split <;> rfl
theorem q4s (e : Entry) (u : AUnit) : (updU e u).first = u.first := by unfold updU uEnd; split <;> rfl
theorem q4t {us : List AUnit} {e : Entry} {k : Nat} (hn : (us.map (·.unit)).Nodup) (hk : uidx us e.unit = some k) : us.modify k (uEnd e) = us.map (updU e) := by
  obtain ⟨u, h1, h2, h3⟩ := qhv hk
  apply List.ext_getElem?
  intro j
  rw [List.getElem?_modify, List.getElem?_map]
  cases hj : us[j]? with
  | none => rfl
  | some v =>
    have hjl := (List.getElem?_eq_some_iff.1 hj).1
    simp only [Option.map_some, Option.map_eq_map]
    by_cases e1 : k = j
    · subst e1
      rw [h1] at hj; cases hj
      rw [if_pos rfl]
      unfold updU; rw [if_pos h2.symm]
    · rw [if_neg e1]
      unfold updU
      rw [if_neg (fun e2 => e1 ?_)]
      have ha : (us.map (·.unit))[k]? = some e.unit := by rw [List.getElem?_map, h1]; simp [h2]
      have hb : (us.map (·.unit))[j]? = some e.unit := by rw [List.getElem?_map, hj]; simp [e2]
      obtain ⟨ka, ea⟩ := List.getElem?_eq_some_iff.1 ha
      obtain ⟨kb, eb⟩ := List.getElem?_eq_some_iff.1 hb
      rcases Nat.lt_trichotomy k j with hh | hh | hh
      · exact absurd (ea.trans eb.symm) (List.pairwise_iff_getElem.1 hn k j ka kb hh)
      · exact hh
      · exact absurd (eb.trans ea.symm) (List.pairwise_iff_getElem.1 hn j k kb ka hh)
theorem qyu {l : List Entry} : ∀ {i : Nat} {j : Nat}, j < i → (l.getD j q0q).kind = 1 → refU l j ∈ qj1 l i
  | 0, j, h, _ => by omega
  | i + 1, j, h, hk => by
    unfold qj1
    by_cases e : j = i
    · subst e; rw [if_pos hk]; simp
    · have := qyu (l := l) (i := i) (j := j) (by omega) hk
      split
      · exact List.mem_append_left _ this
      · exact this
theorem q4u {e : Entry} (h : qc3 e = 0) : (e.kind = 1 ∨ e.kind = 2 ∨ e.kind = 3 → 1 ≤ e.unit) ∧ (e.kind ≠ 0 → e.kind ≠ 1 → e.kind ≠ 2 → e.kind ≠ 3 → e.unit = 0) ∧ (e.kind = 0 → 0 ≤ e.unit) := by
  unfold qc3 at h
  split at h
  · cases h
  split at h
  · cases h
  split at h
  · cases h
  split at h
  · cases h
  split at h
  · cases h
  rename_i h1 h2 h3 h4 h5
  rw [Decidable.not_not] at h5
  refine ⟨fun hk => by omega, fun k0 k1 k2 k3 => ?_, fun hk => by omega⟩
  unfold qlg at h5
  rw [if_neg k0, if_neg (by omega)] at h5
  split at h5
  · rw [← h5]
  · rw [← h5]
theorem PInv.step {b : List Entry} {e : Entry} (h : PInv b) (h1 : qc3 e = 0) (h2 : qen b e = 0) : PInv (b ++ [e]) := by
  have hu := h.u.step h2
  rw [← qky] at hu
  obtain ⟨q1, q2, q3⟩ := q4u h1
  have hlen : (b ++ [e]).length = b.length + 1 := by simp
  have hidx : ∀ i, i < b.length → (b.getD i q0q).kind = 1 → (uidx (qbs b) (b.getD i q0q).unit).isSome = true := fun i hi hk => by
    rw [← h.u.begins]
    exact qpb hi hk rfl
  have hsm : ∀ i, i < b.length → (b.getD i q0q).kind = 1 → 1 ≤ (b.getD i q0q).unit := fun i hi hk => by
    have := h.un (refU b i) (by rw [h.eq]; exact qyu hi hk)
    exact this
  have hno : e.kind = 1 → begins b e.unit = false := fun k1 => by
    unfold qen at h2
    rw [if_pos k1] at h2
    split at h2
    · cases h2
    split at h2
    · cases h2
    · simpa using ‹¬begins b e.unit = true›
  have hopen : (e.kind = 2 ∨ e.kind = 3 ∨ (e.kind = 0 ∧ e.unit ≠ 0)) → begins b e.unit = true ∧ qfn b e.unit = none := fun k2 => by
    rw [← qmo]
    unfold qen at h2
    rcases k2 with k2 | k2 | k2
    · rw [if_neg (by omega), if_pos (.inl k2)] at h2; split at h2; assumption; cases h2
    · rw [if_neg (by omega), if_pos (.inr k2)] at h2; split at h2; assumption; cases h2
    · rw [if_neg (by omega), if_neg (by omega), if_pos k2.1] at h2
      split at h2
      · cases h2
      · rename_i hh; cases hx : isOpen b e.unit with
        | true => rfl
        | false => exact absurd ⟨k2.2, hx⟩ hh
  have hcond : ∀ i, i < b.length → (b.getD i q0q).kind = 1 → e.unit = (b.getD i q0q).unit → qfn b e.unit = none ∧ (e.kind = 2 ∨ e.kind = 3 ∨ e.kind = 0) := fun i hi hk he => by
    have hb : begins b e.unit = true := qpb hi hk he.symm
    have h1u := hsm i hi hk
    by_cases k1 : e.kind = 1
    · rw [hno k1] at hb; cases hb
    by_cases k2 : e.kind = 2 ∨ e.kind = 3 ∨ (e.kind = 0 ∧ e.unit ≠ 0)
    · exact ⟨(hopen k2).2, by omega⟩
    · have := q2; omega
  have hrefs := qoc hcond b.length (Nat.le_refl _)
  by_cases k1 : e.kind = 1
  · have hz : qbs (b ++ [e]) = qbs b ++ [⟨e.unit, e.number, e.number, 2⟩] := by rw [qky, ql9 k1]
    have hb := hno k1
    have hen : qfn b e.unit = none := (h.u e.unit).2.1 hb
    have hin : ∀ u ∈ qbs b, e.unit ≠ u.unit := fun u hm he => by
      have : uidx (qbs b) e.unit = none := by
        have := (h.u e.unit).1
        rw [hb] at this
        cases hx : uidx (qbs b) e.unit with
        | none => rfl
        | some _ => rw [hx] at this; cases this
      unfold uidx at this
      rw [List.findIdx?_eq_none_iff] at this
      have := this u hm
      simp at this
      exact this he.symm
    refine ⟨hu, ?_, ?_, ?_, ?_⟩
    · rw [hz, List.map_append, List.nodup_append]
      refine ⟨h.nd, by simp, fun x hx y hy => ?_⟩
      simp at hy
      obtain ⟨u, hm, rfl⟩ := List.mem_map.1 hx
      rw [hy]
      exact fun he => hin u hm he.symm
    · rw [hlen]
      unfold qj1
      rw [qna, if_pos k1, hrefs, ← h.eq, hz]
      congr 1
      · have : (qbs b).map (updU e) = (qbs b).map id := List.map_congr_left fun u hm => by unfold updU; rw [if_neg (hin u hm)]; rfl
        rw [this, List.map_id]
      · unfold refU
        rw [qna]
        congr 1
        rw [AUnit.mk.injEq]
        refine ⟨rfl, rfl, ?_, ?_⟩
        · rw [List.drop_append_of_le_length (Nat.le_refl _), List.drop_length, List.nil_append]; simp [qtr]
        · rw [qnb, if_pos hen]
          have : pEnd e.unit e = false := by simp [pEnd, k1]
          rw [this]; rfl
    · rw [hz, List.map_append, h.f, List.filter_append, List.map_append]
      simp [k1]
    · rw [hz]
      intro u hm
      rw [List.mem_append, List.mem_singleton] at hm
      rcases hm with hm | rfl
      · exact h.un u hm
      · exact q1 (.inl k1)
  · have hf : ((b ++ [e]).filter fun e => e.kind == 1) = b.filter fun e => e.kind == 1 := by rw [List.filter_append]; simp [k1]
    have hz : qbs (b ++ [e]) = (qbs b).map (updU e) := by
      rw [qky]
      by_cases k2 : e.kind = 2 ∨ e.kind = 3 ∨ (e.kind = 0 ∧ e.unit ≠ 0)
      · unfold qh9
        rw [if_neg k1, if_pos k2]
        have := (h.u e.unit).1
        rw [(hopen k2).1] at this
        obtain ⟨k, hk⟩ := Option.isSome_iff_exists.1 this.symm
        rw [hk]
        exact q4t h.nd hk
      · rw [qkz k1 k2]
        have : (qbs b).map (updU e) = (qbs b).map id := List.map_congr_left fun u hm => by
          unfold updU
          have := h.un u hm
          rw [if_neg (by omega)]; rfl
        rw [this, List.map_id]
    refine ⟨hu, ?_, ?_, ?_, ?_⟩
    · rw [hz, List.map_map]
      have : (qbs b).map ((·.unit) ∘ updU e) = (qbs b).map (·.unit) := List.map_congr_left fun u _ => qwb e u
      rw [this]; exact h.nd
    · rw [hlen]
      unfold qj1
      rw [qna, if_neg k1, hrefs, ← h.eq, hz]
    · rw [hz, List.map_map, hf, ← h.f]
      exact List.map_congr_left fun u _ => q4s e u
    · rw [hz]
      intro u hm
      obtain ⟨v, hv, rfl⟩ := List.mem_map.1 hm
      rw [qwb]; exact h.un v hv
theorem PInv.take {l : List Entry} (h : ∀ j, j < l.length → chk l j) : ∀ k, k ≤ l.length → PInv (l.take k)
  | 0, _ => PInv.nil
  | k + 1, hk => by
    rw [qdy q0q (by omega)]
    exact (PInv.take h k (by omega)).step (h k (by omega)).1 (h k (by omega)).2.2
theorem qmp {l : List Entry} (h : (qbc l).2 = 0) : PInv l := by
  have := PInv.take (fun j hj => qji h hj) l.length (Nat.le_refl _)
  rwa [List.take_length] at this
end Go.Ev
