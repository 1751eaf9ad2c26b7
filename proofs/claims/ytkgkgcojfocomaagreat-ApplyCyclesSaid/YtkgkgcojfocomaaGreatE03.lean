/- Tools and contracts under the laws of this seat: DevTy35z, DevDec, DevData, DevPure, DevGood, DevFam, DevCyc, DevChk, DevU35. -/
import Derived.Test.YtkgkgcojfocomaaGreatE02
import Derived.Test.YtkgkgcojfocomaaGreatProg
import Derived.KernelRfl
import Derived.Laws.Strings
import Derived.WideShapes
set_option linter.unusedVariables false
set_option linter.unusedSimpArgs false
namespace Go.Ev.Ty
open Go.Proofs
theorem sz3 : qby Tryz.prog 3 = some 1 := by kernel_rfl
theorem ag3 : aggT Tryz.prog 3 = some false := by kernel_rfl
theorem zr3 : qcp Tryz.prog 3 = some [.i .i64 0] := by kernel_rfl
theorem zo3 : qfl Tryz.prog 3 = some (.i .i64 0) := by kernel_rfl
theorem zd3 : zD Tryz.prog 3 = .i .i64 0 := by kernel_rfl
theorem by3 : qdh Tryz.prog 3 = some 8 := by kernel_rfl
theorem sl3 : qbl Tryz.prog 3 = false := by kernel_rfl
theorem st3 : qdk Tryz.prog 3 = false := by kernel_rfl
theorem bo3 : qc1 Tryz.prog 3 = false := by kernel_rfl
theorem pt3 : qdl Tryz.prog 3 = false := by kernel_rfl
theorem ck3 : ckT Tryz.prog 3 = .int .i64 := by kernel_rfl
theorem sz4 : qby Tryz.prog 4 = some 1 := by kernel_rfl
theorem ag4 : aggT Tryz.prog 4 = some false := by kernel_rfl
theorem zr4 : qcp Tryz.prog 4 = some [.b false] := by kernel_rfl
theorem zo4 : qfl Tryz.prog 4 = some (.b false) := by kernel_rfl
theorem zd4 : zD Tryz.prog 4 = .b false := by kernel_rfl
theorem by4 : qdh Tryz.prog 4 = some 1 := by kernel_rfl
theorem sl4 : qbl Tryz.prog 4 = false := by kernel_rfl
theorem st4 : qdk Tryz.prog 4 = false := by kernel_rfl
theorem bo4 : qc1 Tryz.prog 4 = true := by kernel_rfl
theorem pt4 : qdl Tryz.prog 4 = false := by kernel_rfl
theorem sz5 : qby Tryz.prog 5 = some 1 := by kernel_rfl
theorem ag5 : aggT Tryz.prog 5 = some false := by kernel_rfl
theorem zr5 : qcp Tryz.prog 5 = some [.i .u8 0] := by kernel_rfl
theorem zo5 : qfl Tryz.prog 5 = some (.i .u8 0) := by kernel_rfl
theorem zd5 : zD Tryz.prog 5 = .i .u8 0 := by kernel_rfl
theorem by5 : qdh Tryz.prog 5 = some 1 := by kernel_rfl
theorem sl5 : qbl Tryz.prog 5 = false := by kernel_rfl
theorem st5 : qdk Tryz.prog 5 = false := by kernel_rfl
theorem bo5 : qc1 Tryz.prog 5 = false := by kernel_rfl
theorem pt5 : qdl Tryz.prog 5 = false := by kernel_rfl
theorem ck5 : ckT Tryz.prog 5 = .int .u8 := by kernel_rfl
theorem sz9 : qby Tryz.prog 9 = some 1 := by kernel_rfl
theorem ag9 : aggT Tryz.prog 9 = some false := by kernel_rfl
theorem zr9 : qcp Tryz.prog 9 = some [.s ⟨#[]⟩] := by kernel_rfl
theorem zo9 : qfl Tryz.prog 9 = some (.s ⟨#[]⟩) := by kernel_rfl
theorem zd9 : zD Tryz.prog 9 = .s ⟨#[]⟩ := by kernel_rfl
theorem by9 : qdh Tryz.prog 9 = some 16 := by kernel_rfl
theorem sl9 : qbl Tryz.prog 9 = false := by kernel_rfl
theorem un9 : Tryz.prog.underlying 9 = some .string := by kernel_rfl
theorem st9 : qdk Tryz.prog 9 = true := by kernel_rfl
theorem bo9 : qc1 Tryz.prog 9 = false := by kernel_rfl
theorem pt9 : qdl Tryz.prog 9 = false := by kernel_rfl
theorem ck9 : ckT Tryz.prog 9 = .str := by kernel_rfl
theorem sz22 : qby Tryz.prog 22 = some 1 := by kernel_rfl
theorem ag22 : aggT Tryz.prog 22 = some false := by kernel_rfl
theorem zr22 : qcp Tryz.prog 22 = some [.nil] := by kernel_rfl
theorem zo22 : qfl Tryz.prog 22 = some (.nil) := by kernel_rfl
theorem zd22 : zD Tryz.prog 22 = .nil := by kernel_rfl
theorem by22 : qdh Tryz.prog 22 = some 24 := by kernel_rfl
theorem el22 : qf6 Tryz.prog 22 = some 80 := by kernel_rfl
theorem sl22 : qbl Tryz.prog 22 = true := by kernel_rfl
theorem un22 : Tryz.prog.underlying 22 = some (.slice 80) := by kernel_rfl
theorem st22 : qdk Tryz.prog 22 = false := by kernel_rfl
theorem bo22 : qc1 Tryz.prog 22 = false := by kernel_rfl
theorem pt22 : qdl Tryz.prog 22 = false := by kernel_rfl
theorem sz23 : qby Tryz.prog 23 = some 1 := by kernel_rfl
theorem ag23 : aggT Tryz.prog 23 = some false := by kernel_rfl
theorem zr23 : qcp Tryz.prog 23 = some [.nil] := by kernel_rfl
theorem zo23 : qfl Tryz.prog 23 = some (.nil) := by kernel_rfl
theorem zd23 : zD Tryz.prog 23 = .nil := by kernel_rfl
theorem by23 : qdh Tryz.prog 23 = some 24 := by kernel_rfl
theorem el23 : qf6 Tryz.prog 23 = some 50 := by kernel_rfl
theorem sl23 : qbl Tryz.prog 23 = true := by kernel_rfl
theorem un23 : Tryz.prog.underlying 23 = some (.slice 50) := by kernel_rfl
theorem st23 : qdk Tryz.prog 23 = false := by kernel_rfl
theorem bo23 : qc1 Tryz.prog 23 = false := by kernel_rfl
theorem pt23 : qdl Tryz.prog 23 = false := by kernel_rfl
theorem sz26 : qby Tryz.prog 26 = some 1 := by kernel_rfl
theorem ag26 : aggT Tryz.prog 26 = some false := by kernel_rfl
theorem zr26 : qcp Tryz.prog 26 = some [.i .i64 0] := by kernel_rfl
theorem zo26 : qfl Tryz.prog 26 = some (.i .i64 0) := by kernel_rfl
theorem zd26 : zD Tryz.prog 26 = .i .i64 0 := by kernel_rfl
theorem by26 : qdh Tryz.prog 26 = some 8 := by kernel_rfl
theorem sl26 : qbl Tryz.prog 26 = false := by kernel_rfl
theorem st26 : qdk Tryz.prog 26 = false := by kernel_rfl
theorem bo26 : qc1 Tryz.prog 26 = false := by kernel_rfl
theorem pt26 : qdl Tryz.prog 26 = false := by kernel_rfl
theorem ck26 : ckT Tryz.prog 26 = .int .i64 := by kernel_rfl
theorem sz31 : qby Tryz.prog 31 = some 1 := by kernel_rfl
theorem ag31 : aggT Tryz.prog 31 = some false := by kernel_rfl
theorem zr31 : qcp Tryz.prog 31 = some [.nil] := by kernel_rfl
theorem zo31 : qfl Tryz.prog 31 = some (.nil) := by kernel_rfl
theorem zd31 : zD Tryz.prog 31 = .nil := by kernel_rfl
theorem by31 : qdh Tryz.prog 31 = some 24 := by kernel_rfl
theorem el31 : qf6 Tryz.prog 31 = some 3 := by kernel_rfl
theorem sl31 : qbl Tryz.prog 31 = true := by kernel_rfl
theorem un31 : Tryz.prog.underlying 31 = some (.slice 3) := by kernel_rfl
theorem st31 : qdk Tryz.prog 31 = false := by kernel_rfl
theorem bo31 : qc1 Tryz.prog 31 = false := by kernel_rfl
theorem pt31 : qdl Tryz.prog 31 = false := by kernel_rfl
theorem sz33 : qby Tryz.prog 33 = some 4 := by kernel_rfl
theorem ag33 : aggT Tryz.prog 33 = some true := by kernel_rfl
theorem zr33 : qcp Tryz.prog 33 = some [.nil, .i .i64 0, .nil, .i .i64 0] := by kernel_rfl
theorem zd33 : zD Tryz.prog 33 = .agg [.nil, .i .i64 0, .nil, .i .i64 0] := by kernel_rfl
theorem by33 : qdh Tryz.prog 33 = some 64 := by kernel_rfl
theorem sl33 : qbl Tryz.prog 33 = false := by kernel_rfl
theorem st33 : qdk Tryz.prog 33 = false := by kernel_rfl
theorem bo33 : qc1 Tryz.prog 33 = false := by kernel_rfl
theorem pt33 : qdl Tryz.prog 33 = false := by kernel_rfl
theorem qbp0 : offT Tryz.prog 33 0 = some (0, 1) := by kernel_rfl
theorem qbp1 : qc4 Tryz.prog 33 0 = some 22 := by kernel_rfl
theorem qbp2 : offT Tryz.prog 33 1 = some (1, 1) := by kernel_rfl
theorem qbp3 : qc4 Tryz.prog 33 1 = some 3 := by kernel_rfl
theorem qbp4 : offT Tryz.prog 33 2 = some (2, 1) := by kernel_rfl
theorem qbp5 : qc4 Tryz.prog 33 2 = some 31 := by kernel_rfl
theorem qbp6 : offT Tryz.prog 33 3 = some (3, 1) := by kernel_rfl
theorem qbp7 : qc4 Tryz.prog 33 3 = some 3 := by kernel_rfl
theorem pl33 : qge Tryz.prog 33 = some [(0, 1), (1, 1), (2, 1), (3, 1)] := by kernel_rfl
theorem sz48 : qby Tryz.prog 48 = some 5 := by kernel_rfl
theorem ag48 : aggT Tryz.prog 48 = some true := by kernel_rfl
theorem zr48 : qcp Tryz.prog 48 = some [.s ⟨#[]⟩, .i .i64 0, .i .i64 0, .s ⟨#[]⟩, .s ⟨#[]⟩] := by kernel_rfl
theorem zd48 : zD Tryz.prog 48 = .agg [.s ⟨#[]⟩, .i .i64 0, .i .i64 0, .s ⟨#[]⟩, .s ⟨#[]⟩] := by kernel_rfl
theorem by48 : qdh Tryz.prog 48 = some 64 := by kernel_rfl
theorem sl48 : qbl Tryz.prog 48 = false := by kernel_rfl
theorem st48 : qdk Tryz.prog 48 = false := by kernel_rfl
theorem bo48 : qc1 Tryz.prog 48 = false := by kernel_rfl
theorem pt48 : qdl Tryz.prog 48 = false := by kernel_rfl
theorem qbp8 : offT Tryz.prog 48 0 = some (0, 1) := by kernel_rfl
theorem qbp9 : qc4 Tryz.prog 48 0 = some 9 := by kernel_rfl
theorem qbqa : offT Tryz.prog 48 1 = some (1, 1) := by kernel_rfl
theorem qbqb : qc4 Tryz.prog 48 1 = some 3 := by kernel_rfl
theorem qbqc : offT Tryz.prog 48 2 = some (2, 1) := by kernel_rfl
theorem qbqd : qc4 Tryz.prog 48 2 = some 3 := by kernel_rfl
theorem qbqe : offT Tryz.prog 48 3 = some (3, 1) := by kernel_rfl
theorem qbqf : qc4 Tryz.prog 48 3 = some 9 := by kernel_rfl
theorem qbqg : offT Tryz.prog 48 4 = some (4, 1) := by kernel_rfl
theorem qbqh : qc4 Tryz.prog 48 4 = some 9 := by kernel_rfl
theorem pl48 : qge Tryz.prog 48 = some [(0, 1), (1, 1), (2, 1), (3, 1), (4, 1)] := by kernel_rfl
theorem ek48 : eqKs Tryz.prog 48 = some [.s, .i, .i, .s, .s] := by kernel_rfl
theorem sz50 : qby Tryz.prog 50 = some 8 := by kernel_rfl
theorem ag50 : aggT Tryz.prog 50 = some true := by kernel_rfl
theorem zr50 : qcp Tryz.prog 50 = some [.i .i64 0, .i .i64 0, .i .i64 0, .s ⟨#[]⟩, .i .i64 0, .i .i64 0, .s ⟨#[]⟩, .s ⟨#[]⟩] := by kernel_rfl
theorem zd50 : zD Tryz.prog 50 = .agg [.i .i64 0, .i .i64 0, .i .i64 0, .s ⟨#[]⟩, .i .i64 0, .i .i64 0, .s ⟨#[]⟩, .s ⟨#[]⟩] := by kernel_rfl
theorem by50 : qdh Tryz.prog 50 = some 88 := by kernel_rfl
theorem sl50 : qbl Tryz.prog 50 = false := by kernel_rfl
theorem st50 : qdk Tryz.prog 50 = false := by kernel_rfl
theorem bo50 : qc1 Tryz.prog 50 = false := by kernel_rfl
theorem pt50 : qdl Tryz.prog 50 = false := by kernel_rfl
theorem qbqi : offT Tryz.prog 50 0 = some (0, 1) := by kernel_rfl
theorem qbqj : qc4 Tryz.prog 50 0 = some 3 := by kernel_rfl
theorem qbqk : offT Tryz.prog 50 1 = some (1, 1) := by kernel_rfl
theorem qbql : qc4 Tryz.prog 50 1 = some 3 := by kernel_rfl
theorem qbqm : offT Tryz.prog 50 2 = some (2, 1) := by kernel_rfl
theorem qbqn : qc4 Tryz.prog 50 2 = some 3 := by kernel_rfl
theorem qbqo : offT Tryz.prog 50 3 = some (3, 5) := by kernel_rfl
theorem qbqp : qc4 Tryz.prog 50 3 = some 48 := by kernel_rfl
theorem pl50 : qge Tryz.prog 50 = some [(0, 1), (1, 1), (2, 1), (3, 5)] := by kernel_rfl
theorem ek50 : eqKs Tryz.prog 50 = some [.i, .i, .i, .s, .i, .i, .s, .s] := by kernel_rfl
theorem sz53 : qby Tryz.prog 53 = some 1 := by kernel_rfl
theorem ag53 : aggT Tryz.prog 53 = some false := by kernel_rfl
theorem zr53 : qcp Tryz.prog 53 = some [.nil] := by kernel_rfl
theorem zo53 : qfl Tryz.prog 53 = some (.nil) := by kernel_rfl
theorem zd53 : zD Tryz.prog 53 = .nil := by kernel_rfl
theorem by53 : qdh Tryz.prog 53 = some 24 := by kernel_rfl
theorem el53 : qf6 Tryz.prog 53 = some 61 := by kernel_rfl
theorem sl53 : qbl Tryz.prog 53 = true := by kernel_rfl
theorem un53 : Tryz.prog.underlying 53 = some (.slice 61) := by kernel_rfl
theorem st53 : qdk Tryz.prog 53 = false := by kernel_rfl
theorem bo53 : qc1 Tryz.prog 53 = false := by kernel_rfl
theorem pt53 : qdl Tryz.prog 53 = false := by kernel_rfl
theorem sz56 : qby Tryz.prog 56 = some 1 := by kernel_rfl
theorem ag56 : aggT Tryz.prog 56 = some false := by kernel_rfl
theorem zr56 : qcp Tryz.prog 56 = some [.nil] := by kernel_rfl
theorem zo56 : qfl Tryz.prog 56 = some (.nil) := by kernel_rfl
theorem zd56 : zD Tryz.prog 56 = .nil := by kernel_rfl
theorem by56 : qdh Tryz.prog 56 = some 24 := by kernel_rfl
theorem el56 : qf6 Tryz.prog 56 = some 9 := by kernel_rfl
theorem sl56 : qbl Tryz.prog 56 = true := by kernel_rfl
theorem un56 : Tryz.prog.underlying 56 = some (.slice 9) := by kernel_rfl
theorem st56 : qdk Tryz.prog 56 = false := by kernel_rfl
theorem bo56 : qc1 Tryz.prog 56 = false := by kernel_rfl
theorem pt56 : qdl Tryz.prog 56 = false := by kernel_rfl
theorem sz61 : qby Tryz.prog 61 = some 4 := by kernel_rfl
theorem ag61 : aggT Tryz.prog 61 = some true := by kernel_rfl
theorem zr61 : qcp Tryz.prog 61 = some [.i .i64 0, .i .i64 0, .i .i64 0, .i .i64 0] := by kernel_rfl
theorem zd61 : zD Tryz.prog 61 = .agg [.i .i64 0, .i .i64 0, .i .i64 0, .i .i64 0] := by kernel_rfl
theorem by61 : qdh Tryz.prog 61 = some 32 := by kernel_rfl
theorem sl61 : qbl Tryz.prog 61 = false := by kernel_rfl
theorem st61 : qdk Tryz.prog 61 = false := by kernel_rfl
theorem bo61 : qc1 Tryz.prog 61 = false := by kernel_rfl
theorem pt61 : qdl Tryz.prog 61 = false := by kernel_rfl
theorem qbqq : offT Tryz.prog 61 0 = some (0, 1) := by kernel_rfl
theorem qbqr : qc4 Tryz.prog 61 0 = some 3 := by kernel_rfl
theorem qbqs : offT Tryz.prog 61 1 = some (1, 1) := by kernel_rfl
theorem qbqt : qc4 Tryz.prog 61 1 = some 3 := by kernel_rfl
theorem qbqu : offT Tryz.prog 61 2 = some (2, 1) := by kernel_rfl
theorem qbqv : qc4 Tryz.prog 61 2 = some 3 := by kernel_rfl
theorem qbqw : offT Tryz.prog 61 3 = some (3, 1) := by kernel_rfl
theorem qbqx : qc4 Tryz.prog 61 3 = some 3 := by kernel_rfl
theorem pl61 : qge Tryz.prog 61 = some [(0, 1), (1, 1), (2, 1), (3, 1)] := by kernel_rfl
theorem ek61 : eqKs Tryz.prog 61 = some [.i, .i, .i, .i] := by kernel_rfl
theorem sz65 : qby Tryz.prog 65 = some 1 := by kernel_rfl
theorem ag65 : aggT Tryz.prog 65 = some false := by kernel_rfl
theorem by65 : qdh Tryz.prog 65 = some 8 := by kernel_rfl
theorem sl65 : qbl Tryz.prog 65 = false := by kernel_rfl
theorem st65 : qdk Tryz.prog 65 = false := by kernel_rfl
theorem bo65 : qc1 Tryz.prog 65 = false := by kernel_rfl
theorem pt65 : qdl Tryz.prog 65 = false := by kernel_rfl
theorem mt65 : mapT Tryz.prog 65 = some (3, 99) := by kernel_rfl
theorem sz69 : qby Tryz.prog 69 = some 1 := by kernel_rfl
theorem ag69 : aggT Tryz.prog 69 = some false := by kernel_rfl
theorem zr69 : qcp Tryz.prog 69 = some [.nil] := by kernel_rfl
theorem zo69 : qfl Tryz.prog 69 = some (.nil) := by kernel_rfl
theorem zd69 : zD Tryz.prog 69 = .nil := by kernel_rfl
theorem by69 : qdh Tryz.prog 69 = some 24 := by kernel_rfl
theorem el69 : qf6 Tryz.prog 69 = some 48 := by kernel_rfl
theorem sl69 : qbl Tryz.prog 69 = true := by kernel_rfl
theorem un69 : Tryz.prog.underlying 69 = some (.slice 48) := by kernel_rfl
theorem st69 : qdk Tryz.prog 69 = false := by kernel_rfl
theorem bo69 : qc1 Tryz.prog 69 = false := by kernel_rfl
theorem pt69 : qdl Tryz.prog 69 = false := by kernel_rfl
theorem sz72 : qby Tryz.prog 72 = some 1 := by kernel_rfl
theorem ag72 : aggT Tryz.prog 72 = some false := by kernel_rfl
theorem zr72 : qcp Tryz.prog 72 = some [.nil] := by kernel_rfl
theorem zo72 : qfl Tryz.prog 72 = some (.nil) := by kernel_rfl
theorem zd72 : zD Tryz.prog 72 = .nil := by kernel_rfl
theorem by72 : qdh Tryz.prog 72 = some 24 := by kernel_rfl
theorem el72 : qf6 Tryz.prog 72 = some 110 := by kernel_rfl
theorem sl72 : qbl Tryz.prog 72 = true := by kernel_rfl
theorem un72 : Tryz.prog.underlying 72 = some (.slice 110) := by kernel_rfl
theorem st72 : qdk Tryz.prog 72 = false := by kernel_rfl
theorem bo72 : qc1 Tryz.prog 72 = false := by kernel_rfl
theorem pt72 : qdl Tryz.prog 72 = false := by kernel_rfl
theorem sz74 : qby Tryz.prog 74 = some 2 := by kernel_rfl
theorem ag74 : aggT Tryz.prog 74 = some true := by kernel_rfl
theorem zr74 : qcp Tryz.prog 74 = some [.s ⟨#[]⟩, .nil] := by kernel_rfl
theorem zd74 : zD Tryz.prog 74 = .agg [.s ⟨#[]⟩, .nil] := by kernel_rfl
theorem by74 : qdh Tryz.prog 74 = some 40 := by kernel_rfl
theorem sl74 : qbl Tryz.prog 74 = false := by kernel_rfl
theorem st74 : qdk Tryz.prog 74 = false := by kernel_rfl
theorem bo74 : qc1 Tryz.prog 74 = false := by kernel_rfl
theorem pt74 : qdl Tryz.prog 74 = false := by kernel_rfl
theorem qbqy : offT Tryz.prog 74 0 = some (0, 1) := by kernel_rfl
theorem qbqz : qc4 Tryz.prog 74 0 = some 9 := by kernel_rfl
theorem qbq0 : offT Tryz.prog 74 1 = some (1, 1) := by kernel_rfl
theorem qbq1 : qc4 Tryz.prog 74 1 = some 72 := by kernel_rfl
theorem pl74 : qge Tryz.prog 74 = some [(0, 1), (1, 1)] := by kernel_rfl
theorem sz75 : qby Tryz.prog 75 = some 1 := by kernel_rfl
theorem ag75 : aggT Tryz.prog 75 = some false := by kernel_rfl
theorem zr75 : qcp Tryz.prog 75 = some [.nil] := by kernel_rfl
theorem zo75 : qfl Tryz.prog 75 = some (.nil) := by kernel_rfl
theorem zd75 : zD Tryz.prog 75 = .nil := by kernel_rfl
theorem by75 : qdh Tryz.prog 75 = some 24 := by kernel_rfl
theorem el75 : qf6 Tryz.prog 75 = some 113 := by kernel_rfl
theorem sl75 : qbl Tryz.prog 75 = true := by kernel_rfl
theorem un75 : Tryz.prog.underlying 75 = some (.slice 113) := by kernel_rfl
theorem st75 : qdk Tryz.prog 75 = false := by kernel_rfl
theorem bo75 : qc1 Tryz.prog 75 = false := by kernel_rfl
theorem pt75 : qdl Tryz.prog 75 = false := by kernel_rfl
theorem sz77 : qby Tryz.prog 77 = some 5 := by kernel_rfl
theorem ag77 : aggT Tryz.prog 77 = some true := by kernel_rfl
theorem zr77 : qcp Tryz.prog 77 = some [.s ⟨#[]⟩, .s ⟨#[]⟩, .nil, .nil, .b false] := by kernel_rfl
theorem zd77 : zD Tryz.prog 77 = .agg [.s ⟨#[]⟩, .s ⟨#[]⟩, .nil, .nil, .b false] := by kernel_rfl
theorem by77 : qdh Tryz.prog 77 = some 88 := by kernel_rfl
theorem sl77 : qbl Tryz.prog 77 = false := by kernel_rfl
theorem st77 : qdk Tryz.prog 77 = false := by kernel_rfl
theorem bo77 : qc1 Tryz.prog 77 = false := by kernel_rfl
theorem pt77 : qdl Tryz.prog 77 = false := by kernel_rfl
theorem qbq2 : offT Tryz.prog 77 0 = some (0, 1) := by kernel_rfl
theorem qbq3 : qc4 Tryz.prog 77 0 = some 9 := by kernel_rfl
theorem qbq4 : offT Tryz.prog 77 1 = some (1, 2) := by kernel_rfl
theorem qbq5 : qc4 Tryz.prog 77 1 = some 74 := by kernel_rfl
theorem qbq6 : offT Tryz.prog 77 2 = some (3, 1) := by kernel_rfl
theorem qbq7 : qc4 Tryz.prog 77 2 = some 75 := by kernel_rfl
theorem qbq8 : offT Tryz.prog 77 3 = some (4, 1) := by kernel_rfl
theorem qbq9 : qc4 Tryz.prog 77 3 = some 4 := by kernel_rfl
theorem pl77 : qge Tryz.prog 77 = some [(0, 1), (1, 2), (3, 1), (4, 1)] := by kernel_rfl
theorem sz78 : qby Tryz.prog 78 = some 1 := by kernel_rfl
theorem ag78 : aggT Tryz.prog 78 = some false := by kernel_rfl
theorem zr78 : qcp Tryz.prog 78 = some [.nil] := by kernel_rfl
theorem zo78 : qfl Tryz.prog 78 = some (.nil) := by kernel_rfl
theorem zd78 : zD Tryz.prog 78 = .nil := by kernel_rfl
theorem by78 : qdh Tryz.prog 78 = some 24 := by kernel_rfl
theorem el78 : qf6 Tryz.prog 78 = some 104 := by kernel_rfl
theorem sl78 : qbl Tryz.prog 78 = true := by kernel_rfl
theorem un78 : Tryz.prog.underlying 78 = some (.slice 104) := by kernel_rfl
theorem st78 : qdk Tryz.prog 78 = false := by kernel_rfl
theorem bo78 : qc1 Tryz.prog 78 = false := by kernel_rfl
theorem pt78 : qdl Tryz.prog 78 = false := by kernel_rfl
theorem sz80 : qby Tryz.prog 80 = some 6 := by kernel_rfl
theorem ag80 : aggT Tryz.prog 80 = some true := by kernel_rfl
theorem zr80 : qcp Tryz.prog 80 = some [.s ⟨#[]⟩, .s ⟨#[]⟩, .nil, .nil, .b false, .nil] := by kernel_rfl
theorem zd80 : zD Tryz.prog 80 = .agg [.s ⟨#[]⟩, .s ⟨#[]⟩, .nil, .nil, .b false, .nil] := by kernel_rfl
theorem by80 : qdh Tryz.prog 80 = some 112 := by kernel_rfl
theorem sl80 : qbl Tryz.prog 80 = false := by kernel_rfl
theorem st80 : qdk Tryz.prog 80 = false := by kernel_rfl
theorem bo80 : qc1 Tryz.prog 80 = false := by kernel_rfl
theorem pt80 : qdl Tryz.prog 80 = false := by kernel_rfl
theorem qbra : offT Tryz.prog 80 0 = some (0, 5) := by kernel_rfl
theorem qbrb : qc4 Tryz.prog 80 0 = some 77 := by kernel_rfl
theorem qbrc : offT Tryz.prog 80 1 = some (5, 1) := by kernel_rfl
theorem qbrd : qc4 Tryz.prog 80 1 = some 78 := by kernel_rfl
theorem pl80 : qge Tryz.prog 80 = some [(0, 5), (5, 1)] := by kernel_rfl
theorem sz99 : qby Tryz.prog 99 = some 1 := by kernel_rfl
theorem ag99 : aggT Tryz.prog 99 = some false := by kernel_rfl
theorem zr99 : qcp Tryz.prog 99 = some [.np] := by kernel_rfl
theorem zo99 : qfl Tryz.prog 99 = some (.np) := by kernel_rfl
theorem zd99 : zD Tryz.prog 99 = .np := by kernel_rfl
theorem by99 : qdh Tryz.prog 99 = some 8 := by kernel_rfl
theorem sl99 : qbl Tryz.prog 99 = false := by kernel_rfl
theorem st99 : qdk Tryz.prog 99 = false := by kernel_rfl
theorem bo99 : qc1 Tryz.prog 99 = false := by kernel_rfl
theorem pt99 : qdl Tryz.prog 99 = true := by kernel_rfl
theorem sz104 : qby Tryz.prog 104 = some 2 := by kernel_rfl
theorem qbue : aggT Tryz.prog 104 = some true := by kernel_rfl
theorem qbuf : qcp Tryz.prog 104 = some [.b false, .s ⟨#[]⟩] := by kernel_rfl
theorem qbug : zD Tryz.prog 104 = .agg [.b false, .s ⟨#[]⟩] := by kernel_rfl
theorem qbuh : qdh Tryz.prog 104 = some 24 := by kernel_rfl
theorem qbui : qbl Tryz.prog 104 = false := by kernel_rfl
theorem qbuj : qdk Tryz.prog 104 = false := by kernel_rfl
theorem qbuk : qc1 Tryz.prog 104 = false := by kernel_rfl
theorem qbul : qdl Tryz.prog 104 = false := by kernel_rfl
theorem qblu : offT Tryz.prog 104 0 = some (0, 1) := by kernel_rfl
theorem qblv : qc4 Tryz.prog 104 0 = some 4 := by kernel_rfl
theorem qblw : offT Tryz.prog 104 1 = some (1, 1) := by kernel_rfl
theorem qblx : qc4 Tryz.prog 104 1 = some 9 := by kernel_rfl
theorem qbum : qge Tryz.prog 104 = some [(0, 1), (1, 1)] := by kernel_rfl
theorem qbun : eqKs Tryz.prog 104 = some [.b, .s] := by kernel_rfl
theorem sz108 : qby Tryz.prog 108 = some 3 := by kernel_rfl
theorem qbuo : aggT Tryz.prog 108 = some true := by kernel_rfl
theorem qbup : qcp Tryz.prog 108 = some [.i .i64 0, .i .i64 0, .i .i64 0] := by kernel_rfl
theorem qbuq : zD Tryz.prog 108 = .agg [.i .i64 0, .i .i64 0, .i .i64 0] := by kernel_rfl
theorem qbur : qdh Tryz.prog 108 = some 24 := by kernel_rfl
theorem qbus : qbl Tryz.prog 108 = false := by kernel_rfl
theorem qbut : qdk Tryz.prog 108 = false := by kernel_rfl
theorem qbuu : qc1 Tryz.prog 108 = false := by kernel_rfl
theorem qbuv : qdl Tryz.prog 108 = false := by kernel_rfl
theorem qbly : offT Tryz.prog 108 0 = some (0, 1) := by kernel_rfl
theorem qblz : qc4 Tryz.prog 108 0 = some 3 := by kernel_rfl
theorem qbl0 : offT Tryz.prog 108 1 = some (1, 1) := by kernel_rfl
theorem qbl1 : qc4 Tryz.prog 108 1 = some 3 := by kernel_rfl
theorem qbl2 : offT Tryz.prog 108 2 = some (2, 1) := by kernel_rfl
theorem qbl3 : qc4 Tryz.prog 108 2 = some 3 := by kernel_rfl
theorem qbuw : qge Tryz.prog 108 = some [(0, 1), (1, 1), (2, 1)] := by kernel_rfl
theorem qbux : eqKs Tryz.prog 108 = some [.i, .i, .i] := by kernel_rfl
theorem sz110 : qby Tryz.prog 110 = some 4 := by kernel_rfl
theorem qbuy : aggT Tryz.prog 110 = some true := by kernel_rfl
theorem qbuz : qcp Tryz.prog 110 = some [.s ⟨#[]⟩, .i .i64 0, .i .i64 0, .i .i64 0] := by kernel_rfl
theorem qbu0 : zD Tryz.prog 110 = .agg [.s ⟨#[]⟩, .i .i64 0, .i .i64 0, .i .i64 0] := by kernel_rfl
theorem qbu1 : qdh Tryz.prog 110 = some 40 := by kernel_rfl
theorem qbu2 : qbl Tryz.prog 110 = false := by kernel_rfl
theorem qbu3 : qdk Tryz.prog 110 = false := by kernel_rfl
theorem qbu4 : qc1 Tryz.prog 110 = false := by kernel_rfl
theorem qbu5 : qdl Tryz.prog 110 = false := by kernel_rfl
theorem qbl4 : offT Tryz.prog 110 0 = some (0, 1) := by kernel_rfl
theorem qbl5 : qc4 Tryz.prog 110 0 = some 9 := by kernel_rfl
theorem qbl6 : offT Tryz.prog 110 1 = some (1, 3) := by kernel_rfl
theorem qbl7 : qc4 Tryz.prog 110 1 = some 108 := by kernel_rfl
theorem qbu6 : qge Tryz.prog 110 = some [(0, 1), (1, 3)] := by kernel_rfl
theorem qbu7 : eqKs Tryz.prog 110 = some [.s, .i, .i, .i] := by kernel_rfl
theorem sz113 : qby Tryz.prog 113 = some 2 := by kernel_rfl
theorem qbu8 : aggT Tryz.prog 113 = some true := by kernel_rfl
theorem qbu9 : qcp Tryz.prog 113 = some [.s ⟨#[]⟩, .b false] := by kernel_rfl
theorem qbva : zD Tryz.prog 113 = .agg [.s ⟨#[]⟩, .b false] := by kernel_rfl
theorem qbvb : qdh Tryz.prog 113 = some 24 := by kernel_rfl
theorem qbvc : qbl Tryz.prog 113 = false := by kernel_rfl
theorem qbvd : qdk Tryz.prog 113 = false := by kernel_rfl
theorem qbve : qc1 Tryz.prog 113 = false := by kernel_rfl
theorem qbvf : qdl Tryz.prog 113 = false := by kernel_rfl
theorem qbl8 : offT Tryz.prog 113 0 = some (0, 1) := by kernel_rfl
theorem qbl9 : qc4 Tryz.prog 113 0 = some 9 := by kernel_rfl
theorem qbma : offT Tryz.prog 113 1 = some (1, 1) := by kernel_rfl
theorem qbmb : qc4 Tryz.prog 113 1 = some 4 := by kernel_rfl
theorem qbvg : qge Tryz.prog 113 = some [(0, 1), (1, 1)] := by kernel_rfl
theorem qbvh : eqKs Tryz.prog 113 = some [.s, .b] := by kernel_rfl
theorem qbvi : qby Tryz.prog 182 = some 1 := by kernel_rfl
theorem qbvj : aggT Tryz.prog 182 = some false := by kernel_rfl
theorem qbvk : qcp Tryz.prog 182 = some [.nil] := by kernel_rfl
theorem qbvl : qfl Tryz.prog 182 = some (.nil) := by kernel_rfl
theorem qbvm : zD Tryz.prog 182 = .nil := by kernel_rfl
theorem qbvn : qdh Tryz.prog 182 = some 24 := by kernel_rfl
theorem qbvo : qf6 Tryz.prog 182 = some 26 := by kernel_rfl
theorem qbvp : qbl Tryz.prog 182 = true := by kernel_rfl
theorem qbvq : Tryz.prog.underlying 182 = some (.slice 26) := by kernel_rfl
theorem qbvr : qdk Tryz.prog 182 = false := by kernel_rfl
theorem qbvs : qc1 Tryz.prog 182 = false := by kernel_rfl
theorem qbvt : qdl Tryz.prog 182 = false := by kernel_rfl
theorem qbvu : qby Tryz.prog 197 = some 1 := by kernel_rfl
theorem qbvv : aggT Tryz.prog 197 = some false := by kernel_rfl
theorem qbvw : qdh Tryz.prog 197 = some 8 := by kernel_rfl
theorem qbvx : qbl Tryz.prog 197 = false := by kernel_rfl
theorem qbvy : qdk Tryz.prog 197 = false := by kernel_rfl
theorem qbvz : qc1 Tryz.prog 197 = false := by kernel_rfl
theorem qbv0 : qdl Tryz.prog 197 = false := by kernel_rfl
theorem qbv1 : mapT Tryz.prog 197 = some (9, 4) := by kernel_rfl
theorem qbv2 : qby Tryz.prog 200 = some 1 := by kernel_rfl
theorem qbv3 : aggT Tryz.prog 200 = some false := by kernel_rfl
theorem qbv4 : qcp Tryz.prog 200 = some [.nil] := by kernel_rfl
theorem qbv5 : qfl Tryz.prog 200 = some (.nil) := by kernel_rfl
theorem qbv6 : zD Tryz.prog 200 = .nil := by kernel_rfl
theorem qbv7 : qdh Tryz.prog 200 = some 24 := by kernel_rfl
theorem qbv8 : qf6 Tryz.prog 200 = some 212 := by kernel_rfl
theorem qbv9 : qbl Tryz.prog 200 = true := by kernel_rfl
theorem qbwa : Tryz.prog.underlying 200 = some (.slice 212) := by kernel_rfl
theorem qbwb : qdk Tryz.prog 200 = false := by kernel_rfl
theorem qbwc : qc1 Tryz.prog 200 = false := by kernel_rfl
theorem qbwd : qdl Tryz.prog 200 = false := by kernel_rfl
theorem qbwe : qby Tryz.prog 206 = some 1 := by kernel_rfl
theorem qbwf : aggT Tryz.prog 206 = some false := by kernel_rfl
theorem qbwg : qcp Tryz.prog 206 = some [.nil] := by kernel_rfl
theorem qbwh : qfl Tryz.prog 206 = some (.nil) := by kernel_rfl
theorem qbwi : zD Tryz.prog 206 = .nil := by kernel_rfl
theorem qbwj : qdh Tryz.prog 206 = some 24 := by kernel_rfl
theorem qbwk : qf6 Tryz.prog 206 = some 5 := by kernel_rfl
theorem qbwl : qbl Tryz.prog 206 = true := by kernel_rfl
theorem qbwm : Tryz.prog.underlying 206 = some (.slice 5) := by kernel_rfl
theorem qbwn : qdk Tryz.prog 206 = false := by kernel_rfl
theorem qbwo : qc1 Tryz.prog 206 = false := by kernel_rfl
theorem qbwp : qdl Tryz.prog 206 = false := by kernel_rfl
theorem qbwq : ckT Tryz.prog 206 = .bytes := by kernel_rfl
theorem qbwr : qby Tryz.prog 212 = some 2 := by kernel_rfl
theorem qbws : aggT Tryz.prog 212 = some true := by kernel_rfl
theorem qbwt : qcp Tryz.prog 212 = some [.i .i64 0, .s ⟨#[]⟩] := by kernel_rfl
theorem qbwu : zD Tryz.prog 212 = .agg [.i .i64 0, .s ⟨#[]⟩] := by kernel_rfl
theorem qbwv : qdh Tryz.prog 212 = some 24 := by kernel_rfl
theorem qbww : qbl Tryz.prog 212 = false := by kernel_rfl
theorem qbwx : qdk Tryz.prog 212 = false := by kernel_rfl
theorem qbwy : qc1 Tryz.prog 212 = false := by kernel_rfl
theorem qbwz : qdl Tryz.prog 212 = false := by kernel_rfl
theorem qbmc : offT Tryz.prog 212 0 = some (0, 1) := by kernel_rfl
theorem qbmd : qc4 Tryz.prog 212 0 = some 3 := by kernel_rfl
theorem qbme : offT Tryz.prog 212 1 = some (1, 1) := by kernel_rfl
theorem qbmf : qc4 Tryz.prog 212 1 = some 9 := by kernel_rfl
theorem qbw0 : qge Tryz.prog 212 = some [(0, 1), (1, 1)] := by kernel_rfl
theorem qbw1 : eqKs Tryz.prog 212 = some [.i, .s] := by kernel_rfl
theorem qbw2 : qby Tryz.prog 232 = some 1 := by kernel_rfl
theorem qbw3 : aggT Tryz.prog 232 = some false := by kernel_rfl
theorem qbw4 : qcp Tryz.prog 232 = some [.i .i8 0] := by kernel_rfl
theorem qbw5 : qfl Tryz.prog 232 = some (.i .i8 0) := by kernel_rfl
theorem qbw6 : zD Tryz.prog 232 = .i .i8 0 := by kernel_rfl
theorem qbw7 : qdh Tryz.prog 232 = some 1 := by kernel_rfl
theorem qbw8 : qbl Tryz.prog 232 = false := by kernel_rfl
theorem qbw9 : qdk Tryz.prog 232 = false := by kernel_rfl
theorem qbxa : qc1 Tryz.prog 232 = false := by kernel_rfl
theorem qbxb : qdl Tryz.prog 232 = false := by kernel_rfl
theorem qbxc : ckT Tryz.prog 232 = .int .i8 := by kernel_rfl
end Go.Ev.Ty

namespace Go.Ev
def decI (k : IntKind) : D → Option Int
  | .i k' n => if k' = k then some n else none
  | _ => none
def decS : D → Option ByteArray
  | .s x => some x
  | _ => none
def decM {α : Type} (f : D → Option α) : List D → Option (List α)
  | [] => some []
  | d :: l => match f d, decM f l with
    | some x, some r => some (x :: r)
    | _, _ => none
def decL {α : Type} (z : Nat) (f : D → Option α) : D → Option (List α)
  | .nil => some []
  | .sl z' l => if z' = z then decM f l else none
  | _ => none
theorem qbeq (k : IntKind) (n : Int) : decI k (D.i k n) = some n := by simp [decI]
theorem qber (n : ByteArray) : decS (D.s n) = some n := rfl
theorem qg0 {k : IntKind} {d : D} {n : Int} (h : decI k d = some n) : dle d (D.i k n) := by
  unfold decI at h
  split at h
  · split at h
    · cases h; rename_i e; subst e; exact q02 _
    · cases h
  · cases h
theorem q4w {d : D} {n : ByteArray} (h : decS d = some n) : dle d (D.s n) := by
  unfold decS at h
  split at h
  · cases h; exact q02 _
  · cases h
theorem qb2 {α : Type} {f : D → Option α} : decM f [] = some [] := rfl
theorem qbn {α : Type} {f : D → Option α} {d : D} {l : List D} : decM f (d :: l) = (match f d, decM f l with
    | some x, some r => some (x :: r)
    | _, _ => none) := rfl
theorem qdm {α : Type} {f : α → D} {l : List α} {d : D} : (l.map f ++ [d]).take (l.length + 1) = l.map f ++ [d] := List.take_of_length_le (by simp)
theorem qfw {α : Type} {f : D → Option α} {g : α → D} (h : ∀ x, f (g x) = some x) : ∀ l : List α, decM f (l.map g) = some l
  | [] => rfl
  | x :: l => by simp [decM, h, qfw h l]
theorem qd0 {α : Type} {f : D → Option α} : ∀ {l m : List D}, decM f (l ++ m) = (match decM f l, decM f m with
    | some x, some y => some (x ++ y)
    | _, _ => none)
  | [], m => by
    simp only [List.nil_append, decM]
    cases decM f m <;> rfl
  | d :: l, m => by
    simp only [List.cons_append, decM, qd0 (l := l) (m := m)]
    cases f d <;> cases decM f l <;> cases decM f m <;> rfl
theorem qck {α : Type} {f : D → Option α} {z : Nat} : decL z f .nil = some [] := rfl
theorem qch {α : Type} {f : D → Option α} {z z' : Nat} {l : List D} : decL z f (.sl z' l) = if z' = z then decM f l else none := rfl
theorem qfx {α : Type} {f : D → Option α} {g : α → D} {z : Nat} (h : ∀ x, f (g x) = some x) (l : List α) : decL z f (.sl z (l.map g)) = some l := by simp [decL, qfw h]
theorem qj3 {l m : List D} (h : l = m) : dles l m := h ▸ q0q l
theorem qv7 {α : Type} {f : D → Option α} {g : α → D} (h : ∀ {d x}, f d = some x → dle d (g x)) : ∀ {l : List D} {x : List α}, decM f l = some x → dles l (x.map g)
  | [], x, hl => by cases hl; simp [dles]
  | d :: l, x, hl => by
    unfold decM at hl
    split at hl
    · rename_i a r h1 h2
      cases hl
      simp only [List.map_cons, dles]
      exact ⟨h h1, qv7 h h2⟩
    · cases hl
theorem q0x {α : Type} {f : D → Option α} {g : α → D} {z : Nat} (h : ∀ {d x}, f d = some x → dle d (g x)) {d : D} {x : List α} (hd : decL z f d = some x) : dle d (.sl z (x.map g)) := by
  unfold decL at hd
  split at hd
  · cases hd; simp [dle]
  · split at hd
    · rename_i e
      subst e
      simp only [dle]
      exact ⟨trivial, qv7 h hd⟩
    · cases hd
  · cases hd
theorem qv8 (x y : ByteArray) : seq x y = true ↔ x = y := by
  unfold seq
  rw [beq_iff_eq, ByteArray.toList_eq, ByteArray.toList_eq]
  exact ⟨fun h => Go.WideShapes.bytes_inj h, fun h => by rw [h]⟩
theorem qdr (x y : ByteArray) : seq x y = decide (x = y) := by
  rw [Bool.eq_iff_iff, qv8, decide_eq_true_iff]
end Go.Ev

namespace Go.Ev
structure Change where
  file : ByteArray
  kind : Int
  rrn : Int
  before : ByteArray
  after : ByteArray
deriving DecidableEq
def q0u (x : Change) : D := .agg [.s x.file, .i .i64 x.kind, .i .i64 x.rrn, .s x.before, .s x.after]
def q09 : Change := ⟨⟨#[]⟩, 0, 0, ⟨#[]⟩, ⟨#[]⟩⟩
theorem qba (x : Change) : (⟨x.file, x.kind, x.rrn, x.before, x.after⟩ : Change) = x := rfl
def q00 : D → Option Change
  | .agg [.s a0, .i .i64 a1, .i .i64 a2, .s a3, .s a4] => some ⟨a0, a1, a2, a3, a4⟩
  | _ => none
theorem qqk (x : Change) : q00 (q0u x) = some x := rfl
theorem qe1 {d : D} {x : Change} (h : q00 d = some x) : dle d (q0u x) := by
  unfold q00 at h
  split at h
  · cases h; exact q02 _
  · cases h
theorem qbh : (⟨⟨#[]⟩, 0, 0, ⟨#[]⟩, ⟨#[]⟩⟩ : Change) = q09 := rfl
theorem qd5 {a0 b0 : ByteArray} {a1 b1 : Int} {a2 b2 : Int} {a3 b3 : ByteArray} {a4 b4 : ByteArray} : qdg [.s, .i, .i, .s, .s] [.s a0, .i .i64 a1, .i .i64 a2, .s a3, .s a4] [.s b0, .i .i64 b1, .i .i64 b2, .s b3, .s b4] = some (eqB (⟨a0, a1, a2, a3, a4⟩ : Change) ⟨b0, b1, b2, b3, b4⟩) := by
  simp only [qdg, qil, qdr, ↓reduceIte, Option.some.injEq, Bool.and_true]; rw [Bool.eq_iff_iff]; simp [eqB]
theorem q3o (l : List Change) (k : Nat) : (l.map q0u).getD k (q0u q09) = q0u (l.getD k q09) := by
  simp only [List.getD, List.getElem?_map]
  cases l[k]? <;> rfl
theorem qea (l : List Change) (k : Nat) : (l.map q0u).getD k (.agg [.s ⟨#[]⟩, .i .i64 0, .i .i64 0, .s ⟨#[]⟩, .s ⟨#[]⟩]) = q0u (l.getD k q09) := q3o l k
theorem qcy (l : List Change) : decL 5 q00 (.sl 5 (l.map q0u)) = some l := qfx qqk l
theorem qcz (l : List Change) : decM q00 (l.map q0u) = some l := qfw qqk l
structure Entry where
  number : Int
  kind : Int
  unit : Int
  change : Change
deriving DecidableEq
def q0r (x : Entry) : D := .agg [.i .i64 x.number, .i .i64 x.kind, .i .i64 x.unit, .s x.change.file, .i .i64 x.change.kind, .i .i64 x.change.rrn, .s x.change.before, .s x.change.after]
def q0i : Entry := ⟨0, 0, 0, q09⟩
theorem qb4 (x : Entry) : (⟨x.number, x.kind, x.unit, x.change⟩ : Entry) = x := rfl
def q0w : D → Option Entry
  | .agg [.i .i64 a0, .i .i64 a1, .i .i64 a2, .s a3, .i .i64 a4, .i .i64 a5, .s a6, .s a7] => some ⟨a0, a1, a2, ⟨a3, a4, a5, a6, a7⟩⟩
  | _ => none
theorem qq7 (x : Entry) : q0w (q0r x) = some x := rfl
theorem q03 {d : D} {x : Entry} (h : q0w d = some x) : dle d (q0r x) := by
  unfold q0w at h
  split at h
  · cases h; exact q02 _
  · cases h
theorem qcl : (⟨0, 0, 0, q09⟩ : Entry) = q0i := rfl
theorem qeo {a0 b0 : Int} {a1 b1 : Int} {a2 b2 : Int} {a3 b3 : ByteArray} {a4 b4 : Int} {a5 b5 : Int} {a6 b6 : ByteArray} {a7 b7 : ByteArray} : qdg [.i, .i, .i, .s, .i, .i, .s, .s] [.i .i64 a0, .i .i64 a1, .i .i64 a2, .s a3, .i .i64 a4, .i .i64 a5, .s a6, .s a7] [.i .i64 b0, .i .i64 b1, .i .i64 b2, .s b3, .i .i64 b4, .i .i64 b5, .s b6, .s b7] = some (eqB (⟨a0, a1, a2, ⟨a3, a4, a5, a6, a7⟩⟩ : Entry) ⟨b0, b1, b2, ⟨b3, b4, b5, b6, b7⟩⟩) := by
  simp only [qdg, qil, qdr, ↓reduceIte, Option.some.injEq, Bool.and_true]; rw [Bool.eq_iff_iff]; simp [eqB]
theorem q59 (l : List Entry) (k : Nat) : (l.map q0r).getD k (q0r q0i) = q0r (l.getD k q0i) := by
  simp only [List.getD, List.getElem?_map]
  cases l[k]? <;> rfl
theorem qcn (l : List Entry) (k : Nat) : (l.map q0r).getD k (.agg [.i .i64 0, .i .i64 0, .i .i64 0, .s ⟨#[]⟩, .i .i64 0, .i .i64 0, .s ⟨#[]⟩, .s ⟨#[]⟩]) = q0r (l.getD k q0i) := q59 l k
theorem qdu (l : List Entry) : decL 8 q0w (.sl 8 (l.map q0r)) = some l := qfx qq7 l
theorem qdz (l : List Entry) : decM q0w (l.map q0r) = some l := qfw qq7 l
structure Packet where
  kind : Int
  number : Int
deriving DecidableEq
def qxe (x : Packet) : D := .agg [.i .i64 x.kind, .i .i64 x.number]
def qxf : D → Option Packet
  | .agg [.i .i64 a0, .i .i64 a1] => some ⟨a0, a1⟩
  | _ => none
theorem qyu (x : Packet) : qxf (qxe x) = some x := rfl
theorem qe6 (l : List Packet) : decM qxf (l.map qxe) = some l := qfw qyu l
structure Remote where
  sync : Bool
  source : List Entry
  target : List Entry
  sent : Int
  acked : Int
  wire : List Packet
deriving DecidableEq
structure RAct where
  kind : Int
  n : Int
  entry : Entry
deriving DecidableEq
def q4x (x : RAct) : D := .agg [.i .i64 x.kind, .i .i64 x.n, .i .i64 x.entry.number, .i .i64 x.entry.kind, .i .i64 x.entry.unit, .s x.entry.change.file, .i .i64 x.entry.change.kind, .i .i64 x.entry.change.rrn, .s x.entry.change.before, .s x.entry.change.after]
def q4y : D → Option RAct
  | .agg [.i .i64 a0, .i .i64 a1, .i .i64 a2, .i .i64 a3, .i .i64 a4, .s a5, .i .i64 a6, .i .i64 a7, .s a8, .s a9] => some ⟨a0, a1, ⟨a2, a3, a4, ⟨a5, a6, a7, a8, a9⟩⟩⟩
  | _ => none
theorem q3p (x : RAct) : q4y (q4x x) = some x := rfl
theorem qgg (l : List RAct) : decM q4y (l.map q4x) = some l := qfw q3p l
structure AUnit where
  unit : Int
  first : Int
  last : Int
  state : Int
deriving DecidableEq
def qbu (x : AUnit) : D := .agg [.i .i64 x.unit, .i .i64 x.first, .i .i64 x.last, .i .i64 x.state]
def qjo : AUnit := ⟨0, 0, 0, 0⟩
theorem qjp (x : AUnit) : (⟨x.unit, x.first, x.last, x.state⟩ : AUnit) = x := rfl
def qe8 : D → Option AUnit
  | .agg [.i .i64 a0, .i .i64 a1, .i .i64 a2, .i .i64 a3] => some ⟨a0, a1, a2, a3⟩
  | _ => none
theorem qq8 (x : AUnit) : qe8 (qbu x) = some x := rfl
theorem qs3 {d : D} {x : AUnit} (h : qe8 d = some x) : dle d (qbu x) := by
  unfold qe8 at h
  split at h
  · cases h; exact q02 _
  · cases h
theorem qly : (⟨0, 0, 0, 0⟩ : AUnit) = qjo := rfl
theorem qkl {a0 b0 : Int} {a1 b1 : Int} {a2 b2 : Int} {a3 b3 : Int} : qdg [.i, .i, .i, .i] [.i .i64 a0, .i .i64 a1, .i .i64 a2, .i .i64 a3] [.i .i64 b0, .i .i64 b1, .i .i64 b2, .i .i64 b3] = some (eqB (⟨a0, a1, a2, a3⟩ : AUnit) ⟨b0, b1, b2, b3⟩) := by
  simp only [qdg, qil, qdr, ↓reduceIte, Option.some.injEq, Bool.and_true]; rw [Bool.eq_iff_iff]; simp [eqB]
theorem q6a (l : List AUnit) (k : Nat) : (l.map qbu).getD k (qbu qjo) = qbu (l.getD k qjo) := by
  simp only [List.getD, List.getElem?_map]
  cases l[k]? <;> rfl
theorem qig (l : List AUnit) (k : Nat) : (l.map qbu).getD k (.agg [.i .i64 0, .i .i64 0, .i .i64 0, .i .i64 0]) = qbu (l.getD k qjo) := q6a l k
theorem qkm (l : List AUnit) : decL 4 qe8 (.sl 4 (l.map qbu)) = some l := qfx qq8 l
theorem qjq (l : List AUnit) : decM qe8 (l.map qbu) = some l := qfw qq8 l
end Go.Ev

namespace Go.Ev
def qpr : Nat → List Entry → Bool
  | _, [] => true
  | i, e :: r => decide (i ≤ 81) && (decide (e.change.before.size ≤ 300) && decide (e.change.after.size ≤ 300)) && qpr (i + 1) r
def qld (l : List Entry) : Bool := qpr 0 l
def chr (s : ByteArray) (i : Nat) : Int := ((s.data.toList.getD i 0).toNat : Int)
def qog (first : Bool) (c : Int) : Bool := (decide (65 ≤ c) && decide (c ≤ 90) || c == 35 || c == 36 || c == 64) || (!first && (c == 95 || c == 46 || decide (48 ≤ c) && decide (c ≤ 57)))
def qbb (s : ByteArray) : Bool := decide (1 ≤ s.size) && decide (s.size ≤ 10) && (List.range s.size).all fun i => qog (i == 0) (chr s i)
theorem qbm (s : ByteArray) (k : Nat) : (qhl s).getD k (.i .u8 0) = .i .u8 (chr s k) := by
  unfold qhl chr
  simp only [List.getD, List.getElem?_map]
  cases s.data.toList[k]? <;> rfl
theorem qz0 (s : ByteArray) (i : Nat) : 0 ≤ chr s i ∧ chr s i ≤ 255 := by
  unfold chr
  have := (s.data.toList.getD i 0).toNat_lt
  omega
theorem qdd (s : ByteArray) (i : Nat) : ((s.data.toList.getD i 0).toNat : Int) = chr s i := rfl
theorem qq9 {s : ByteArray} {i : Nat} (h : i < s.size) (hc : qog (i == 0) (chr s i) = false) : qbb s = false := by
  unfold qbb
  rw [Bool.and_eq_false_iff]
  right
  rw [List.all_eq_false]
  exact ⟨i, by simpa using h, by simp [hc]⟩
theorem qps {s : ByteArray} (h1 : 1 ≤ s.size) (h2 : s.size ≤ 10) (h : ∀ j, j < s.size → qog (j == 0) (chr s j) = true) : qbb s = true := by
  unfold qbb
  simp only [Bool.and_eq_true, decide_eq_true_eq, List.all_eq_true, List.mem_range]
  exact ⟨⟨h1, h2⟩, h⟩
theorem qpt {s : ByteArray} (h : (s.size : Int) < 1 ∨ 10 < (s.size : Int)) : qbb s = false := by
  unfold qbb
  rw [Bool.and_eq_false_iff]
  left
  simp only [Bool.and_eq_false_iff, decide_eq_false_iff_not]
  omega
theorem qk0 (i : Nat) (c : Int) : qog (i == 0) c = true ↔ (((65 ≤ c ∧ c ≤ 90) ∨ c = 35 ∨ c = 36 ∨ c = 64) ∨ (i ≠ 0 ∧ (c = 95 ∨ c = 46 ∨ (48 ≤ c ∧ c ≤ 57)))) := by
  simp [qog]
  omega
theorem qtj (s : ByteArray) : s = ⟨#[]⟩ ↔ s.size = 0 := by
  constructor
  · rintro rfl; rfl
  · intro h
    cases s with | mk d => simp only [ByteArray.size, Array.size_eq_zero_iff] at h; rw [h]
def qk1 (c : Change) : Int :=
  if ¬(0 ≤ c.kind ∧ c.kind ≤ 2) then 4 else if ¬(1 ≤ c.rrn ∧ c.rrn ≤ 60) then 3 else if 200 < c.before.size ∨ 200 < c.after.size then 18
  else if ¬(c.before = ⟨#[]⟩ ↔ c.kind = 0) ∨ ¬(c.after = ⟨#[]⟩ ↔ c.kind = 2) then 5 else 0
def qlz (e : Entry) : Entry :=
  if e.kind = 0 then e else if e.kind = 1 ∨ e.kind = 2 ∨ e.kind = 3 then ⟨e.number, e.kind, e.unit, q09⟩
  else if e.kind = 4 then ⟨e.number, e.kind, 0, { q09 with file := e.change.file }⟩ else ⟨e.number, e.kind, 0, q09⟩
theorem qxg (a b : Entry) : a = b ↔ a.number = b.number ∧ a.kind = b.kind ∧ a.unit = b.unit ∧ a.change.file = b.change.file ∧ a.change.kind = b.change.kind ∧ a.change.rrn = b.change.rrn ∧ a.change.before = b.change.before ∧ a.change.after = b.change.after := by
  cases a with | mk a1 a2 a3 a4 => cases a4; cases b with | mk b1 b2 b3 b4 => cases b4; simp
theorem qun (a b : Change) : a = b ↔ a.file = b.file ∧ a.kind = b.kind ∧ a.rrn = b.rrn ∧ a.before = b.before ∧ a.after = b.after := by
  cases a; cases b; simp
def qsc (e : Entry) : Int := if qlz e = e then 0 else 5
def qc7 (e : Entry) : Int :=
  if ¬(0 ≤ e.kind ∧ e.kind ≤ 5) then 4 else if ¬(1 ≤ e.number ∧ e.number ≤ 9999) then 3
  else if (e.kind = 1 ∨ e.kind = 2 ∨ e.kind = 3) ∧ ¬(1 ≤ e.unit ∧ e.unit ≤ 999) then 3
  else if e.kind = 0 ∧ ¬(0 ≤ e.unit ∧ e.unit ≤ 999) then 3
  else if ¬qlz e = e then 5 else if e.kind ≠ 0 ∧ e.kind ≠ 4 then 0 else if qbb e.change.file = false then 7
  else if e.kind = 4 then 0 else qk1 e.change
def qle (u : Int) (e : Entry) : Bool := e.kind == 1 && e.unit == u
def pEnd (u : Int) (e : Entry) : Bool := (e.kind == 2 || e.kind == 3) && e.unit == u
def begins (l : List Entry) (u : Int) : Bool := l.any (qle u)
def qfr (l : List Entry) (u : Int) : Option Entry := l.find? (pEnd u)
def ends (l : List Entry) (u : Int) : Int := match qfr l u with | some e => e.kind | none => -1
def isOpen (l : List Entry) (u : Int) : Bool := begins l u && ends l u == -1
def qep (b : List Entry) (e : Entry) : Int :=
  if e.kind = 1 then (if isOpen b e.unit = true then 26 else if begins b e.unit = true then 13 else 0)
  else if e.kind = 2 ∨ e.kind = 3 then (if isOpen b e.unit = true then 0 else 26)
  else if e.kind = 0 then (if e.unit ≠ 0 ∧ isOpen b e.unit = false then 26 else 0) else 0
def qeb (l : List Entry) : Nat → Nat → Int × Int
  | 0, _ => (0, 0)
  | n + 1, i =>
    if qc7 (l.getD i q0i) ≠ 0 then (i, qc7 (l.getD i q0i))
    else if 0 < i ∧ (l.getD i q0i).number ≠ IntKind.i64.wrap ((l.getD ((i : Int) - 1).toNat q0i).number + 1) then (i, 14)
    else if qep (l.take i) (l.getD i q0i) ≠ 0 then (i, qep (l.take i) (l.getD i q0i))
    else qeb l n (i + 1)
def qbc (l : List Entry) : Int × Int := if 80 < l.length then (0, 2) else qeb l l.length 0
theorem qhp {l : List Entry} {i : Nat} (h : i < l.length) : qeb l (l.length - i) i =
    if qc7 (l.getD i q0i) ≠ 0 then ((i : Int), qc7 (l.getD i q0i))
    else if 0 < i ∧ (l.getD i q0i).number ≠ IntKind.i64.wrap ((l.getD ((i : Int) - 1).toNat q0i).number + 1) then ((i : Int), 14)
    else if qep (l.take i) (l.getD i q0i) ≠ 0 then ((i : Int), qep (l.take i) (l.getD i q0i))
    else qeb l (l.length - (i + 1)) (i + 1) := by
  obtain ⟨n, hn⟩ : ∃ n, l.length - i = n + 1 := ⟨l.length - i - 1, by omega⟩
  rw [hn, show l.length - (i + 1) = n by omega]
  rfl
theorem qmz {l : List Entry} {i : Nat} (h : l.length ≤ i) : qeb l (l.length - i) i = (0, 0) := by
  rw [show l.length - i = 0 by omega]; rfl
theorem qjr (i : Nat) : ((i : Int) - 1).toNat = i - 1 := by omega
section
variable {l : List Entry} {c : Int × Int} {i : Nat}
theorem qo5 (h : qeb l (l.length - i) i = c) (hi : i < l.length) (h1 : ¬qc7 (l.getD i q0i) = 0) : c.1 = i ∧ c.2 = qc7 (l.getD i q0i) := by
  rw [qhp hi, if_pos h1] at h
  rw [← h]; exact ⟨rfl, rfl⟩
theorem qo6 (h : qeb l (l.length - i) i = c) (hi : i < l.length) (h1 : qc7 (l.getD i q0i) = 0) (h0 : 0 < (i : Int)) (h2 : ¬(l.getD i q0i).number = IntKind.i64.wrap ((l.getD ((i : Int) - 1).toNat q0i).number + 1)) : c.1 = i ∧ c.2 = 14 := by
  rw [qhp hi, if_neg (fun e => e h1), if_pos ⟨by omega, h2⟩] at h
  rw [← h]; exact ⟨rfl, rfl⟩
theorem qo7 (h : qeb l (l.length - i) i = c) (hi : i < l.length) (h1 : qc7 (l.getD i q0i) = 0) (h2 : (i : Int) ≤ 0 ∨ (l.getD i q0i).number = IntKind.i64.wrap ((l.getD ((i : Int) - 1).toNat q0i).number + 1)) (h3 : ¬qep (l.take i) (l.getD i q0i) = 0) :
    c.1 = i ∧ c.2 = qep (l.take i) (l.getD i q0i) := by
  rw [qhp hi, if_neg (fun e => e h1), if_neg (by omega), if_pos h3] at h
  rw [← h]; exact ⟨rfl, rfl⟩
theorem qv9 (h : qeb l (l.length - i) i = c) (hi : i < l.length) (h1 : qc7 (l.getD i q0i) = 0) (h2 : (i : Int) ≤ 0 ∨ (l.getD i q0i).number = IntKind.i64.wrap ((l.getD ((i : Int) - 1).toNat q0i).number + 1)) (h3 : qep (l.take i) (l.getD i q0i) = 0) :
    qeb l (l.length - (i + 1)) (i + 1) = c := by
  rwa [qhp hi, if_neg (fun e => e h1), if_neg (by omega), if_neg (fun e => e h3)] at h
end
section
variable {l : List Entry} {u : Int} {i : Nat}
theorem qbes {α : Type} {l : List α} {i : Nat} (z : α) (h : i < l.length) : l.getD i z ∈ l := by
  simp only [List.getD, List.getElem?_eq_getElem h, Option.getD_some]
  exact List.getElem_mem h
theorem qpu (h : i < l.length) (h1 : (l.getD i q0i).kind = 1) (h2 : (l.getD i q0i).unit = u) : begins l u = true := by
  unfold begins
  rw [List.any_eq_true]
  exact ⟨_, qbes q0i h, by simp only [qle, Bool.and_eq_true, beq_iff_eq]; exact ⟨h1, h2⟩⟩
theorem q3q (hb : begins (l.take i) u = false) (h : i < l.length) (hn : ¬((l.getD i q0i).kind = 1 ∧ (l.getD i q0i).unit = u)) : begins (l.take (i + 1)) u = false := by
  unfold begins at hb ⊢
  rw [qdw q0i h, List.any_append, hb]
  simp only [List.any_cons, List.any_nil, Bool.or_false, Bool.false_or, qle]
  rw [Bool.and_eq_false_iff]
  simp only [beq_eq_false_iff_ne, ne_eq]
  omega
theorem q6b (hb : begins (l.take i) u = false) (h : l.length ≤ i) : begins l u = false := by
  rwa [List.take_of_length_le h] at hb
theorem qz1 (hb : qfr (l.take i) u = none) (h : i < l.length) (h1 : (l.getD i q0i).kind = 2 ∨ (l.getD i q0i).kind = 3) (h2 : (l.getD i q0i).unit = u) : ends l u = (l.getD i q0i).kind := by
  have : qfr l u = some (l.getD i q0i) := by
    unfold qfr at hb ⊢
    rw [← List.take_append_drop i l, List.find?_append, hb, Option.none_or, List.take_append_drop, qe5 q0i h, List.find?_cons]
    have : pEnd u (l.getD i q0i) = true := by
      simp only [pEnd, Bool.and_eq_true, Bool.or_eq_true, beq_iff_eq]
      exact ⟨h1, h2⟩
    rw [this]
  unfold ends
  rw [this]
theorem qbao (hb : qfr (l.take i) u = none) (h : i < l.length) (hn : ¬(((l.getD i q0i).kind = 2 ∨ (l.getD i q0i).kind = 3) ∧ (l.getD i q0i).unit = u)) : qfr (l.take (i + 1)) u = none := by
  unfold qfr at hb ⊢
  rw [qdw q0i h, List.find?_append, hb, Option.none_or, List.find?_cons]
  have : pEnd u (l.getD i q0i) = false := by
    rw [← Bool.not_eq_true]
    simp only [pEnd, Bool.and_eq_true, Bool.or_eq_true, beq_iff_eq]
    exact hn
  rw [this]; rfl
theorem qbet (hb : qfr (l.take i) u = none) (h : l.length ≤ i) : ends l u = -1 := by
  rw [List.take_of_length_le h] at hb
  unfold ends; rw [hb]
end
theorem qgw {α : Type} {a b : List α} {i : Nat} {z : α} (h : a.take i = b.take i) (ha : i < a.length) (hb : i < b.length) (he : a.getD i z = b.getD i z) : a.take (i + 1) = b.take (i + 1) := by
  rw [qdw z ha, qdw z hb, h, he]
theorem qce {α : Type} {a b : List α} {i : Nat} (h : a.take i = b.take i) (ha : a.length ≤ i) (hb : b.length ≤ i) : a = b := by
  rwa [List.take_of_length_le ha, List.take_of_length_le hb] at h
def qpv (l first : List Entry) : Bool := decide (first.length ≤ l.length) && decide (l.take first.length = first)
def qo8 (ns nt : Nat) : List Packet → Int
  | [] => 0
  | p :: r => if ¬(0 ≤ p.kind ∧ p.kind ≤ 1) then 4 else if p.kind = 0 ∧ ¬(1 ≤ p.number ∧ p.number ≤ (ns : Int)) ∨ p.kind = 1 ∧ ¬(0 ≤ p.number ∧ p.number ≤ (nt : Int)) then 3 else qo8 ns nt r
def qoh (x : Remote) : Int :=
  if (qbc x.source).2 ≠ 0 then (qbc x.source).2
  else if 40 < x.source.length then 2
  else if 0 < x.source.length ∧ (x.source.getD 0 q0i).number ≠ 1 then 14
  else if qpv x.source x.target = false then 41
  else if ¬(0 ≤ x.sent ∧ x.sent ≤ (x.source.length : Int)) ∨ ¬(0 ≤ x.acked ∧ x.acked ≤ (x.target.length : Int) ∧ x.acked ≤ x.sent) then 3
  else if 12 < x.wire.length then 2
  else qo8 x.source.length x.target.length x.wire
end Go.Ev

namespace Go.Ev
theorem qoi {α : Type} {l : List α} {y z : α} {j : Nat} : (l ++ [y]).getD j z = if j < l.length then l.getD j z else if j = l.length then y else z := by
  simp only [List.getD, List.getElem?_append]
  by_cases h : j < l.length
  · simp [h]
  · simp only [h, if_false]
    by_cases e : j = l.length
    · subst e; simp
    · have : j - l.length ≠ 0 := by omega
      simp [e, List.getElem?_cons, this]
def pktOk (ns nt : Nat) (p : Packet) : Prop := (p.kind = 0 ∨ p.kind = 1) ∧ (p.kind = 0 → 1 ≤ p.number ∧ p.number ≤ (ns : Int)) ∧ (p.kind = 1 → 0 ≤ p.number ∧ p.number ≤ (nt : Int))
theorem qot {ns nt : Nat} : ∀ {l : List Packet}, qo8 ns nt l = 0 ↔ ∀ p ∈ l, pktOk ns nt p
  | [] => by simp [qo8]
  | p :: l => by
    rw [List.forall_mem_cons, ← qot (l := l), qo8]
    unfold pktOk
    constructor
    · intro h
      split at h
      · cases h
      · split at h
        · cases h
        · exact ⟨by omega, h⟩
    · rintro ⟨h1, h2⟩
      rw [if_neg (by omega), if_neg (by omega)]; exact h2
structure rightR (x : Remote) : Prop where
  c : (qbc x.source).2 = 0
  n : x.source.length ≤ 40
  f : 0 < x.source.length → (x.source.getD 0 q0i).number = 1
  t : x.target.length ≤ x.source.length
  b : x.source.take x.target.length = x.target
  s0 : 0 ≤ x.sent
  s1 : x.sent ≤ (x.source.length : Int)
  a0 : 0 ≤ x.acked
  a1 : x.acked ≤ (x.target.length : Int)
  a2 : x.acked ≤ x.sent
  w : x.wire.length ≤ 12
  p : ∀ p ∈ x.wire, pktOk x.source.length x.target.length p
theorem qyv {x : Remote} : qoh x = 0 ↔ rightR x := by
  constructor
  · intro h
    unfold qoh at h
    split at h
    · exact absurd h ‹_›
    split at h
    · cases h
    split at h
    · cases h
    split at h
    · cases h
    split at h
    · cases h
    split at h
    · cases h
    rename_i h1 h2 h3 h4 h5 h6
    simp only [Bool.not_eq_false, qpv, Bool.and_eq_true, decide_eq_true_eq] at h4
    exact ⟨by omega, by omega, fun hl => by omega, h4.1, h4.2, by omega, by omega, by omega, by omega, by omega, by omega, qot.1 h⟩
  · rintro ⟨h1, h2, h3, h4, h5, h6, h7, h8, h9, h10, h11, h12⟩
    unfold qoh
    rw [if_neg (by omega), if_neg (by omega), if_neg (fun h => h.2 (h3 h.1)), if_neg (by simp [qpv, h4, h5]), if_neg (by omega), if_neg (by omega)]
    exact qot.2 h12
theorem rightR.err {x : Remote} (h : rightR x) : qoh x = 0 := qyv.2 h
theorem pktOk.mono {ns nt ns' nt' : Nat} {p : Packet} (h : pktOk ns nt p) (h1 : ns ≤ ns') (h2 : nt ≤ nt') : pktOk ns' nt' p := by
  unfold pktOk at h ⊢
  omega
theorem qxh : ∀ {l : List Entry} {i : Nat}, qpr i l = true → i ≤ 82 → l.length + i ≤ 82
  | [], i, _, h => by simpa using h
  | e :: l, i, h, hi => by
    simp only [qpr, Bool.and_eq_true, decide_eq_true_eq] at h
    have := qxh h.2 (by omega)
    simp only [List.length_cons]; omega
theorem qmp {l : List Entry} (h : qld l = true) : l.length ≤ 82 := qxh h (by omega)
theorem nc0 : ((0 : Nat) : Int) = 0 := rfl
theorem nc1 : ((1 : Nat) : Int) = 1 := rfl
theorem nc2 : ((2 : Nat) : Int) = 2 := rfl
end Go.Ev

namespace Go.Ev
theorem qbmg (B : Nat) : ∃ p : (Nat → Nat) × (Nat → Option Nat), (∀ k, B ≤ p.1 k) ∧ (∀ k, p.2 (p.1 k) = some k) ∧ ∀ i k, p.2 i = some k → i = p.1 k := by
  refine ⟨(fun k => k + B, fun i => if B ≤ i then some (i - B) else none), fun k => Nat.le_add_left _ _, fun k => ?_, fun i k h => ?_⟩
  · show (if _ then _ else _) = _
    rw [if_pos (Nat.le_add_left _ _), Nat.add_sub_cancel]
  · have h : (if B ≤ i then some (i - B) else none) = some k := h
    show i = k + B
    split at h
    · cases h; omega
    · cases h
theorem qra : ∃ p : (Nat → Nat) × (Nat → Option Nat), (∀ k, 1000000 ≤ p.1 k) ∧ (∀ k, p.2 (p.1 k) = some k) ∧ ∀ i k, p.2 i = some k → i = p.1 k := qbmg 1000000
noncomputable def fnm : Nat → Nat := (Classical.choose qra).1
noncomputable def finv : Nat → Option Nat := (Classical.choose qra).2
theorem qz2 (k : Nat) : 1000000 ≤ fnm k := (Classical.choose_spec qra).1 k
theorem qpw (k : Nat) : finv (fnm k) = some k := (Classical.choose_spec qra).2.1 k
theorem qz3 {i k : Nat} (h : finv i = some k) : i = fnm k := (Classical.choose_spec qra).2.2 i k h
theorem qe3 {j k : Nat} : (fnm j = fnm k) = (j = k) := by
  refine propext ⟨fun h => ?_, fun h => by rw [h]⟩
  have := qpw j
  rw [h, qpw] at this
  exact (Option.some.inj this).symm
theorem qfo {i k : Nat} (h : i < 1000000) : (i = fnm k) = False := by
  refine propext ⟨fun e => ?_, False.elim⟩
  have := qz2 k
  omega
theorem qek {i k : Nat} (h : i < 1000000) : (fnm k = i) = False := by
  refine propext ⟨fun e => ?_, False.elim⟩
  have := qz2 k
  omega
noncomputable def famF (t : TypeId) : Nat → List (List D) → List (Nat × HS)
  | _, [] => []
  | k, c :: r => (fnm k, .live (.box t (c.map .d))) :: famF t (k + 1) r
noncomputable def fam (t : TypeId) (cs : List (List D)) : List (Nat × HS) := famF t 0 cs
noncomputable def ptrs (n : Nat) : List V := (List.range n).map fun k => .ptr (fnm k) 0
theorem qxi {t : TypeId} : ∀ {cs : List (List D)} {j k : Nat}, aget (famF t j cs) (fnm k) = if j ≤ k then (cs[k - j]?).map fun c => HS.live (.box t (c.map .d)) else none
  | [], j, k => by simp [famF, aget]
  | c :: r, j, k => by
    simp only [famF, aget, qe3]
    by_cases e : k = j
    · subst e; simp
    · rw [if_neg e, qxi]
      by_cases h : j ≤ k
      · rw [if_pos h, if_pos (by omega), show k - j = (k - (j + 1)) + 1 by omega, List.getElem?_cons_succ]
      · rw [if_neg h, if_neg (by omega)]
theorem qnu {t : TypeId} {i : Nat} (h : ∀ k, i ≠ fnm k) : ∀ {cs : List (List D)} {j : Nat}, aget (famF t j cs) i = none
  | [], j => rfl
  | c :: r, j => by
    simp only [famF, aget]
    rw [if_neg (h j), qnu h]
theorem qz4 {t : TypeId} {i : Nat} (h : i < 1000000) {cs : List (List D)} {j : Nat} : aget (famF t j cs) i = none :=
  qnu fun k e => by have := qz2 k; omega
theorem qkn {t : TypeId} {cs : List (List D)} {k : Nat} : aget (fam t cs) (fnm k) = (cs[k]?).map fun c => HS.live (.box t (c.map .d)) := by
  unfold fam; rw [qxi]; simp
theorem q3r {t : TypeId} {cs : List (List D)} {i : Nat} (h : i < 1000000) : aget (fam t cs) i = none := qz4 h
theorem qbeu {n k : Nat} (h : k < n) : (ptrs n).getD k (.d .np) = .ptr (fnm k) 0 := by
  simp [ptrs, List.getD, h]
theorem qbis {ρ : Nat → Option Nat} {nf : Nat → Prop} : ∀ (l : List D), vss ρ nf (l.map .d) (l.map .d)
  | [] => trivial
  | d :: l => by
    simp only [List.map_cons, vss, vs]
    exact ⟨q02 d, qbis l⟩
theorem q4z {ρ : Nat → Option Nat} {nf : Nat → Prop} {f g : Nat → Nat} : ∀ (l : List Nat), (∀ k ∈ l, ρ (g k) = some (f k) ∧ nf (g k)) → vss ρ nf (l.map fun k => .ptr (f k) 0) (l.map fun k => .ptr (g k) 0)
  | [], _ => trivial
  | k :: l, h => by
    simp only [List.map_cons, vss, vs]
    exact ⟨⟨_, rfl, h k (by simp)⟩, q4z l fun j hj => h j (by simp [hj])⟩
theorem qwa {C : Cfg} {M T t : Nat} (hM : M < 1000000) (hp0 : C.pins = []) {sl sl' : List (Nat × V)} {hp : List (Nat × HS)} {ks : List D} {cs : List (List D)} (r : Nat → Nat)
    (hmap : aget hp M = some (.live (.mp T ks ((List.range cs.length).map fun k => .ptr (r k) 0))))
    (hbox : ∀ k c, cs[k]? = some c → aget hp (r k) = some (.live (.box t (c.map .d))))
    (hr : ∀ k k', k < cs.length → k' < cs.length → r k = r k' → k = k') (hrM : ∀ k, k < cs.length → r k ≠ M)
    (hs : ∀ (ρ : Nat → Option Nat) (nf : Nat → Prop), ρ M = some M → nf M → qi0 ρ nf sl sl') :
    Sub C (mkS sl hp) (mkS sl' ((M, .live (.mp T ks (ptrs cs.length))) :: fam t cs)) := by
  let ρ : Nat → Option Nat := fun i => if i = M then some M else match finv i with | some k => if k < cs.length then some (r k) else none | none => none
  have e1 : ρ M = some M := if_pos rfl
  have e2 : ∀ k, k < cs.length → ρ (fnm k) = some (r k) := fun k hk => by
    show (if _ then _ else match finv (fnm k) with | some k => if k < cs.length then some (r k) else none | none => none) = _
    rw [if_neg (by rw [qek hM]; exact id), qpw]
    exact if_pos hk
  have hp1 : ∀ k, k < cs.length → ∃ c, cs[k]? = some c ∧ (mkS sl' ((M, .live (.mp T ks (ptrs cs.length))) :: fam t cs)).hp (fnm k) = .live (.box t (c.map .d)) := fun k hk => by
    refine ⟨cs[k], by simp [hk], ?_⟩
    show (aget _ _).getD HS.free = _
    simp only [aget, qek hM, if_false]
    rw [qkn]; simp [hk]
  have hpM : (mkS sl' ((M, .live (.mp T ks (ptrs cs.length))) :: fam t cs)).hp M = .live (.mp T ks (ptrs cs.length)) := by
    show (aget _ _).getD HS.free = _
    simp [aget]
  have nfM : Nf (mkS sl' ((M, .live (.mp T ks (ptrs cs.length))) :: fam t cs)).hp M := by unfold Nf; rw [hpM]; rfl
  have nfk : ∀ k, k < cs.length → Nf (mkS sl' ((M, .live (.mp T ks (ptrs cs.length))) :: fam t cs)).hp (fnm k) := fun k hk => by
    obtain ⟨c, _, h⟩ := hp1 k hk
    unfold Nf; rw [h]; rfl
  refine SubBy.sub (ρ := ρ) ⟨fun i y hy => ?_, fun i o' ho' => ?_, fun i j a hi hj => ?_⟩ (by rw [hp0]; intro p hp; cases hp)
  · exact qq6 (hs ρ _ e1 nfM) (qiz hy)
  · by_cases e : i = M
    · subst e
      rw [hpM] at ho' ⊢
      cases ho'
      refine .inl ⟨i, _, e1, by show ((aget hp i).getD HS.free).obj? = _; rw [hmap]; rfl, ?_, fun _ => by show ((aget hp i).getD HS.free).isLive = true; rw [hmap]; rfl⟩
      simp only [os]
      exact ⟨trivial, q0q _, q4z _ fun k hk => ⟨e2 k (by simpa using hk), nfk k (by simpa using hk)⟩⟩
    · have hno : (∀ k, k < cs.length → i ≠ fnm k) → False := fun h => by
        have hf : (mkS sl' ((M, .live (.mp T ks (ptrs cs.length))) :: fam t cs)).hp i = .free := by
          show (aget _ _).getD HS.free = _
          simp only [aget]
          rw [if_neg e]
          cases hv : finv i with
          | none => rw [show aget (fam t cs) i = none from qnu fun k e => by rw [e, qpw] at hv; cases hv]; rfl
          | some k =>
            have := qz3 hv
            subst this
            rw [qkn, List.getElem?_eq_none (Nat.le_of_not_lt fun hl => h k hl rfl)]; rfl
        rw [hf] at ho'; cases ho'
      by_cases h : ∃ k, k < cs.length ∧ i = fnm k
      · obtain ⟨k, hk, rfl⟩ := h
        obtain ⟨c, hc, hh⟩ := hp1 k hk
        rw [hh] at ho' ⊢
        cases ho'
        have hb := hbox k c hc
        refine .inl ⟨r k, _, e2 k hk, by show ((aget hp (r k)).getD HS.free).obj? = _; rw [hb]; rfl, ?_, fun _ => by show ((aget hp (r k)).getD HS.free).isLive = true; rw [hb]; rfl⟩
        simp only [os]
        exact ⟨trivial, qbis c⟩
      · exact (hno fun k hk e => h ⟨k, hk, e⟩).elim
  · have inv : ∀ i, ρ i = some a → (i = M ∧ a = M) ∨ ∃ k, k < cs.length ∧ i = fnm k ∧ a = r k := fun i hi => by
      have hi : (if i = M then some M else match finv i with | some k => if k < cs.length then some (r k) else none | none => none) = some a := hi
      split at hi
      · cases hi; exact .inl ⟨‹_›, rfl⟩
      · split at hi
        · rename_i k hk
          split at hi
          · cases hi; exact .inr ⟨k, ‹_›, qz3 hk, rfl⟩
          · cases hi
        · cases hi
    rcases inv i hi with ⟨h1, h2⟩ | ⟨k, h1, h2, h3⟩ <;> rcases inv j hj with ⟨g1, g2⟩ | ⟨k', g1, g2, g3⟩
    · omega
    · exact absurd (g3.symm.trans h2) (hrM k' g1)
    · exact absurd (h3.symm.trans g2) (hrM k h1)
    · have := hr k k' h1 g1 (h3.symm.trans g3); rw [h2, g2, this]
theorem qbev {s : St} {t : TypeId} {cs : List (List D)} (hs : ∀ k c, cs[k]? = some c → s.hp (fnm k) = .live (.box t (c.map .d))) :
    toDs (toD2 s) (ptrs cs.length) = some (cs.map .cp, (List.range cs.length).map fnm) := by
  have one : ∀ (c : List D), toDs (toD1 s) (c.map .d) = some (c, []) := fun c => by
    induction c with
    | nil => rfl
    | cons d c ih => simp [toDs, toD1, ih]
  have key : ∀ n j, (∀ k, j ≤ k → k < j + n → k < cs.length) → toDs (toD2 s) ((List.range' j n).map fun k => .ptr (fnm k) 0) = some (((cs.drop j).take n).map .cp, (List.range' j n).map fnm) := fun n => by
    induction n with
    | zero => intro j _; simp [toDs]
    | succ n ih =>
      intro j h
      have hj := h j (by omega) (by omega)
      have hc : cs[j]? = some cs[j] := by simp [hj]
      have h2 : toD2 s (.ptr (fnm j) 0) = some (.cp cs[j], [fnm j]) := by
        simp only [toD2, qhk, hs j _ hc]
        rw [one]; rfl
      rw [List.range'_succ, List.map_cons, toDs, h2, ih (j + 1) fun k h1 h2 => h k (by omega) (by omega)]
      rw [List.drop_eq_getElem_cons hj]
      rfl
  have := key cs.length 0 fun k _ h => by omega
  rw [ptrs, List.range_eq_range', this]
  simp
end Go.Ev

namespace Go.Ev
def qdi (u : AUnit) : List D := [.i .i64 u.unit, .i .i64 u.first, .i .i64 u.last, .i .i64 u.state]
def keyU (u : AUnit) : D := .i .i64 u.unit
def uidx (us : List AUnit) (n : Int) : Option Nat := us.findIdx? (·.unit == n)
def uEnd (e : Entry) (u : AUnit) : AUnit := { u with last := e.number, state := if e.kind = 2 then 0 else if e.kind = 3 then 1 else u.state }
def qij (us : List AUnit) (e : Entry) : List AUnit :=
  if e.kind = 1 then us ++ [⟨e.unit, e.number, e.number, 2⟩]
  else if e.kind = 2 ∨ e.kind = 3 ∨ (e.kind = 0 ∧ e.unit ≠ 0) then match uidx us e.unit with
    | some k => us.modify k (uEnd e)
    | none => us
  else us
def qbv (l : List Entry) : List AUnit := l.foldl qij []
theorem qlf (l : List Entry) (e : Entry) : qbv (l ++ [e]) = qij (qbv l) e := by simp [qbv]
theorem qeq {l : List Entry} {i : Nat} (h : i < l.length) : qbv (l.take (i + 1)) = qij (qbv (l.take i)) (l.getD i q0i) := by
  rw [qdw q0i h, qlf]
theorem qz5 (us : List AUnit) (n : Int) : qeu (us.map keyU) (.i .i64 n) = uidx us n := by
  unfold uidx
  induction us with
  | nil => rfl
  | cons u us ih =>
    simp only [List.map_cons, qeu, keyU, kEq, List.findIdx?_cons]
    by_cases e : (u.unit == n) = true
    · simp [e]
    · simp only [e]
      rw [if_neg (by simp), ih]
      simp
def UInv (us : List AUnit) (b : List Entry) : Prop := ∀ n, begins b n = (uidx us n).isSome ∧ (begins b n = false → qfr b n = none) ∧ ∀ k u, uidx us n = some k → us[k]? = some u → (u.state = 2 ↔ qfr b n = none)
theorem qh2 {us : List AUnit} {n : Int} {k : Nat} (h : uidx us n = some k) : ∃ u, us[k]? = some u ∧ u.unit = n ∧ k < us.length := by
  unfold uidx at h
  rw [List.findIdx?_eq_some_iff_getElem] at h
  obtain ⟨h1, h2, _⟩ := h
  exact ⟨us[k], by simp [h1], by simpa using h2, h1⟩
theorem qpx {b : List Entry} {n : Int} : ends b n = -1 ↔ qfr b n = none := by
  unfold ends
  cases h : qfr b n with
  | none => simp
  | some e =>
    have := List.find?_some h
    simp only [pEnd, Bool.and_eq_true, Bool.or_eq_true, beq_iff_eq] at this
    simp only [reduceCtorEq, iff_false]
    omega
theorem qm8 {b : List Entry} {n : Int} : isOpen b n = true ↔ begins b n = true ∧ qfr b n = none := by
  unfold isOpen
  rw [Bool.and_eq_true, beq_iff_eq, qpx]
theorem UInv.nil : UInv [] [] := fun n => ⟨rfl, fun _ => rfl, fun k u h => by cases h⟩
theorem UInv.isOpen {us : List AUnit} {b : List Entry} (h : UInv us b) (n : Int) : isOpen b n = match uidx us n with | some k => decide ((us.getD k ⟨0, 0, 0, 0⟩).state = 2) | none => false := by
  obtain ⟨h1, h2, h3⟩ := h n
  rw [Bool.eq_iff_iff, qm8, h1]
  cases hu : uidx us n with
  | none => simp
  | some k =>
    obtain ⟨u, hk, _, hl⟩ := qh2 hu
    simp [← h3 k u hu hk, List.getD, hk]
theorem UInv.begins {us : List AUnit} {b : List Entry} (h : UInv us b) (n : Int) : begins b n = (uidx us n).isSome := (h n).1
theorem q3s (b : List Entry) (e : Entry) (n : Int) : begins (b ++ [e]) n = (begins b n || qle n e) := by simp [Go.Ev.begins]
theorem qbap (b : List Entry) (e : Entry) (n : Int) : qfr (b ++ [e]) n = none ↔ qfr b n = none ∧ pEnd n e = false := by
  simp [qfr, List.find?_append, List.find?_cons]
  cases pEnd n e <;> simp
theorem q3t (us : List AUnit) (k : Nat) (e : Entry) (n : Int) : uidx (us.modify k (uEnd e)) n = uidx us n := by
  unfold uidx
  induction us generalizing k with
  | nil => simp
  | cons u us ih =>
    cases k with
    | zero => simp [List.findIdx?_cons, uEnd]
    | succ k => simp only [List.modify_succ_cons, List.findIdx?_cons]; rw [ih]
theorem UInv.step {us : List AUnit} {b : List Entry} {e : Entry} (h : UInv us b) (h0 : qep b e = 0) : UInv (qij us e) (b ++ [e]) := by
  intro n
  obtain ⟨h1, h2, h3⟩ := h n
  rw [q3s, qbap]
  unfold qep at h0
  unfold qij
  by_cases k1 : e.kind = 1
  · rw [if_pos k1] at h0 ⊢
    have hb : Go.Ev.begins b e.unit = false := by
      split at h0
      · cases h0
      · split at h0
        · cases h0
        · simpa using ‹¬Go.Ev.begins b e.unit = true›
    have hu : uidx us e.unit = none := by
      have := (h e.unit).1
      rw [hb] at this
      cases hx : uidx us e.unit with
      | none => rfl
      | some _ => rw [hx] at this; cases this
    have hp : pEnd n e = false := by simp [pEnd, k1]
    have ha : uidx (us ++ [⟨e.unit, e.number, e.number, 2⟩]) n = (uidx us n <|> if e.unit = n then some us.length else none) := by
      unfold uidx
      rw [List.findIdx?_append]
      by_cases en : e.unit = n
      · simp [en, List.findIdx?_cons]
      · simp [en, List.findIdx?_cons]
    rw [ha]
    by_cases en : e.unit = n
    · subst en
      rw [hu]
      simp only [hb, qle, k1, hp, if_pos, Option.isSome_some, Bool.false_or, beq_self_eq_true, Bool.and_self, true_and, and_true]
      refine ⟨rfl, fun hf => by simp at hf, fun k u hk hu2 => ?_⟩
      rw [show (none <|> some us.length : Option Nat) = some us.length from rfl] at hk
      cases hk
      rw [List.getElem?_append_right (Nat.le_refl _)] at hu2
      simp at hu2
      subst hu2
      simp [h2 (by rw [hb])] <;> first | exact (h e.unit).2.1 hb | skip
    · simp only [en, if_false, qle, hp]
      rw [show (uidx us n <|> none) = uidx us n by cases uidx us n <;> rfl]
      have en2 : (e.unit == n) = false := by simpa using en
      simp only [en2, Bool.and_false, Bool.or_false, and_true]
      refine ⟨h1, h2, fun k u hk hu2 => ?_⟩
      obtain ⟨_, _, _, hl⟩ := qh2 hk
      rw [List.getElem?_append_left hl] at hu2
      exact h3 k u hk hu2
  · rw [if_neg k1] at h0 ⊢
    have hpb : qle n e = false := by simp [qle, k1]
    rw [hpb, Bool.or_false]
    by_cases k2 : e.kind = 2 ∨ e.kind = 3 ∨ (e.kind = 0 ∧ e.unit ≠ 0)
    · rw [if_pos k2]
      have ho : Go.Ev.isOpen b e.unit = true := by
        rcases k2 with k2 | k2 | k2
        · rw [if_pos (.inl k2)] at h0; split at h0; assumption; cases h0
        · rw [if_pos (.inr k2)] at h0; split at h0; assumption; cases h0
        · rw [if_neg (by omega), if_pos k2.1] at h0
          split at h0
          · cases h0
          · rename_i hh; cases hx : Go.Ev.isOpen b e.unit with
            | true => rfl
            | false => exact absurd ⟨k2.2, hx⟩ hh
      rw [qm8] at ho
      obtain ⟨g1, g2, g3⟩ := h e.unit
      rw [ho.1] at g1
      obtain ⟨k, hk⟩ := Option.isSome_iff_exists.1 g1.symm
      simp only [hk]
      rw [q3t]
      refine ⟨h1, fun hb => ⟨h2 hb, ?_⟩, fun k' u hk' hu => ?_⟩
      · by_cases en : e.unit = n
        · subst en; rw [ho.1] at hb; cases hb
        · have en2 : (e.unit == n) = false := by simpa using en
          simp [pEnd, en2]
      · rw [List.getElem?_modify] at hu
        by_cases en : e.unit = n
        · subst en
          rw [hk] at hk'; cases hk'
          obtain ⟨v, hv, _, _⟩ := qh2 hk
          rw [hv] at hu
          simp at hu
          subst hu
          have := g3 k v hk hv
          simp only [uEnd, pEnd]
          rcases k2 with k2 | k2 | k2
          · simp [k2]
          · simp [k2]
          · simp [k2.1, this]
        · have en2 : (e.unit == n) = false := by simpa using en
          have hne : k ≠ k' := by
            intro he; subst he
            obtain ⟨v, hv, q1, _⟩ := qh2 hk
            obtain ⟨v', hv', q2, _⟩ := qh2 hk'
            rw [hv] at hv'; cases hv'; exact en (q1.symm.trans q2)
          have := h3 k' u hk' (by simpa [hne] using hu)
          rw [this]
          simp [pEnd, en2]
    · rw [if_neg k2]
      have hp : pEnd n e = false := by
        simp only [not_or] at k2
        simp [pEnd, k2.1, k2.2.1]
      rw [hp]
      simp only [and_true]
      exact ⟨h1, h2, h3⟩
theorem qlg {us : List AUnit} {e : Entry} (h1 : ¬e.kind = 1) (h2 : ¬(e.kind = 2 ∨ e.kind = 3 ∨ (e.kind = 0 ∧ e.unit ≠ 0))) : qij us e = us := by
  rw [qij, if_neg h1, if_neg h2]
theorem qmq {us : List AUnit} {e : Entry} (h1 : e.kind = 1) : qij us e = us ++ [⟨e.unit, e.number, e.number, 2⟩] := by rw [qij, if_pos h1]
theorem qoj {us : List AUnit} {e : Entry} {k : Nat} {u : AUnit} (h1 : ¬e.kind = 1) (h2 : e.kind = 2 ∨ e.kind = 3 ∨ (e.kind = 0 ∧ e.unit ≠ 0)) (h3 : uidx us e.unit = some k) (h4 : us[k]? = some u) : qij us e = us.set k (uEnd e u) := by
  rw [qij, if_neg h1, if_pos h2, h3]
  simp only
  apply List.ext_getElem?
  intro j
  rw [List.getElem?_modify, List.getElem?_set]
  have hk := (List.getElem?_eq_some_iff.1 h4).1
  by_cases e : k = j
  · subst e
    have : us[k] = u := by rw [List.getElem?_eq_getElem hk] at h4; exact Option.some.inj h4
    simp [hk, this]
  · simp [e]
section
variable {C : Cfg} {M T t : Nat} {sl sl' : List (Nat × V)} {hp : List (Nat × HS)} {us us' : List AUnit}
theorem qxj (hM : M < 1000000) (hp0 : C.pins = []) (hmap : aget hp M = some (.live (.mp T (us.map keyU) (ptrs us.length)))) (hf : ∀ j, aget hp (fnm j) = aget (fam t (us.map qdi)) (fnm j))
    (hs : ∀ (ρ : Nat → Option Nat) (nf : Nat → Prop), ρ M = some M → nf M → qi0 ρ nf sl sl') (hu : us' = us) :
    Sub C (mkS sl hp) (mkS sl' ((M, .live (.mp T (us'.map keyU) (ptrs (us'.map qdi).length))) :: fam t (us'.map qdi))) := by
  subst hu
  exact qwa hM hp0 fnm (by rw [hmap, List.length_map]; rfl) (fun k c hc => by rw [hf, qkn, hc]; rfl) (fun k k' _ _ h => by rwa [qe3] at h) (fun k _ h => by rwa [qek hM] at h) hs
theorem qbew (hM : M < 1000000) (hp0 : C.pins = []) {b : Nat} {u : AUnit} (hb : b < 1000000) (hbM : b ≠ M) (hmap : aget hp M = some (.live (.mp T (us.map keyU ++ [.i .i64 u.unit]) (ptrs us.length ++ [.ptr b 0]))))
    (hbox : aget hp b = some (.live (.box t [.d (.i .i64 u.unit), .d (.i .i64 u.first), .d (.i .i64 u.last), .d (.i .i64 u.state)])))
    (hf : ∀ j, aget hp (fnm j) = aget (fam t (us.map qdi)) (fnm j))
    (hs : ∀ (ρ : Nat → Option Nat) (nf : Nat → Prop), ρ M = some M → nf M → qi0 ρ nf sl sl') (hu : us' = us ++ [u]) :
    Sub C (mkS sl hp) (mkS sl' ((M, .live (.mp T (us'.map keyU) (ptrs (us'.map qdi).length))) :: fam t (us'.map qdi))) := by
  subst hu
  have hl : ((us ++ [u]).map qdi).length = us.length + 1 := by simp
  refine qwa hM hp0 (fun k => if k = us.length then b else fnm k) ?_ (fun k c hc => ?_) (fun k k' _ _ h => ?_) (fun k _ h => ?_) hs
  · rw [hmap, hl, List.range_succ, List.map_append, List.map_append, ptrs]
    simp only [List.map_cons, List.map_nil, if_true, keyU]
    congr 3
    congr 1
    refine List.map_congr_left fun k hk => ?_
    rw [if_neg (by have := List.mem_range.1 hk; omega)]
  · (try dsimp only)
    by_cases e : k = us.length
    · subst e
      rw [if_pos rfl, hbox]
      rw [List.getElem?_map, List.getElem?_append_right (Nat.le_refl _)] at hc
      simp at hc
      subst hc
      rfl
    · have hk := (List.getElem?_eq_some_iff.1 hc).1
      rw [if_neg e, hf, qkn]
      rw [hl] at hk
      rw [List.getElem?_map, List.getElem?_append_left (by omega), ← List.getElem?_map] at hc
      rw [hc]; rfl
  · (try dsimp only at h)
    split at h <;> split at h
    · omega
    · rw [qfo hb] at h; exact h.elim
    · rw [qek hb] at h; exact h.elim
    · rwa [qe3] at h
  · (try dsimp only at h)
    split at h
    · exact hbM h
    · rwa [qek hM] at h
theorem qbex (hM : M < 1000000) (hp0 : C.pins = []) {k : Nat} {u u' : AUnit} (hk : us[k]? = some u) (hmap : aget hp M = some (.live (.mp T (us.map keyU) (ptrs us.length))))
    (hbox : aget hp (fnm k) = some (.live (.box t [.d (.i .i64 u'.unit), .d (.i .i64 u'.first), .d (.i .i64 u'.last), .d (.i .i64 u'.state)]))) (hku : u'.unit = u.unit)
    (hf : ∀ j, j ≠ k → aget hp (fnm j) = aget (fam t (us.map qdi)) (fnm j))
    (hs : ∀ (ρ : Nat → Option Nat) (nf : Nat → Prop), ρ M = some M → nf M → qi0 ρ nf sl sl') (hu : us' = us.set k u') :
    Sub C (mkS sl hp) (mkS sl' ((M, .live (.mp T (us'.map keyU) (ptrs (us'.map qdi).length))) :: fam t (us'.map qdi))) := by
  subst hu
  have hlt := (List.getElem?_eq_some_iff.1 hk).1
  have hkeys : (us.set k u').map keyU = us.map keyU := by
    apply List.ext_getElem?
    intro j
    rw [List.getElem?_map, List.getElem?_map, List.getElem?_set]
    by_cases e : k = j
    · subst e; simp [hlt]
      have : us[k] = u := by rw [List.getElem?_eq_getElem hlt] at hk; exact Option.some.inj hk
      rw [this]; simp [keyU, hku]
    · simp [e]
  refine qwa hM hp0 fnm (by rw [hmap, hkeys, List.length_map, List.length_set]; rfl) (fun j c hc => ?_) (fun k k' _ _ h => by rwa [qe3] at h) (fun k _ h => by rwa [qek hM] at h) hs
  · (try dsimp only)
    rw [List.getElem?_map, List.getElem?_set] at hc
    by_cases e : k = j
    · subst e
      simp [hlt] at hc
      subst hc
      rw [hbox]; rfl
    · rw [if_neg e] at hc
      rw [hf j (fun h => e h.symm), qkn, List.getElem?_map, hc]; rfl
theorem qbmh {k : Nat} {u : AUnit} (h : us[k]? = some u) : aget (fam t (us.map qdi)) (fnm k) = some (.live (.box t [.d (.i .i64 u.unit), .d (.i .i64 u.first), .d (.i .i64 u.last), .d (.i .i64 u.state)])) := by
  rw [qkn, List.getElem?_map, h]; rfl
theorem qbre {sl : List (Nat × V)} {h : HS} (hM : M < 1000000) : toDs (toD2 (mkS sl ((M, h) :: fam t (us.map qdi)))) (ptrs us.length) = some (us.map fun u => .cp (qdi u), (List.range us.length).map fnm) := by
  have := qbev (s := mkS sl ((M, h) :: fam t (us.map qdi))) (t := t) (cs := us.map qdi) (fun k c hc => by
    show (aget _ _).getD HS.free = _
    simp only [aget]
    simp only [qek hM, if_false]
    rw [qkn, hc]; rfl)
  rw [List.length_map] at this
  rw [this, List.map_map]
  rfl
end
def qen (l : List Entry) : List AUnit := if (qbc l).2 = 0 then qbv l else []
theorem UInv.next {l : List Entry} {i : Nat} (h : UInv (qbv (l.take i)) (l.take i)) (hi : i < l.length) (h0 : qep (l.take i) (l.getD i q0i) = 0) : UInv (qbv (l.take (i + 1))) (l.take (i + 1)) := by
  rw [qeq hi, qdw q0i hi]
  exact h.step h0
theorem qi1 {l : List Entry} (h : (qbc l).2 ≠ 0) : qen l = [] := by rw [qen, if_neg h]
theorem qk2 {l : List Entry} (h : (qbc l).2 = 0) : qen l = qbv l := by rw [qen, if_pos h]
theorem qs4 {l : List Entry} (h : 80 < l.length) : qbc l = (0, 2) := by rw [qbc, if_pos h]
theorem qbey {l : List Entry} (h : l.length ≤ 80) : qeb l (l.length - 0) 0 = qbc l := by rw [qbc, if_neg (by omega)]; rfl
section
variable {l : List Entry} {i : Nat}
theorem qup (h : qeb l (l.length - i) i = qbc l) (hi : i < l.length) (h1 : ¬qc7 (l.getD i q0i) = 0) : qbc l = ((i : Int), qc7 (l.getD i q0i)) := by
  rw [← h, qhp hi, if_pos h1]
theorem quq (h : qeb l (l.length - i) i = qbc l) (hi : i < l.length) (h1 : qc7 (l.getD i q0i) = 0) (h2 : 0 < (i : Int) ∧ ¬(l.getD i q0i).number = IntKind.i64.wrap ((l.getD ((i : Int) - 1).toNat q0i).number + 1)) : qbc l = ((i : Int), 14) := by
  rw [← h, qhp hi, if_neg (fun e => e h1), if_pos ⟨by omega, h2.2⟩]
theorem qs5 (h : qeb l (l.length - i) i = qbc l) (hi : i < l.length) (h1 : qc7 (l.getD i q0i) = 0) (h2 : (i : Int) ≤ 0 ∨ (l.getD i q0i).number = IntKind.i64.wrap ((l.getD ((i : Int) - 1).toNat q0i).number + 1)) {s : Int} (h3 : qep (l.take i) (l.getD i q0i) = s) :
    if s = 0 then qeb l (l.length - (i + 1)) (i + 1) = qbc l else qbc l = ((i : Int), s) := by
  rw [qhp hi, if_neg (fun e => e h1), if_neg (by omega)] at h
  subst h3
  split
  · rename_i e
    rwa [if_neg (fun e' => e' e)] at h
  · rename_i e
    rw [if_pos e] at h
    exact h.symm
def stU (us : List AUnit) (e : Entry) : Int :=
  if e.kind = 1 then match uidx us e.unit with
    | some k => if (us.getD k ⟨0, 0, 0, 0⟩).state = 2 then 26 else 13
    | none => 0
  else if e.kind = 2 ∨ e.kind = 3 ∨ (e.kind = 0 ∧ e.unit ≠ 0) then match uidx us e.unit with
    | some k => if (us.getD k ⟨0, 0, 0, 0⟩).state = 2 then 0 else 26
    | none => 26
  else 0
theorem UInv.st {us : List AUnit} {b : List Entry} (h : UInv us b) (e : Entry) : qep b e = stU us e := by
  unfold qep stU
  rw [h.isOpen, h.begins]
  by_cases k1 : e.kind = 1
  · simp only [k1, if_true]
    cases uidx us e.unit <;> simp
  · simp only [k1, if_false]
    by_cases k2 : e.kind = 2 ∨ e.kind = 3
    · rw [if_pos k2, if_pos (show e.kind = 2 ∨ e.kind = 3 ∨ e.kind = 0 ∧ e.unit ≠ 0 by omega)]
      cases uidx us e.unit <;> simp
    · rw [if_neg k2]
      by_cases k0 : e.kind = 0
      · rw [if_pos k0]
        by_cases u0 : e.unit = 0
        · rw [if_neg (by rintro ⟨h, _⟩; exact h u0), if_neg (show ¬(e.kind = 2 ∨ e.kind = 3 ∨ e.kind = 0 ∧ e.unit ≠ 0) by omega)]
        · rw [if_pos (show e.kind = 2 ∨ e.kind = 3 ∨ e.kind = 0 ∧ e.unit ≠ 0 by omega)]
          cases uidx us e.unit <;> simp [u0]
      · rw [if_neg k0, if_neg (show ¬(e.kind = 2 ∨ e.kind = 3 ∨ e.kind = 0 ∧ e.unit ≠ 0) by omega)]
theorem qbez {us : List AUnit} {e : Entry} (h : uidx us e.unit = none) : stU us e = if e.kind = 1 then 0 else if e.kind = 2 ∨ e.kind = 3 ∨ (e.kind = 0 ∧ e.unit ≠ 0) then 26 else 0 := by
  unfold stU; rw [h]
theorem qbe0 {us : List AUnit} {e : Entry} {k : Nat} {u : AUnit} (h : uidx us e.unit = some k) (hu : us[k]? = some u) : stU us e = if e.kind = 1 then (if u.state = 2 then 26 else 13) else if e.kind = 2 ∨ e.kind = 3 ∨ (e.kind = 0 ∧ e.unit ≠ 0) then (if u.state = 2 then 0 else 26) else 0 := by
  unfold stU; rw [h]; simp [List.getD, hu]
end
end Go.Ev

namespace Go.Ev
def chk (l : List Entry) (j : Nat) : Prop := qc7 (l.getD j q0i) = 0 ∧ ¬(0 < j ∧ (l.getD j q0i).number ≠ IntKind.i64.wrap ((l.getD ((j : Int) - 1).toNat q0i).number + 1)) ∧ qep (l.take j) (l.getD j q0i) = 0
theorem qql {l : List Entry} : ∀ (n i : Nat), (qeb l n i).2 = 0 → ∀ j, i ≤ j → j < i + n → chk l j
  | 0, i, _, j, h1, h2 => by omega
  | n + 1, i, h, j, h1, h2 => by
    unfold qeb at h
    split at h
    · exact absurd h ‹_›
    split at h
    · exact absurd h (show ¬((14 : Int) = 0) by decide)
    split at h
    · exact absurd h ‹_›
    by_cases e : j = i
    · subst e
      refine ⟨by omega, ‹_›, by omega⟩
    · exact qql n (i + 1) h j (by omega) (by omega)
theorem qh3 {l : List Entry} (h : (qbc l).2 = 0) {j : Nat} (hj : j < l.length) : chk l j := by
  unfold qbc at h
  split at h
  · cases h
  · exact qql _ 0 h j (by omega) (by omega)
end Go.Ev

namespace Go.Ev
def q6c (k : Int) : Int := if k = 2 then 0 else if k = 3 then 1 else 2
def qur (u : Int) : List Entry → Int → Int
  | [], n => n
  | e :: r, n => qur u r (if e.unit = u then e.number else n)
theorem qpy (u : Int) : ∀ (l : List Entry) (e : Entry) (n : Int), qur u (l ++ [e]) n = if e.unit = u then e.number else qur u l n
  | [], e, n => rfl
  | a :: l, e, n => qpy u l e _
def refU (l : List Entry) (i : Nat) : AUnit := ⟨(l.getD i q0i).unit, (l.getD i q0i).number, qur (l.getD i q0i).unit (l.drop i) 0, q6c (ends l (l.getD i q0i).unit)⟩
def qkb (l : List Entry) : Nat → List AUnit
  | 0 => []
  | i + 1 => if (l.getD i q0i).kind = 1 then qkb l i ++ [refU l i] else qkb l i
theorem qrb {l : List Entry} {e : Entry} {i : Nat} (h : i < l.length) : (l ++ [e]).getD i q0i = l.getD i q0i := by rw [qoi, if_pos h]
theorem qnv {l : List Entry} {e : Entry} : (l ++ [e]).getD l.length q0i = e := by rw [qoi, if_neg (by omega), if_pos rfl]
theorem qnw (b : List Entry) (e : Entry) (n : Int) : ends (b ++ [e]) n = if qfr b n = none then (if pEnd n e = true then e.kind else -1) else ends b n := by
  unfold ends qfr
  rw [List.find?_append]
  cases h : List.find? (pEnd n) b with
  | none =>
    simp only [Option.none_or, if_true, List.find?_cons, List.find?_nil]
    cases pEnd n e <;> simp
  | some x => simp
theorem q6d {b : List Entry} {n : Int} (h : qfr b n = none) : q6c (ends b n) = 2 := by rw [qpx.2 h]; rfl
def updU (e : Entry) (u : AUnit) : AUnit := if e.unit = u.unit then uEnd e u else u
theorem qbaq {l : List Entry} {e : Entry} {i : Nat} (hi : i < l.length) (h : e.unit = (l.getD i q0i).unit → qfr l e.unit = none ∧ (e.kind = 2 ∨ e.kind = 3 ∨ e.kind = 0)) : refU (l ++ [e]) i = updU e (refU l i) := by
  unfold refU updU
  rw [qrb hi]
  generalize hg : l.getD i q0i = b at h ⊢
  by_cases hu : e.unit = b.unit
  · obtain ⟨h1, h2⟩ := h hu
    rw [if_pos hu]
    unfold uEnd
    rw [AUnit.mk.injEq]
    refine ⟨rfl, rfl, ?_, ?_⟩
    · rw [List.drop_append_of_le_length (by omega), qpy, if_pos hu]
    · rw [hu] at h1
      simp only
      rw [qnw, if_pos h1, q6d h1]
      unfold pEnd
      rcases h2 with h2 | h2 | h2 <;> simp [h2, hu, q6c]
  · rw [if_neg hu]
    rw [AUnit.mk.injEq]
    refine ⟨rfl, rfl, ?_, ?_⟩
    · rw [List.drop_append_of_le_length (by omega), qpy, if_neg hu]
    · rw [qnw]
      have hp : pEnd b.unit e = false := by simp [pEnd, hu]
      rw [hp]
      split
      · rename_i h1; rw [if_neg (by simp), qpx.2 h1]
      · rfl
theorem qou {l : List Entry} {e : Entry} (h : ∀ i, i < l.length → (l.getD i q0i).kind = 1 → e.unit = (l.getD i q0i).unit → qfr l e.unit = none ∧ (e.kind = 2 ∨ e.kind = 3 ∨ e.kind = 0)) :
    ∀ i, i ≤ l.length → qkb (l ++ [e]) i = (qkb l i).map (updU e)
  | 0, _ => rfl
  | i + 1, hi => by
    unfold qkb
    rw [qrb (by omega)]
    split
    · rename_i hk
      rw [List.map_append, qou h i (by omega), qbaq (by omega) (h i (by omega) hk)]; rfl
    · exact qou h i (by omega)
structure PInv (b : List Entry) : Prop where
  u : UInv (qbv b) b
  nd : ((qbv b).map (·.unit)).Nodup
  eq : qbv b = qkb b b.length
  f : (qbv b).map (·.first) = (b.filter fun e => e.kind == 1).map (·.number)
  un : ∀ u ∈ qbv b, 1 ≤ u.unit
theorem PInv.nil : PInv [] := ⟨UInv.nil, by simp [qbv], rfl, rfl, fun u hu => by cases hu⟩
theorem qxk (e : Entry) (u : AUnit) : (updU e u).unit = u.unit := by unfold updU uEnd; split <;> rfl
theorem q6e (e : Entry) (u : AUnit) : (updU e u).first = u.first := by unfold updU uEnd; split <;> rfl
theorem q6f {us : List AUnit} {e : Entry} {k : Nat} (hn : (us.map (·.unit)).Nodup) (hk : uidx us e.unit = some k) : us.modify k (uEnd e) = us.map (updU e) := by
  obtain ⟨u, h1, h2, h3⟩ := qh2 hk
  apply List.ext_getElem?
  intro j
  rw [List.getElem?_modify, List.getElem?_map]
  cases hj : us[j]? with
  | none => rfl
  | some v =>
    have hjl := (List.getElem?_eq_some_iff.1 hj).1
    simp only [Option.map_some, Option.map_eq_map]
    by_cases e1 : k = j
    · subst e1
      rw [h1] at hj; cases hj
      rw [if_pos rfl]
      unfold updU; rw [if_pos h2.symm]
    · rw [if_neg e1]
      unfold updU
      rw [if_neg (fun e2 => e1 ?_)]
      have ha : (us.map (·.unit))[k]? = some e.unit := by rw [List.getElem?_map, h1]; simp [h2]
      have hb : (us.map (·.unit))[j]? = some e.unit := by rw [List.getElem?_map, hj]; simp [e2]
      obtain ⟨ka, ea⟩ := List.getElem?_eq_some_iff.1 ha
      obtain ⟨kb, eb⟩ := List.getElem?_eq_some_iff.1 hb
      rcases Nat.lt_trichotomy k j with hh | hh | hh
      · exact absurd (ea.trans eb.symm) (List.pairwise_iff_getElem.1 hn k j ka kb hh)
      · exact hh
      · exact absurd (eb.trans ea.symm) (List.pairwise_iff_getElem.1 hn j k kb ka hh)
theorem qz6 {l : List Entry} : ∀ {i : Nat} {j : Nat}, j < i → (l.getD j q0i).kind = 1 → refU l j ∈ qkb l i
  | 0, j, h, _ => by omega
  | i + 1, j, h, hk => by
    unfold qkb
    by_cases e : j = i
    · subst e; rw [if_pos hk]; simp
    · have := qz6 (l := l) (i := i) (j := j) (by omega) hk
      split
      · exact List.mem_append_left _ this
      · exact this
theorem q6g {e : Entry} (h : qc7 e = 0) : (e.kind = 1 ∨ e.kind = 2 ∨ e.kind = 3 → 1 ≤ e.unit) ∧ (e.kind ≠ 0 → e.kind ≠ 1 → e.kind ≠ 2 → e.kind ≠ 3 → e.unit = 0) ∧ (e.kind = 0 → 0 ≤ e.unit) := by
  unfold qc7 at h
  split at h
  · cases h
  split at h
  · cases h
  split at h
  · cases h
  split at h
  · cases h
  split at h
  · cases h
  rename_i h1 h2 h3 h4 h5
  rw [Decidable.not_not] at h5
  refine ⟨fun hk => by omega, fun k0 k1 k2 k3 => ?_, fun hk => by omega⟩
  unfold qlz at h5
  rw [if_neg k0, if_neg (by omega)] at h5
  split at h5
  · rw [← h5]
  · rw [← h5]
theorem PInv.step {b : List Entry} {e : Entry} (h : PInv b) (h1 : qc7 e = 0) (h2 : qep b e = 0) : PInv (b ++ [e]) := by
  have hu := h.u.step h2
  rw [← qlf] at hu
  obtain ⟨q1, q2, q3⟩ := q6g h1
  have hlen : (b ++ [e]).length = b.length + 1 := by simp
  have hidx : ∀ i, i < b.length → (b.getD i q0i).kind = 1 → (uidx (qbv b) (b.getD i q0i).unit).isSome = true := fun i hi hk => by
    rw [← h.u.begins]
    exact qpu hi hk rfl
  have hsm : ∀ i, i < b.length → (b.getD i q0i).kind = 1 → 1 ≤ (b.getD i q0i).unit := fun i hi hk => by
    have := h.un (refU b i) (by rw [h.eq]; exact qz6 hi hk)
    exact this
  have hno : e.kind = 1 → begins b e.unit = false := fun k1 => by
    unfold qep at h2
    rw [if_pos k1] at h2
    split at h2
    · cases h2
    split at h2
    · cases h2
    · simpa using ‹¬begins b e.unit = true›
  have hopen : (e.kind = 2 ∨ e.kind = 3 ∨ (e.kind = 0 ∧ e.unit ≠ 0)) → begins b e.unit = true ∧ qfr b e.unit = none := fun k2 => by
    rw [← qm8]
    unfold qep at h2
    rcases k2 with k2 | k2 | k2
    · rw [if_neg (by omega), if_pos (.inl k2)] at h2; split at h2; assumption; cases h2
    · rw [if_neg (by omega), if_pos (.inr k2)] at h2; split at h2; assumption; cases h2
    · rw [if_neg (by omega), if_neg (by omega), if_pos k2.1] at h2
      split at h2
      · cases h2
      · rename_i hh; cases hx : isOpen b e.unit with
        | true => rfl
        | false => exact absurd ⟨k2.2, hx⟩ hh
  have hcond : ∀ i, i < b.length → (b.getD i q0i).kind = 1 → e.unit = (b.getD i q0i).unit → qfr b e.unit = none ∧ (e.kind = 2 ∨ e.kind = 3 ∨ e.kind = 0) := fun i hi hk he => by
    have hb : begins b e.unit = true := qpu hi hk he.symm
    have h1u := hsm i hi hk
    by_cases k1 : e.kind = 1
    · rw [hno k1] at hb; cases hb
    by_cases k2 : e.kind = 2 ∨ e.kind = 3 ∨ (e.kind = 0 ∧ e.unit ≠ 0)
    · exact ⟨(hopen k2).2, by omega⟩
    · have := q2; omega
  have hrefs := qou hcond b.length (Nat.le_refl _)
  by_cases k1 : e.kind = 1
  · have hz : qbv (b ++ [e]) = qbv b ++ [⟨e.unit, e.number, e.number, 2⟩] := by rw [qlf, qmq k1]
    have hb := hno k1
    have hen : qfr b e.unit = none := (h.u e.unit).2.1 hb
    have hin : ∀ u ∈ qbv b, e.unit ≠ u.unit := fun u hm he => by
      have : uidx (qbv b) e.unit = none := by
        have := (h.u e.unit).1
        rw [hb] at this
        cases hx : uidx (qbv b) e.unit with
        | none => rfl
        | some _ => rw [hx] at this; cases this
      unfold uidx at this
      rw [List.findIdx?_eq_none_iff] at this
      have := this u hm
      simp at this
      exact this he.symm
    refine ⟨hu, ?_, ?_, ?_, ?_⟩
    · rw [hz, List.map_append, List.nodup_append]
      refine ⟨h.nd, by simp, fun x hx y hy => ?_⟩
      simp at hy
      obtain ⟨u, hm, rfl⟩ := List.mem_map.1 hx
      rw [hy]
      exact fun he => hin u hm he.symm
    · rw [hlen]
      unfold qkb
      rw [qnv, if_pos k1, hrefs, ← h.eq, hz]
      congr 1
      · have : (qbv b).map (updU e) = (qbv b).map id := List.map_congr_left fun u hm => by unfold updU; rw [if_neg (hin u hm)]; rfl
        rw [this, List.map_id]
      · unfold refU
        rw [qnv]
        congr 1
        rw [AUnit.mk.injEq]
        refine ⟨rfl, rfl, ?_, ?_⟩
        · rw [List.drop_append_of_le_length (Nat.le_refl _), List.drop_length, List.nil_append]; simp [qur]
        · rw [qnw, if_pos hen]
          have : pEnd e.unit e = false := by simp [pEnd, k1]
          rw [this]; rfl
    · rw [hz, List.map_append, h.f, List.filter_append, List.map_append]
      simp [k1]
    · rw [hz]
      intro u hm
      rw [List.mem_append, List.mem_singleton] at hm
      rcases hm with hm | rfl
      · exact h.un u hm
      · exact q1 (.inl k1)
  · have hf : ((b ++ [e]).filter fun e => e.kind == 1) = b.filter fun e => e.kind == 1 := by rw [List.filter_append]; simp [k1]
    have hz : qbv (b ++ [e]) = (qbv b).map (updU e) := by
      rw [qlf]
      by_cases k2 : e.kind = 2 ∨ e.kind = 3 ∨ (e.kind = 0 ∧ e.unit ≠ 0)
      · unfold qij
        rw [if_neg k1, if_pos k2]
        have := (h.u e.unit).1
        rw [(hopen k2).1] at this
        obtain ⟨k, hk⟩ := Option.isSome_iff_exists.1 this.symm
        rw [hk]
        exact q6f h.nd hk
      · rw [qlg k1 k2]
        have : (qbv b).map (updU e) = (qbv b).map id := List.map_congr_left fun u hm => by
          unfold updU
          have := h.un u hm
          rw [if_neg (by omega)]; rfl
        rw [this, List.map_id]
    refine ⟨hu, ?_, ?_, ?_, ?_⟩
    · rw [hz, List.map_map]
      have : (qbv b).map ((·.unit) ∘ updU e) = (qbv b).map (·.unit) := List.map_congr_left fun u _ => qxk e u
      rw [this]; exact h.nd
    · rw [hlen]
      unfold qkb
      rw [qnv, if_neg k1, hrefs, ← h.eq, hz]
    · rw [hz, List.map_map, hf, ← h.f]
      exact List.map_congr_left fun u _ => q6e e u
    · rw [hz]
      intro u hm
      obtain ⟨v, hv, rfl⟩ := List.mem_map.1 hm
      rw [qxk]; exact h.un v hv
theorem PInv.take {l : List Entry} (h : ∀ j, j < l.length → chk l j) : ∀ k, k ≤ l.length → PInv (l.take k)
  | 0, _ => PInv.nil
  | k + 1, hk => by
    rw [qdw q0i (by omega)]
    exact (PInv.take h k (by omega)).step (h k (by omega)).1 (h k (by omega)).2.2
theorem qm9 {l : List Entry} (h : (qbc l).2 = 0) : PInv l := by
  have := PInv.take (fun j hj => qh3 h hj) l.length (Nat.le_refl _)
  rwa [List.take_length] at this
end Go.Ev
