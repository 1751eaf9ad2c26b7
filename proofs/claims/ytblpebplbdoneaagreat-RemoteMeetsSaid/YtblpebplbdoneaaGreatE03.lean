/- Tools and contracts under the laws of this seat: DevTy35r, DevDec, DevData, DevPure, DevGood, DevFam, DevCyc, DevChk, DevU35. -/
import Derived.Test.YtblpebplbdoneaaGreatE02
import Derived.Test.YtblpebplbdoneaaGreatProg
import Derived.KernelRfl
import Derived.Laws.Strings
import Derived.WideShapes
set_option linter.unusedVariables false
set_option linter.unusedSimpArgs false
namespace Go.Ev.Ty
open Go.Proofs
theorem sz3 : qb4 Tryz.prog 3 = some 1 := by kernel_rfl
theorem ag3 : aggT Tryz.prog 3 = some false := by kernel_rfl
theorem zr3 : qc3 Tryz.prog 3 = some [.i .i64 0] := by kernel_rfl
theorem zo3 : qf0 Tryz.prog 3 = some (.i .i64 0) := by kernel_rfl
theorem zd3 : zD Tryz.prog 3 = .i .i64 0 := by kernel_rfl
theorem by3 : qdp Tryz.prog 3 = some 8 := by kernel_rfl
theorem sl3 : qbn Tryz.prog 3 = false := by kernel_rfl
theorem st3 : qdt Tryz.prog 3 = false := by kernel_rfl
theorem bo3 : qc8 Tryz.prog 3 = false := by kernel_rfl
theorem pt3 : qdu Tryz.prog 3 = false := by kernel_rfl
theorem ck3 : ckT Tryz.prog 3 = .int .i64 := by kernel_rfl
theorem sz4 : qb4 Tryz.prog 4 = some 1 := by kernel_rfl
theorem ag4 : aggT Tryz.prog 4 = some false := by kernel_rfl
theorem zr4 : qc3 Tryz.prog 4 = some [.b false] := by kernel_rfl
theorem zo4 : qf0 Tryz.prog 4 = some (.b false) := by kernel_rfl
theorem zd4 : zD Tryz.prog 4 = .b false := by kernel_rfl
theorem by4 : qdp Tryz.prog 4 = some 1 := by kernel_rfl
theorem sl4 : qbn Tryz.prog 4 = false := by kernel_rfl
theorem st4 : qdt Tryz.prog 4 = false := by kernel_rfl
theorem bo4 : qc8 Tryz.prog 4 = true := by kernel_rfl
theorem pt4 : qdu Tryz.prog 4 = false := by kernel_rfl
theorem sz5 : qb4 Tryz.prog 5 = some 1 := by kernel_rfl
theorem ag5 : aggT Tryz.prog 5 = some false := by kernel_rfl
theorem zr5 : qc3 Tryz.prog 5 = some [.i .u8 0] := by kernel_rfl
theorem zo5 : qf0 Tryz.prog 5 = some (.i .u8 0) := by kernel_rfl
theorem zd5 : zD Tryz.prog 5 = .i .u8 0 := by kernel_rfl
theorem by5 : qdp Tryz.prog 5 = some 1 := by kernel_rfl
theorem sl5 : qbn Tryz.prog 5 = false := by kernel_rfl
theorem st5 : qdt Tryz.prog 5 = false := by kernel_rfl
theorem bo5 : qc8 Tryz.prog 5 = false := by kernel_rfl
theorem pt5 : qdu Tryz.prog 5 = false := by kernel_rfl
theorem ck5 : ckT Tryz.prog 5 = .int .u8 := by kernel_rfl
theorem sz9 : qb4 Tryz.prog 9 = some 1 := by kernel_rfl
theorem ag9 : aggT Tryz.prog 9 = some false := by kernel_rfl
theorem zr9 : qc3 Tryz.prog 9 = some [.s ⟨#[]⟩] := by kernel_rfl
theorem zo9 : qf0 Tryz.prog 9 = some (.s ⟨#[]⟩) := by kernel_rfl
theorem zd9 : zD Tryz.prog 9 = .s ⟨#[]⟩ := by kernel_rfl
theorem by9 : qdp Tryz.prog 9 = some 16 := by kernel_rfl
theorem sl9 : qbn Tryz.prog 9 = false := by kernel_rfl
theorem un9 : Tryz.prog.underlying 9 = some .string := by kernel_rfl
theorem st9 : qdt Tryz.prog 9 = true := by kernel_rfl
theorem bo9 : qc8 Tryz.prog 9 = false := by kernel_rfl
theorem pt9 : qdu Tryz.prog 9 = false := by kernel_rfl
theorem ck9 : ckT Tryz.prog 9 = .str := by kernel_rfl
theorem sz22 : qb4 Tryz.prog 22 = some 1 := by kernel_rfl
theorem ag22 : aggT Tryz.prog 22 = some false := by kernel_rfl
theorem zr22 : qc3 Tryz.prog 22 = some [.nil] := by kernel_rfl
theorem zo22 : qf0 Tryz.prog 22 = some (.nil) := by kernel_rfl
theorem zd22 : zD Tryz.prog 22 = .nil := by kernel_rfl
theorem by22 : qdp Tryz.prog 22 = some 24 := by kernel_rfl
theorem el22 : qgr Tryz.prog 22 = some 52 := by kernel_rfl
theorem sl22 : qbn Tryz.prog 22 = true := by kernel_rfl
theorem un22 : Tryz.prog.underlying 22 = some (.slice 52) := by kernel_rfl
theorem st22 : qdt Tryz.prog 22 = false := by kernel_rfl
theorem bo22 : qc8 Tryz.prog 22 = false := by kernel_rfl
theorem pt22 : qdu Tryz.prog 22 = false := by kernel_rfl
theorem sz23 : qb4 Tryz.prog 23 = some 1 := by kernel_rfl
theorem ag23 : aggT Tryz.prog 23 = some false := by kernel_rfl
theorem zr23 : qc3 Tryz.prog 23 = some [.nil] := by kernel_rfl
theorem zo23 : qf0 Tryz.prog 23 = some (.nil) := by kernel_rfl
theorem zd23 : zD Tryz.prog 23 = .nil := by kernel_rfl
theorem by23 : qdp Tryz.prog 23 = some 24 := by kernel_rfl
theorem el23 : qgr Tryz.prog 23 = some 59 := by kernel_rfl
theorem sl23 : qbn Tryz.prog 23 = true := by kernel_rfl
theorem un23 : Tryz.prog.underlying 23 = some (.slice 59) := by kernel_rfl
theorem st23 : qdt Tryz.prog 23 = false := by kernel_rfl
theorem bo23 : qc8 Tryz.prog 23 = false := by kernel_rfl
theorem pt23 : qdu Tryz.prog 23 = false := by kernel_rfl
theorem sz25 : qb4 Tryz.prog 25 = some 6 := by kernel_rfl
theorem ag25 : aggT Tryz.prog 25 = some true := by kernel_rfl
theorem zr25 : qc3 Tryz.prog 25 = some [.b false, .nil, .nil, .i .i64 0, .i .i64 0, .nil] := by kernel_rfl
theorem zd25 : zD Tryz.prog 25 = .agg [.b false, .nil, .nil, .i .i64 0, .i .i64 0, .nil] := by kernel_rfl
theorem by25 : qdp Tryz.prog 25 = some 96 := by kernel_rfl
theorem sl25 : qbn Tryz.prog 25 = false := by kernel_rfl
theorem st25 : qdt Tryz.prog 25 = false := by kernel_rfl
theorem bo25 : qc8 Tryz.prog 25 = false := by kernel_rfl
theorem pt25 : qdu Tryz.prog 25 = false := by kernel_rfl
theorem qbqy : offT Tryz.prog 25 0 = some (0, 1) := by kernel_rfl
theorem qbqz : qcd Tryz.prog 25 0 = some 4 := by kernel_rfl
theorem qbq0 : offT Tryz.prog 25 1 = some (1, 1) := by kernel_rfl
theorem qbq1 : qcd Tryz.prog 25 1 = some 22 := by kernel_rfl
theorem qbq2 : offT Tryz.prog 25 2 = some (2, 1) := by kernel_rfl
theorem qbq3 : qcd Tryz.prog 25 2 = some 22 := by kernel_rfl
theorem qbq4 : offT Tryz.prog 25 3 = some (3, 1) := by kernel_rfl
theorem qbq5 : qcd Tryz.prog 25 3 = some 3 := by kernel_rfl
theorem qbq6 : offT Tryz.prog 25 4 = some (4, 1) := by kernel_rfl
theorem qbq7 : qcd Tryz.prog 25 4 = some 3 := by kernel_rfl
theorem qbq8 : offT Tryz.prog 25 5 = some (5, 1) := by kernel_rfl
theorem qbq9 : qcd Tryz.prog 25 5 = some 23 := by kernel_rfl
theorem pl25 : qfv Tryz.prog 25 = some [(0, 1), (1, 1), (2, 1), (3, 1), (4, 1), (5, 1)] := by kernel_rfl
theorem sz26 : qb4 Tryz.prog 26 = some 1 := by kernel_rfl
theorem ag26 : aggT Tryz.prog 26 = some false := by kernel_rfl
theorem zr26 : qc3 Tryz.prog 26 = some [.nil] := by kernel_rfl
theorem zo26 : qf0 Tryz.prog 26 = some (.nil) := by kernel_rfl
theorem zd26 : zD Tryz.prog 26 = .nil := by kernel_rfl
theorem by26 : qdp Tryz.prog 26 = some 24 := by kernel_rfl
theorem el26 : qgr Tryz.prog 26 = some 69 := by kernel_rfl
theorem sl26 : qbn Tryz.prog 26 = true := by kernel_rfl
theorem un26 : Tryz.prog.underlying 26 = some (.slice 69) := by kernel_rfl
theorem st26 : qdt Tryz.prog 26 = false := by kernel_rfl
theorem bo26 : qc8 Tryz.prog 26 = false := by kernel_rfl
theorem pt26 : qdu Tryz.prog 26 = false := by kernel_rfl
theorem sz31 : qb4 Tryz.prog 31 = some 1 := by kernel_rfl
theorem ag31 : aggT Tryz.prog 31 = some false := by kernel_rfl
theorem zr31 : qc3 Tryz.prog 31 = some [.i .i64 0] := by kernel_rfl
theorem zo31 : qf0 Tryz.prog 31 = some (.i .i64 0) := by kernel_rfl
theorem zd31 : zD Tryz.prog 31 = .i .i64 0 := by kernel_rfl
theorem by31 : qdp Tryz.prog 31 = some 8 := by kernel_rfl
theorem sl31 : qbn Tryz.prog 31 = false := by kernel_rfl
theorem st31 : qdt Tryz.prog 31 = false := by kernel_rfl
theorem bo31 : qc8 Tryz.prog 31 = false := by kernel_rfl
theorem pt31 : qdu Tryz.prog 31 = false := by kernel_rfl
theorem ck31 : ckT Tryz.prog 31 = .int .i64 := by kernel_rfl
theorem sz38 : qb4 Tryz.prog 38 = some 3 := by kernel_rfl
theorem ag38 : aggT Tryz.prog 38 = some true := by kernel_rfl
theorem zr38 : qc3 Tryz.prog 38 = some [.nil, .nil, .i .i64 0] := by kernel_rfl
theorem zd38 : zD Tryz.prog 38 = .agg [.nil, .nil, .i .i64 0] := by kernel_rfl
theorem by38 : qdp Tryz.prog 38 = some 56 := by kernel_rfl
theorem sl38 : qbn Tryz.prog 38 = false := by kernel_rfl
theorem st38 : qdt Tryz.prog 38 = false := by kernel_rfl
theorem bo38 : qc8 Tryz.prog 38 = false := by kernel_rfl
theorem pt38 : qdu Tryz.prog 38 = false := by kernel_rfl
theorem qbra : offT Tryz.prog 38 0 = some (0, 1) := by kernel_rfl
theorem qbrb : qcd Tryz.prog 38 0 = some 26 := by kernel_rfl
theorem qbrc : offT Tryz.prog 38 1 = some (1, 1) := by kernel_rfl
theorem qbrd : qcd Tryz.prog 38 1 = some 22 := by kernel_rfl
theorem qbre : offT Tryz.prog 38 2 = some (2, 1) := by kernel_rfl
theorem qbrf : qcd Tryz.prog 38 2 = some 3 := by kernel_rfl
theorem pl38 : qfv Tryz.prog 38 = some [(0, 1), (1, 1), (2, 1)] := by kernel_rfl
theorem sz50 : qb4 Tryz.prog 50 = some 5 := by kernel_rfl
theorem ag50 : aggT Tryz.prog 50 = some true := by kernel_rfl
theorem zr50 : qc3 Tryz.prog 50 = some [.s ⟨#[]⟩, .i .i64 0, .i .i64 0, .s ⟨#[]⟩, .s ⟨#[]⟩] := by kernel_rfl
theorem zd50 : zD Tryz.prog 50 = .agg [.s ⟨#[]⟩, .i .i64 0, .i .i64 0, .s ⟨#[]⟩, .s ⟨#[]⟩] := by kernel_rfl
theorem by50 : qdp Tryz.prog 50 = some 64 := by kernel_rfl
theorem sl50 : qbn Tryz.prog 50 = false := by kernel_rfl
theorem st50 : qdt Tryz.prog 50 = false := by kernel_rfl
theorem bo50 : qc8 Tryz.prog 50 = false := by kernel_rfl
theorem pt50 : qdu Tryz.prog 50 = false := by kernel_rfl
theorem qbrg : offT Tryz.prog 50 0 = some (0, 1) := by kernel_rfl
theorem qbrh : qcd Tryz.prog 50 0 = some 9 := by kernel_rfl
theorem qbri : offT Tryz.prog 50 1 = some (1, 1) := by kernel_rfl
theorem qbrj : qcd Tryz.prog 50 1 = some 3 := by kernel_rfl
theorem qbrk : offT Tryz.prog 50 2 = some (2, 1) := by kernel_rfl
theorem qbrl : qcd Tryz.prog 50 2 = some 3 := by kernel_rfl
theorem qbrm : offT Tryz.prog 50 3 = some (3, 1) := by kernel_rfl
theorem qbrn : qcd Tryz.prog 50 3 = some 9 := by kernel_rfl
theorem qbro : offT Tryz.prog 50 4 = some (4, 1) := by kernel_rfl
theorem qbrp : qcd Tryz.prog 50 4 = some 9 := by kernel_rfl
theorem pl50 : qfv Tryz.prog 50 = some [(0, 1), (1, 1), (2, 1), (3, 1), (4, 1)] := by kernel_rfl
theorem ek50 : eqKs Tryz.prog 50 = some [.s, .i, .i, .s, .s] := by kernel_rfl
theorem sz52 : qb4 Tryz.prog 52 = some 8 := by kernel_rfl
theorem ag52 : aggT Tryz.prog 52 = some true := by kernel_rfl
theorem zr52 : qc3 Tryz.prog 52 = some [.i .i64 0, .i .i64 0, .i .i64 0, .s ⟨#[]⟩, .i .i64 0, .i .i64 0, .s ⟨#[]⟩, .s ⟨#[]⟩] := by kernel_rfl
theorem zd52 : zD Tryz.prog 52 = .agg [.i .i64 0, .i .i64 0, .i .i64 0, .s ⟨#[]⟩, .i .i64 0, .i .i64 0, .s ⟨#[]⟩, .s ⟨#[]⟩] := by kernel_rfl
theorem by52 : qdp Tryz.prog 52 = some 88 := by kernel_rfl
theorem sl52 : qbn Tryz.prog 52 = false := by kernel_rfl
theorem st52 : qdt Tryz.prog 52 = false := by kernel_rfl
theorem bo52 : qc8 Tryz.prog 52 = false := by kernel_rfl
theorem pt52 : qdu Tryz.prog 52 = false := by kernel_rfl
theorem qbrq : offT Tryz.prog 52 0 = some (0, 1) := by kernel_rfl
theorem qbrr : qcd Tryz.prog 52 0 = some 3 := by kernel_rfl
theorem qbrs : offT Tryz.prog 52 1 = some (1, 1) := by kernel_rfl
theorem qbrt : qcd Tryz.prog 52 1 = some 3 := by kernel_rfl
theorem qbru : offT Tryz.prog 52 2 = some (2, 1) := by kernel_rfl
theorem qbrv : qcd Tryz.prog 52 2 = some 3 := by kernel_rfl
theorem qbrw : offT Tryz.prog 52 3 = some (3, 5) := by kernel_rfl
theorem qbrx : qcd Tryz.prog 52 3 = some 50 := by kernel_rfl
theorem pl52 : qfv Tryz.prog 52 = some [(0, 1), (1, 1), (2, 1), (3, 5)] := by kernel_rfl
theorem ek52 : eqKs Tryz.prog 52 = some [.i, .i, .i, .s, .i, .i, .s, .s] := by kernel_rfl
theorem sz54 : qb4 Tryz.prog 54 = some 10 := by kernel_rfl
theorem ag54 : aggT Tryz.prog 54 = some true := by kernel_rfl
theorem zr54 : qc3 Tryz.prog 54 = some [.i .i64 0, .i .i64 0, .i .i64 0, .i .i64 0, .i .i64 0, .s ⟨#[]⟩, .i .i64 0, .i .i64 0, .s ⟨#[]⟩, .s ⟨#[]⟩] := by kernel_rfl
theorem zd54 : zD Tryz.prog 54 = .agg [.i .i64 0, .i .i64 0, .i .i64 0, .i .i64 0, .i .i64 0, .s ⟨#[]⟩, .i .i64 0, .i .i64 0, .s ⟨#[]⟩, .s ⟨#[]⟩] := by kernel_rfl
theorem by54 : qdp Tryz.prog 54 = some 104 := by kernel_rfl
theorem sl54 : qbn Tryz.prog 54 = false := by kernel_rfl
theorem st54 : qdt Tryz.prog 54 = false := by kernel_rfl
theorem bo54 : qc8 Tryz.prog 54 = false := by kernel_rfl
theorem pt54 : qdu Tryz.prog 54 = false := by kernel_rfl
theorem qbry : offT Tryz.prog 54 0 = some (0, 1) := by kernel_rfl
theorem qbrz : qcd Tryz.prog 54 0 = some 3 := by kernel_rfl
theorem qbr0 : offT Tryz.prog 54 1 = some (1, 1) := by kernel_rfl
theorem qbr1 : qcd Tryz.prog 54 1 = some 3 := by kernel_rfl
theorem qbr2 : offT Tryz.prog 54 2 = some (2, 8) := by kernel_rfl
theorem qbr3 : qcd Tryz.prog 54 2 = some 52 := by kernel_rfl
theorem pl54 : qfv Tryz.prog 54 = some [(0, 1), (1, 1), (2, 8)] := by kernel_rfl
theorem ek54 : eqKs Tryz.prog 54 = some [.i, .i, .i, .i, .i, .s, .i, .i, .s, .s] := by kernel_rfl
theorem sz55 : qb4 Tryz.prog 55 = some 1 := by kernel_rfl
theorem ag55 : aggT Tryz.prog 55 = some false := by kernel_rfl
theorem zr55 : qc3 Tryz.prog 55 = some [.nil] := by kernel_rfl
theorem zo55 : qf0 Tryz.prog 55 = some (.nil) := by kernel_rfl
theorem zd55 : zD Tryz.prog 55 = .nil := by kernel_rfl
theorem by55 : qdp Tryz.prog 55 = some 24 := by kernel_rfl
theorem el55 : qgr Tryz.prog 55 = some 54 := by kernel_rfl
theorem sl55 : qbn Tryz.prog 55 = true := by kernel_rfl
theorem un55 : Tryz.prog.underlying 55 = some (.slice 54) := by kernel_rfl
theorem st55 : qdt Tryz.prog 55 = false := by kernel_rfl
theorem bo55 : qc8 Tryz.prog 55 = false := by kernel_rfl
theorem pt55 : qdu Tryz.prog 55 = false := by kernel_rfl
theorem sz59 : qb4 Tryz.prog 59 = some 2 := by kernel_rfl
theorem ag59 : aggT Tryz.prog 59 = some true := by kernel_rfl
theorem zr59 : qc3 Tryz.prog 59 = some [.i .i64 0, .i .i64 0] := by kernel_rfl
theorem zd59 : zD Tryz.prog 59 = .agg [.i .i64 0, .i .i64 0] := by kernel_rfl
theorem by59 : qdp Tryz.prog 59 = some 16 := by kernel_rfl
theorem sl59 : qbn Tryz.prog 59 = false := by kernel_rfl
theorem st59 : qdt Tryz.prog 59 = false := by kernel_rfl
theorem bo59 : qc8 Tryz.prog 59 = false := by kernel_rfl
theorem pt59 : qdu Tryz.prog 59 = false := by kernel_rfl
theorem qbr4 : offT Tryz.prog 59 0 = some (0, 1) := by kernel_rfl
theorem qbr5 : qcd Tryz.prog 59 0 = some 3 := by kernel_rfl
theorem qbr6 : offT Tryz.prog 59 1 = some (1, 1) := by kernel_rfl
theorem qbr7 : qcd Tryz.prog 59 1 = some 3 := by kernel_rfl
theorem pl59 : qfv Tryz.prog 59 = some [(0, 1), (1, 1)] := by kernel_rfl
theorem ek59 : eqKs Tryz.prog 59 = some [.i, .i] := by kernel_rfl
theorem sz61 : qb4 Tryz.prog 61 = some 1 := by kernel_rfl
theorem ag61 : aggT Tryz.prog 61 = some false := by kernel_rfl
theorem zr61 : qc3 Tryz.prog 61 = some [.nil] := by kernel_rfl
theorem zo61 : qf0 Tryz.prog 61 = some (.nil) := by kernel_rfl
theorem zd61 : zD Tryz.prog 61 = .nil := by kernel_rfl
theorem by61 : qdp Tryz.prog 61 = some 24 := by kernel_rfl
theorem el61 : qgr Tryz.prog 61 = some 128 := by kernel_rfl
theorem sl61 : qbn Tryz.prog 61 = true := by kernel_rfl
theorem un61 : Tryz.prog.underlying 61 = some (.slice 128) := by kernel_rfl
theorem st61 : qdt Tryz.prog 61 = false := by kernel_rfl
theorem bo61 : qc8 Tryz.prog 61 = false := by kernel_rfl
theorem pt61 : qdu Tryz.prog 61 = false := by kernel_rfl
theorem sz63 : qb4 Tryz.prog 63 = some 2 := by kernel_rfl
theorem ag63 : aggT Tryz.prog 63 = some true := by kernel_rfl
theorem zr63 : qc3 Tryz.prog 63 = some [.s ⟨#[]⟩, .nil] := by kernel_rfl
theorem zd63 : zD Tryz.prog 63 = .agg [.s ⟨#[]⟩, .nil] := by kernel_rfl
theorem by63 : qdp Tryz.prog 63 = some 40 := by kernel_rfl
theorem sl63 : qbn Tryz.prog 63 = false := by kernel_rfl
theorem st63 : qdt Tryz.prog 63 = false := by kernel_rfl
theorem bo63 : qc8 Tryz.prog 63 = false := by kernel_rfl
theorem pt63 : qdu Tryz.prog 63 = false := by kernel_rfl
theorem qbr8 : offT Tryz.prog 63 0 = some (0, 1) := by kernel_rfl
theorem qbr9 : qcd Tryz.prog 63 0 = some 9 := by kernel_rfl
theorem qbsa : offT Tryz.prog 63 1 = some (1, 1) := by kernel_rfl
theorem qbsb : qcd Tryz.prog 63 1 = some 61 := by kernel_rfl
theorem pl63 : qfv Tryz.prog 63 = some [(0, 1), (1, 1)] := by kernel_rfl
theorem sz64 : qb4 Tryz.prog 64 = some 1 := by kernel_rfl
theorem ag64 : aggT Tryz.prog 64 = some false := by kernel_rfl
theorem zr64 : qc3 Tryz.prog 64 = some [.nil] := by kernel_rfl
theorem zo64 : qf0 Tryz.prog 64 = some (.nil) := by kernel_rfl
theorem zd64 : zD Tryz.prog 64 = .nil := by kernel_rfl
theorem by64 : qdp Tryz.prog 64 = some 24 := by kernel_rfl
theorem el64 : qgr Tryz.prog 64 = some 131 := by kernel_rfl
theorem sl64 : qbn Tryz.prog 64 = true := by kernel_rfl
theorem un64 : Tryz.prog.underlying 64 = some (.slice 131) := by kernel_rfl
theorem st64 : qdt Tryz.prog 64 = false := by kernel_rfl
theorem bo64 : qc8 Tryz.prog 64 = false := by kernel_rfl
theorem pt64 : qdu Tryz.prog 64 = false := by kernel_rfl
theorem sz66 : qb4 Tryz.prog 66 = some 5 := by kernel_rfl
theorem ag66 : aggT Tryz.prog 66 = some true := by kernel_rfl
theorem zr66 : qc3 Tryz.prog 66 = some [.s ⟨#[]⟩, .s ⟨#[]⟩, .nil, .nil, .b false] := by kernel_rfl
theorem zd66 : zD Tryz.prog 66 = .agg [.s ⟨#[]⟩, .s ⟨#[]⟩, .nil, .nil, .b false] := by kernel_rfl
theorem by66 : qdp Tryz.prog 66 = some 88 := by kernel_rfl
theorem sl66 : qbn Tryz.prog 66 = false := by kernel_rfl
theorem st66 : qdt Tryz.prog 66 = false := by kernel_rfl
theorem bo66 : qc8 Tryz.prog 66 = false := by kernel_rfl
theorem pt66 : qdu Tryz.prog 66 = false := by kernel_rfl
theorem qbsc : offT Tryz.prog 66 0 = some (0, 1) := by kernel_rfl
theorem qbsd : qcd Tryz.prog 66 0 = some 9 := by kernel_rfl
theorem qbse : offT Tryz.prog 66 1 = some (1, 2) := by kernel_rfl
theorem qbsf : qcd Tryz.prog 66 1 = some 63 := by kernel_rfl
theorem qbsg : offT Tryz.prog 66 2 = some (3, 1) := by kernel_rfl
theorem qbsh : qcd Tryz.prog 66 2 = some 64 := by kernel_rfl
theorem qbsi : offT Tryz.prog 66 3 = some (4, 1) := by kernel_rfl
theorem qbsj : qcd Tryz.prog 66 3 = some 4 := by kernel_rfl
theorem pl66 : qfv Tryz.prog 66 = some [(0, 1), (1, 2), (3, 1), (4, 1)] := by kernel_rfl
theorem sz67 : qb4 Tryz.prog 67 = some 1 := by kernel_rfl
theorem ag67 : aggT Tryz.prog 67 = some false := by kernel_rfl
theorem zr67 : qc3 Tryz.prog 67 = some [.nil] := by kernel_rfl
theorem zo67 : qf0 Tryz.prog 67 = some (.nil) := by kernel_rfl
theorem zd67 : zD Tryz.prog 67 = .nil := by kernel_rfl
theorem by67 : qdp Tryz.prog 67 = some 24 := by kernel_rfl
theorem el67 : qgr Tryz.prog 67 = some 71 := by kernel_rfl
theorem sl67 : qbn Tryz.prog 67 = true := by kernel_rfl
theorem un67 : Tryz.prog.underlying 67 = some (.slice 71) := by kernel_rfl
theorem st67 : qdt Tryz.prog 67 = false := by kernel_rfl
theorem bo67 : qc8 Tryz.prog 67 = false := by kernel_rfl
theorem pt67 : qdu Tryz.prog 67 = false := by kernel_rfl
theorem sz69 : qb4 Tryz.prog 69 = some 6 := by kernel_rfl
theorem ag69 : aggT Tryz.prog 69 = some true := by kernel_rfl
theorem zr69 : qc3 Tryz.prog 69 = some [.s ⟨#[]⟩, .s ⟨#[]⟩, .nil, .nil, .b false, .nil] := by kernel_rfl
theorem zd69 : zD Tryz.prog 69 = .agg [.s ⟨#[]⟩, .s ⟨#[]⟩, .nil, .nil, .b false, .nil] := by kernel_rfl
theorem by69 : qdp Tryz.prog 69 = some 112 := by kernel_rfl
theorem sl69 : qbn Tryz.prog 69 = false := by kernel_rfl
theorem st69 : qdt Tryz.prog 69 = false := by kernel_rfl
theorem bo69 : qc8 Tryz.prog 69 = false := by kernel_rfl
theorem pt69 : qdu Tryz.prog 69 = false := by kernel_rfl
theorem qbsk : offT Tryz.prog 69 0 = some (0, 5) := by kernel_rfl
theorem qbsl : qcd Tryz.prog 69 0 = some 66 := by kernel_rfl
theorem qbsm : offT Tryz.prog 69 1 = some (5, 1) := by kernel_rfl
theorem qbsn : qcd Tryz.prog 69 1 = some 67 := by kernel_rfl
theorem pl69 : qfv Tryz.prog 69 = some [(0, 5), (5, 1)] := by kernel_rfl
theorem sz71 : qb4 Tryz.prog 71 = some 2 := by kernel_rfl
theorem ag71 : aggT Tryz.prog 71 = some true := by kernel_rfl
theorem zr71 : qc3 Tryz.prog 71 = some [.b false, .s ⟨#[]⟩] := by kernel_rfl
theorem zd71 : zD Tryz.prog 71 = .agg [.b false, .s ⟨#[]⟩] := by kernel_rfl
theorem by71 : qdp Tryz.prog 71 = some 24 := by kernel_rfl
theorem sl71 : qbn Tryz.prog 71 = false := by kernel_rfl
theorem st71 : qdt Tryz.prog 71 = false := by kernel_rfl
theorem bo71 : qc8 Tryz.prog 71 = false := by kernel_rfl
theorem pt71 : qdu Tryz.prog 71 = false := by kernel_rfl
theorem qbso : offT Tryz.prog 71 0 = some (0, 1) := by kernel_rfl
theorem qbsp : qcd Tryz.prog 71 0 = some 4 := by kernel_rfl
theorem qbsq : offT Tryz.prog 71 1 = some (1, 1) := by kernel_rfl
theorem qbsr : qcd Tryz.prog 71 1 = some 9 := by kernel_rfl
theorem pl71 : qfv Tryz.prog 71 = some [(0, 1), (1, 1)] := by kernel_rfl
theorem ek71 : eqKs Tryz.prog 71 = some [.b, .s] := by kernel_rfl
theorem sz84 : qb4 Tryz.prog 84 = some 1 := by kernel_rfl
theorem ag84 : aggT Tryz.prog 84 = some false := by kernel_rfl
theorem zr84 : qc3 Tryz.prog 84 = some [.nil] := by kernel_rfl
theorem zo84 : qf0 Tryz.prog 84 = some (.nil) := by kernel_rfl
theorem zd84 : zD Tryz.prog 84 = .nil := by kernel_rfl
theorem by84 : qdp Tryz.prog 84 = some 24 := by kernel_rfl
theorem el84 : qgr Tryz.prog 84 = some 50 := by kernel_rfl
theorem sl84 : qbn Tryz.prog 84 = true := by kernel_rfl
theorem un84 : Tryz.prog.underlying 84 = some (.slice 50) := by kernel_rfl
theorem st84 : qdt Tryz.prog 84 = false := by kernel_rfl
theorem bo84 : qc8 Tryz.prog 84 = false := by kernel_rfl
theorem pt84 : qdu Tryz.prog 84 = false := by kernel_rfl
theorem sz86 : qb4 Tryz.prog 86 = some 1 := by kernel_rfl
theorem ag86 : aggT Tryz.prog 86 = some false := by kernel_rfl
theorem zr86 : qc3 Tryz.prog 86 = some [.nil] := by kernel_rfl
theorem zo86 : qf0 Tryz.prog 86 = some (.nil) := by kernel_rfl
theorem zd86 : zD Tryz.prog 86 = .nil := by kernel_rfl
theorem by86 : qdp Tryz.prog 86 = some 24 := by kernel_rfl
theorem el86 : qgr Tryz.prog 86 = some 3 := by kernel_rfl
theorem sl86 : qbn Tryz.prog 86 = true := by kernel_rfl
theorem un86 : Tryz.prog.underlying 86 = some (.slice 3) := by kernel_rfl
theorem st86 : qdt Tryz.prog 86 = false := by kernel_rfl
theorem bo86 : qc8 Tryz.prog 86 = false := by kernel_rfl
theorem pt86 : qdu Tryz.prog 86 = false := by kernel_rfl
theorem sz88 : qb4 Tryz.prog 88 = some 4 := by kernel_rfl
theorem ag88 : aggT Tryz.prog 88 = some true := by kernel_rfl
theorem zr88 : qc3 Tryz.prog 88 = some [.nil, .i .i64 0, .nil, .i .i64 0] := by kernel_rfl
theorem zd88 : zD Tryz.prog 88 = .agg [.nil, .i .i64 0, .nil, .i .i64 0] := by kernel_rfl
theorem by88 : qdp Tryz.prog 88 = some 64 := by kernel_rfl
theorem sl88 : qbn Tryz.prog 88 = false := by kernel_rfl
theorem st88 : qdt Tryz.prog 88 = false := by kernel_rfl
theorem bo88 : qc8 Tryz.prog 88 = false := by kernel_rfl
theorem pt88 : qdu Tryz.prog 88 = false := by kernel_rfl
theorem qbss : offT Tryz.prog 88 0 = some (0, 1) := by kernel_rfl
theorem qbst : qcd Tryz.prog 88 0 = some 26 := by kernel_rfl
theorem qbsu : offT Tryz.prog 88 1 = some (1, 1) := by kernel_rfl
theorem qbsv : qcd Tryz.prog 88 1 = some 3 := by kernel_rfl
theorem qbsw : offT Tryz.prog 88 2 = some (2, 1) := by kernel_rfl
theorem qbsx : qcd Tryz.prog 88 2 = some 86 := by kernel_rfl
theorem qbsy : offT Tryz.prog 88 3 = some (3, 1) := by kernel_rfl
theorem qbsz : qcd Tryz.prog 88 3 = some 3 := by kernel_rfl
theorem pl88 : qfv Tryz.prog 88 = some [(0, 1), (1, 1), (2, 1), (3, 1)] := by kernel_rfl
theorem sz97 : qb4 Tryz.prog 97 = some 1 := by kernel_rfl
theorem ag97 : aggT Tryz.prog 97 = some false := by kernel_rfl
theorem by97 : qdp Tryz.prog 97 = some 8 := by kernel_rfl
theorem sl97 : qbn Tryz.prog 97 = false := by kernel_rfl
theorem st97 : qdt Tryz.prog 97 = false := by kernel_rfl
theorem bo97 : qc8 Tryz.prog 97 = false := by kernel_rfl
theorem pt97 : qdu Tryz.prog 97 = false := by kernel_rfl
theorem mt97 : mapT Tryz.prog 97 = some (3, 140) := by kernel_rfl
theorem sz126 : qb4 Tryz.prog 126 = some 3 := by kernel_rfl
theorem qbv0 : aggT Tryz.prog 126 = some true := by kernel_rfl
theorem qbv1 : qc3 Tryz.prog 126 = some [.i .i64 0, .i .i64 0, .i .i64 0] := by kernel_rfl
theorem qbv2 : zD Tryz.prog 126 = .agg [.i .i64 0, .i .i64 0, .i .i64 0] := by kernel_rfl
theorem qbv3 : qdp Tryz.prog 126 = some 24 := by kernel_rfl
theorem qbv4 : qbn Tryz.prog 126 = false := by kernel_rfl
theorem qbv5 : qdt Tryz.prog 126 = false := by kernel_rfl
theorem qbv6 : qc8 Tryz.prog 126 = false := by kernel_rfl
theorem qbv7 : qdu Tryz.prog 126 = false := by kernel_rfl
theorem qbmi : offT Tryz.prog 126 0 = some (0, 1) := by kernel_rfl
theorem qbmj : qcd Tryz.prog 126 0 = some 3 := by kernel_rfl
theorem qbmk : offT Tryz.prog 126 1 = some (1, 1) := by kernel_rfl
theorem qbml : qcd Tryz.prog 126 1 = some 3 := by kernel_rfl
theorem qbmm : offT Tryz.prog 126 2 = some (2, 1) := by kernel_rfl
theorem qbmn : qcd Tryz.prog 126 2 = some 3 := by kernel_rfl
theorem qbv8 : qfv Tryz.prog 126 = some [(0, 1), (1, 1), (2, 1)] := by kernel_rfl
theorem qbv9 : eqKs Tryz.prog 126 = some [.i, .i, .i] := by kernel_rfl
theorem sz128 : qb4 Tryz.prog 128 = some 4 := by kernel_rfl
theorem qbwa : aggT Tryz.prog 128 = some true := by kernel_rfl
theorem qbwb : qc3 Tryz.prog 128 = some [.s ⟨#[]⟩, .i .i64 0, .i .i64 0, .i .i64 0] := by kernel_rfl
theorem qbwc : zD Tryz.prog 128 = .agg [.s ⟨#[]⟩, .i .i64 0, .i .i64 0, .i .i64 0] := by kernel_rfl
theorem qbwd : qdp Tryz.prog 128 = some 40 := by kernel_rfl
theorem qbwe : qbn Tryz.prog 128 = false := by kernel_rfl
theorem qbwf : qdt Tryz.prog 128 = false := by kernel_rfl
theorem qbwg : qc8 Tryz.prog 128 = false := by kernel_rfl
theorem qbwh : qdu Tryz.prog 128 = false := by kernel_rfl
theorem qbmo : offT Tryz.prog 128 0 = some (0, 1) := by kernel_rfl
theorem qbmp : qcd Tryz.prog 128 0 = some 9 := by kernel_rfl
theorem qbmq : offT Tryz.prog 128 1 = some (1, 3) := by kernel_rfl
theorem qbmr : qcd Tryz.prog 128 1 = some 126 := by kernel_rfl
theorem qbwi : qfv Tryz.prog 128 = some [(0, 1), (1, 3)] := by kernel_rfl
theorem qbwj : eqKs Tryz.prog 128 = some [.s, .i, .i, .i] := by kernel_rfl
theorem sz131 : qb4 Tryz.prog 131 = some 2 := by kernel_rfl
theorem qbwk : aggT Tryz.prog 131 = some true := by kernel_rfl
theorem qbwl : qc3 Tryz.prog 131 = some [.s ⟨#[]⟩, .b false] := by kernel_rfl
theorem qbwm : zD Tryz.prog 131 = .agg [.s ⟨#[]⟩, .b false] := by kernel_rfl
theorem qbwn : qdp Tryz.prog 131 = some 24 := by kernel_rfl
theorem qbwo : qbn Tryz.prog 131 = false := by kernel_rfl
theorem qbwp : qdt Tryz.prog 131 = false := by kernel_rfl
theorem qbwq : qc8 Tryz.prog 131 = false := by kernel_rfl
theorem qbwr : qdu Tryz.prog 131 = false := by kernel_rfl
theorem qbms : offT Tryz.prog 131 0 = some (0, 1) := by kernel_rfl
theorem qbmt : qcd Tryz.prog 131 0 = some 9 := by kernel_rfl
theorem qbmu : offT Tryz.prog 131 1 = some (1, 1) := by kernel_rfl
theorem qbmv : qcd Tryz.prog 131 1 = some 4 := by kernel_rfl
theorem qbws : qfv Tryz.prog 131 = some [(0, 1), (1, 1)] := by kernel_rfl
theorem qbwt : eqKs Tryz.prog 131 = some [.s, .b] := by kernel_rfl
theorem qbwu : qb4 Tryz.prog 140 = some 1 := by kernel_rfl
theorem qbwv : aggT Tryz.prog 140 = some false := by kernel_rfl
theorem qbww : qc3 Tryz.prog 140 = some [.np] := by kernel_rfl
theorem qbwx : qf0 Tryz.prog 140 = some (.np) := by kernel_rfl
theorem qbwy : zD Tryz.prog 140 = .np := by kernel_rfl
theorem qbwz : qdp Tryz.prog 140 = some 8 := by kernel_rfl
theorem qbw0 : qbn Tryz.prog 140 = false := by kernel_rfl
theorem qbw1 : qdt Tryz.prog 140 = false := by kernel_rfl
theorem qbw2 : qc8 Tryz.prog 140 = false := by kernel_rfl
theorem qbw3 : qdu Tryz.prog 140 = true := by kernel_rfl
theorem qbw4 : qb4 Tryz.prog 143 = some 4 := by kernel_rfl
theorem qbw5 : aggT Tryz.prog 143 = some true := by kernel_rfl
theorem qbw6 : qc3 Tryz.prog 143 = some [.i .i64 0, .i .i64 0, .i .i64 0, .i .i64 0] := by kernel_rfl
theorem qbw7 : zD Tryz.prog 143 = .agg [.i .i64 0, .i .i64 0, .i .i64 0, .i .i64 0] := by kernel_rfl
theorem qbw8 : qdp Tryz.prog 143 = some 32 := by kernel_rfl
theorem qbw9 : qbn Tryz.prog 143 = false := by kernel_rfl
theorem qbxa : qdt Tryz.prog 143 = false := by kernel_rfl
theorem qbxb : qc8 Tryz.prog 143 = false := by kernel_rfl
theorem qbxc : qdu Tryz.prog 143 = false := by kernel_rfl
theorem qbmw : offT Tryz.prog 143 0 = some (0, 1) := by kernel_rfl
theorem qbmx : qcd Tryz.prog 143 0 = some 3 := by kernel_rfl
theorem qbmy : offT Tryz.prog 143 1 = some (1, 1) := by kernel_rfl
theorem qbmz : qcd Tryz.prog 143 1 = some 3 := by kernel_rfl
theorem qbm0 : offT Tryz.prog 143 2 = some (2, 1) := by kernel_rfl
theorem qbm1 : qcd Tryz.prog 143 2 = some 3 := by kernel_rfl
theorem qbm2 : offT Tryz.prog 143 3 = some (3, 1) := by kernel_rfl
theorem qbm3 : qcd Tryz.prog 143 3 = some 3 := by kernel_rfl
theorem qbxd : qfv Tryz.prog 143 = some [(0, 1), (1, 1), (2, 1), (3, 1)] := by kernel_rfl
theorem qbxe : eqKs Tryz.prog 143 = some [.i, .i, .i, .i] := by kernel_rfl
theorem qbxf : qb4 Tryz.prog 163 = some 1 := by kernel_rfl
theorem qbxg : aggT Tryz.prog 163 = some false := by kernel_rfl
theorem qbxh : qc3 Tryz.prog 163 = some [.nil] := by kernel_rfl
theorem qbxi : qf0 Tryz.prog 163 = some (.nil) := by kernel_rfl
theorem qbxj : zD Tryz.prog 163 = .nil := by kernel_rfl
theorem qbxk : qdp Tryz.prog 163 = some 24 := by kernel_rfl
theorem qbxl : qgr Tryz.prog 163 = some 31 := by kernel_rfl
theorem qbxm : qbn Tryz.prog 163 = true := by kernel_rfl
theorem qbxn : Tryz.prog.underlying 163 = some (.slice 31) := by kernel_rfl
theorem qbxo : qdt Tryz.prog 163 = false := by kernel_rfl
theorem qbxp : qc8 Tryz.prog 163 = false := by kernel_rfl
theorem qbxq : qdu Tryz.prog 163 = false := by kernel_rfl
theorem qbxr : qb4 Tryz.prog 172 = some 1 := by kernel_rfl
theorem qbxs : aggT Tryz.prog 172 = some false := by kernel_rfl
theorem qbxt : qc3 Tryz.prog 172 = some [.nil] := by kernel_rfl
theorem qbxu : qf0 Tryz.prog 172 = some (.nil) := by kernel_rfl
theorem qbxv : zD Tryz.prog 172 = .nil := by kernel_rfl
theorem qbxw : qdp Tryz.prog 172 = some 24 := by kernel_rfl
theorem qbxx : qgr Tryz.prog 172 = some 187 := by kernel_rfl
theorem qbxy : qbn Tryz.prog 172 = true := by kernel_rfl
theorem qbxz : Tryz.prog.underlying 172 = some (.slice 187) := by kernel_rfl
theorem qbx0 : qdt Tryz.prog 172 = false := by kernel_rfl
theorem qbx1 : qc8 Tryz.prog 172 = false := by kernel_rfl
theorem qbx2 : qdu Tryz.prog 172 = false := by kernel_rfl
theorem qbx3 : qb4 Tryz.prog 187 = some 2 := by kernel_rfl
theorem qbx4 : aggT Tryz.prog 187 = some true := by kernel_rfl
theorem qbx5 : qc3 Tryz.prog 187 = some [.i .i64 0, .s ⟨#[]⟩] := by kernel_rfl
theorem qbx6 : zD Tryz.prog 187 = .agg [.i .i64 0, .s ⟨#[]⟩] := by kernel_rfl
theorem qbx7 : qdp Tryz.prog 187 = some 24 := by kernel_rfl
theorem qbx8 : qbn Tryz.prog 187 = false := by kernel_rfl
theorem qbx9 : qdt Tryz.prog 187 = false := by kernel_rfl
theorem qbya : qc8 Tryz.prog 187 = false := by kernel_rfl
theorem qbyb : qdu Tryz.prog 187 = false := by kernel_rfl
theorem qbm4 : offT Tryz.prog 187 0 = some (0, 1) := by kernel_rfl
theorem qbm5 : qcd Tryz.prog 187 0 = some 3 := by kernel_rfl
theorem qbm6 : offT Tryz.prog 187 1 = some (1, 1) := by kernel_rfl
theorem qbm7 : qcd Tryz.prog 187 1 = some 9 := by kernel_rfl
theorem qbyc : qfv Tryz.prog 187 = some [(0, 1), (1, 1)] := by kernel_rfl
theorem qbyd : eqKs Tryz.prog 187 = some [.i, .s] := by kernel_rfl
theorem qbye : qb4 Tryz.prog 204 = some 1 := by kernel_rfl
theorem qbyf : aggT Tryz.prog 204 = some false := by kernel_rfl
theorem qbyg : qdp Tryz.prog 204 = some 8 := by kernel_rfl
theorem qbyh : qbn Tryz.prog 204 = false := by kernel_rfl
theorem qbyi : qdt Tryz.prog 204 = false := by kernel_rfl
theorem qbyj : qc8 Tryz.prog 204 = false := by kernel_rfl
theorem qbyk : qdu Tryz.prog 204 = false := by kernel_rfl
theorem qbyl : mapT Tryz.prog 204 = some (9, 4) := by kernel_rfl
theorem qbym : qb4 Tryz.prog 222 = some 1 := by kernel_rfl
theorem qbyn : aggT Tryz.prog 222 = some false := by kernel_rfl
theorem qbyo : qc3 Tryz.prog 222 = some [.nil] := by kernel_rfl
theorem qbyp : qf0 Tryz.prog 222 = some (.nil) := by kernel_rfl
theorem qbyq : zD Tryz.prog 222 = .nil := by kernel_rfl
theorem qbyr : qdp Tryz.prog 222 = some 24 := by kernel_rfl
theorem qbys : qgr Tryz.prog 222 = some 5 := by kernel_rfl
theorem qbyt : qbn Tryz.prog 222 = true := by kernel_rfl
theorem qbyu : Tryz.prog.underlying 222 = some (.slice 5) := by kernel_rfl
theorem qbyv : qdt Tryz.prog 222 = false := by kernel_rfl
theorem qbyw : qc8 Tryz.prog 222 = false := by kernel_rfl
theorem qbyx : qdu Tryz.prog 222 = false := by kernel_rfl
theorem qbyy : ckT Tryz.prog 222 = .bytes := by kernel_rfl
theorem qbyz : qb4 Tryz.prog 233 = some 1 := by kernel_rfl
theorem qby0 : aggT Tryz.prog 233 = some false := by kernel_rfl
theorem qby1 : qc3 Tryz.prog 233 = some [.i .i8 0] := by kernel_rfl
theorem qby2 : qf0 Tryz.prog 233 = some (.i .i8 0) := by kernel_rfl
theorem qby3 : zD Tryz.prog 233 = .i .i8 0 := by kernel_rfl
theorem qby4 : qdp Tryz.prog 233 = some 1 := by kernel_rfl
theorem qby5 : qbn Tryz.prog 233 = false := by kernel_rfl
theorem qby6 : qdt Tryz.prog 233 = false := by kernel_rfl
theorem qby7 : qc8 Tryz.prog 233 = false := by kernel_rfl
theorem qby8 : qdu Tryz.prog 233 = false := by kernel_rfl
theorem qby9 : ckT Tryz.prog 233 = .int .i8 := by kernel_rfl
end Go.Ev.Ty
namespace Go.Ev
def decI (k : IntKind) : D → Option Int
 | .i k' n => if k' = k then some n else none
 | _ => none
def decM {α : Type} (f : D → Option α) : List D → Option (List α)
 | [] => some []
 | d :: l => match f d, decM f l with
   | some x, some r => some (x :: r)
   | _, _ => none
def decL {α : Type} (z : Nat) (f : D → Option α) : D → Option (List α)
 | .nil => some []
 | .sl z' l => if z' = z then decM f l else none
 | _ => none
theorem qbfe (k : IntKind) (n : Int) : decI k (D.i k n) = some n := by simp [decI]
theorem ql3 {k : IntKind} {d : D} {n : Int} (h : decI k d = some n) : dle d (D.i k n) := by
 unfold decI at h
 split at h
 ·split at h
  ·cases h; rename_i e; subst e; exact q09 _
  ·cases h
 ·cases h
theorem qca {α : Type} {f : D → Option α} : decM f [] = some [] := rfl
theorem qbx {α : Type} {f : D → Option α} {d : D} {l : List D} : decM f (d :: l) = (match f d, decM f l with
 | some x, some r => some (x :: r)
 | _, _ => none) := rfl
theorem qbe {α : Type} {f : α → D} {l : List α} {d : D} : (l.map f ++ [d]).take (l.length + 1) = l.map f ++ [d] := List.take_of_length_le (by simp)
theorem qhc {α : Type} {f : D → Option α} {g : α → D} (h : ∀ x, f (g x) = some x) : ∀ l : List α, decM f (l.map g) = some l
 | [] => rfl
 | x :: l => by simp [decM, h, qhc h l]
theorem qbp {α : Type} {f : D → Option α} : ∀ {l m : List D}, decM f (l ++ m) = (match decM f l, decM f m with
 | some x, some y => some (x ++ y)
 | _, _ => none)
 | [], m => by
   simp only [List.nil_append, decM]
   cases decM f m <;> rfl
 | d :: l, m => by
   simp only [List.cons_append, decM, qbp (l := l) (m := m)]
   cases f d <;> cases decM f l <;> cases decM f m <;> rfl
theorem qdd {α : Type} {f : D → Option α} {z : Nat} : decL z f .nil = some [] := rfl
theorem qc2 {α : Type} {f : D → Option α} {z z' : Nat} {l : List D} : decL z f (.sl z' l) = if z' = z then decM f l else none := rfl
theorem qgi {α : Type} {f : D → Option α} {g : α → D} {z : Nat} (h : ∀ x, f (g x) = some x) (l : List α) : decL z f (.sl z (l.map g)) = some l := by simp [decL, qhc h]
theorem qhi {l m : List D} (h : l = m) : dles l m := h ▸ q0k l
theorem ql4 {α : Type} {f : D → Option α} {g : α → D} (h : ∀ {d x}, f d = some x → dle d (g x)) : ∀ {l : List D} {x : List α}, decM f l = some x → dles l (x.map g)
 | [], x, hl => by cases hl; simp [dles]
 | d :: l, x, hl => by
   unfold decM at hl
   split at hl
   ·rename_i a r h1 h2
    cases hl
    simp only [List.map_cons, dles]
    exact ⟨h h1, ql4 h h2⟩
   ·cases hl
theorem q00 {α : Type} {f : D → Option α} {g : α → D} {z : Nat} (h : ∀ {d x}, f d = some x → dle d (g x)) {d : D} {x : List α} (hd : decL z f d = some x) : dle d (.sl z (x.map g)) := by
 unfold decL at hd
 split at hd
 ·cases hd; simp [dle]
 ·split at hd
  ·rename_i e
   subst e
   simp only [dle]
   exact ⟨trivial, ql4 h hd⟩
  ·cases hd
 ·cases hd
theorem qxj (x y : ByteArray) : seq x y = true ↔ x = y := by
 unfold seq
 rw [beq_iff_eq, ByteArray.toList_eq, ByteArray.toList_eq]
 exact ⟨fun h => Go.WideShapes.bytes_inj h, fun h => by rw [h]⟩
theorem qcr (x y : ByteArray) : seq x y = decide (x = y) := by
 rw [Bool.eq_iff_iff, qxj, decide_eq_true_iff]
end Go.Ev
namespace Go.Ev
structure Change where
 file : ByteArray
 kind : Int
 rrn : Int
 before : ByteArray
 after : ByteArray
deriving DecidableEq
def q0s (x : Change) : D := .agg [.s x.file, .i .i64 x.kind, .i .i64 x.rrn, .s x.before, .s x.after]
def q08 : Change := ⟨⟨#[]⟩, 0, 0, ⟨#[]⟩, ⟨#[]⟩⟩
theorem q05 (x : Change) : (⟨x.file, x.kind, x.rrn, x.before, x.after⟩ : Change) = x := rfl
def q0x : D → Option Change
 | .agg [.s a0, .i .i64 a1, .i .i64 a2, .s a3, .s a4] => some ⟨a0, a1, a2, a3, a4⟩
 | _ => none
theorem qrm (x : Change) : q0x (q0s x) = some x := rfl
theorem qe8 {d : D} {x : Change} (h : q0x d = some x) : dle d (q0s x) := by
 unfold q0x at h
 split at h
 ·cases h; exact q09 _
 ·cases h
theorem qba : (⟨⟨#[]⟩, 0, 0, ⟨#[]⟩, ⟨#[]⟩⟩ : Change) = q08 := rfl
theorem qcu {a0 b0 : ByteArray} {a1 b1 : Int} {a2 b2 : Int} {a3 b3 : ByteArray} {a4 b4 : ByteArray} : qdv [.s, .i, .i, .s, .s] [.s a0, .i .i64 a1, .i .i64 a2, .s a3, .s a4] [.s b0, .i .i64 b1, .i .i64 b2, .s b3, .s b4] = some (eqB (⟨a0, a1, a2, a3, a4⟩ : Change) ⟨b0, b1, b2, b3, b4⟩) := by
 simp only [qdv, qis, qcr, ↓reduceIte, Option.some.injEq, Bool.and_true]; rw [Bool.eq_iff_iff]; simp [eqB]
theorem q4n (l : List Change) (k : Nat) : (l.map q0s).getD k (q0s q08) = q0s (l.getD k q08) := by
 simp only [List.getD, List.getElem?_map]
 cases l[k]? <;> rfl
theorem qd0 (l : List Change) (k : Nat) : (l.map q0s).getD k (.agg [.s ⟨#[]⟩, .i .i64 0, .i .i64 0, .s ⟨#[]⟩, .s ⟨#[]⟩]) = q0s (l.getD k q08) := q4n l k
theorem qcv (l : List Change) : decL 5 q0x (.sl 5 (l.map q0s)) = some l := qgi qrm l
theorem qcw (l : List Change) : decM q0x (l.map q0s) = some l := qhc qrm l
structure Entry where
 number : Int
 kind : Int
 unit : Int
 change : Change
deriving DecidableEq
def q0h (x : Entry) : D := .agg [.i .i64 x.number, .i .i64 x.kind, .i .i64 x.unit, .s x.change.file, .i .i64 x.change.kind, .i .i64 x.change.rrn, .s x.change.before, .s x.change.after]
def q0i : Entry := ⟨0, 0, 0, q08⟩
theorem qbk (x : Entry) : (⟨x.number, x.kind, x.unit, x.change⟩ : Entry) = x := rfl
def q0v : D → Option Entry
 | .agg [.i .i64 a0, .i .i64 a1, .i .i64 a2, .s a3, .i .i64 a4, .i .i64 a5, .s a6, .s a7] => some ⟨a0, a1, a2, ⟨a3, a4, a5, a6, a7⟩⟩
 | _ => none
theorem qsa (x : Entry) : q0v (q0h x) = some x := rfl
theorem q02 {d : D} {x : Entry} (h : q0v d = some x) : dle d (q0h x) := by
 unfold q0v at h
 split at h
 ·cases h; exact q09 _
 ·cases h
theorem qby : (⟨0, 0, 0, q08⟩ : Entry) = q0i := rfl
theorem qdg {a0 b0 : Int} {a1 b1 : Int} {a2 b2 : Int} {a3 b3 : ByteArray} {a4 b4 : Int} {a5 b5 : Int} {a6 b6 : ByteArray} {a7 b7 : ByteArray} : qdv [.i, .i, .i, .s, .i, .i, .s, .s] [.i .i64 a0, .i .i64 a1, .i .i64 a2, .s a3, .i .i64 a4, .i .i64 a5, .s a6, .s a7] [.i .i64 b0, .i .i64 b1, .i .i64 b2, .s b3, .i .i64 b4, .i .i64 b5, .s b6, .s b7] = some (eqB (⟨a0, a1, a2, ⟨a3, a4, a5, a6, a7⟩⟩ : Entry) ⟨b0, b1, b2, ⟨b3, b4, b5, b6, b7⟩⟩) := by
 simp only [qdv, qis, qcr, ↓reduceIte, Option.some.injEq, Bool.and_true]; rw [Bool.eq_iff_iff]; simp [eqB]
theorem q63 (l : List Entry) (k : Nat) : (l.map q0h).getD k (q0h q0i) = q0h (l.getD k q0i) := by
 simp only [List.getD, List.getElem?_map]
 cases l[k]? <;> rfl
theorem qbm (l : List Entry) (k : Nat) : (l.map q0h).getD k (.agg [.i .i64 0, .i .i64 0, .i .i64 0, .s ⟨#[]⟩, .i .i64 0, .i .i64 0, .s ⟨#[]⟩, .s ⟨#[]⟩]) = q0h (l.getD k q0i) := q63 l k
theorem qcj (l : List Entry) : decL 8 q0v (.sl 8 (l.map q0h)) = some l := qgi qsa l
theorem qcq (l : List Entry) : decM q0v (l.map q0h) = some l := qhc qsa l
structure Packet where
 kind : Int
 number : Int
deriving DecidableEq
def qbf (x : Packet) : D := .agg [.i .i64 x.kind, .i .i64 x.number]
def qe0 : Packet := ⟨0, 0⟩
theorem qfn (x : Packet) : (⟨x.kind, x.number⟩ : Packet) = x := rfl
def qdy : D → Option Packet
 | .agg [.i .i64 a0, .i .i64 a1] => some ⟨a0, a1⟩
 | _ => none
theorem qrn (x : Packet) : qdy (qbf x) = some x := rfl
theorem qks {d : D} {x : Packet} (h : qdy d = some x) : dle d (qbf x) := by
 unfold qdy at h
 split at h
 ·cases h; exact q09 _
 ·cases h
theorem qf2 : (⟨0, 0⟩ : Packet) = qe0 := rfl
theorem qfo {a0 b0 : Int} {a1 b1 : Int} : qdv [.i, .i] [.i .i64 a0, .i .i64 a1] [.i .i64 b0, .i .i64 b1] = some (eqB (⟨a0, a1⟩ : Packet) ⟨b0, b1⟩) := by
 simp only [qdv, qis, qcr, ↓reduceIte, Option.some.injEq, Bool.and_true]; rw [Bool.eq_iff_iff]; simp [eqB]
theorem q4o (l : List Packet) (k : Nat) : (l.map qbf).getD k (qbf qe0) = qbf (l.getD k qe0) := by
 simp only [List.getD, List.getElem?_map]
 cases l[k]? <;> rfl
theorem qei (l : List Packet) (k : Nat) : (l.map qbf).getD k (.agg [.i .i64 0, .i .i64 0]) = qbf (l.getD k qe0) := q4o l k
theorem qfp (l : List Packet) : decL 2 qdy (.sl 2 (l.map qbf)) = some l := qgi qrn l
theorem qch (l : List Packet) : decM qdy (l.map qbf) = some l := qhc qrn l
structure Remote where
 sync : Bool
 source : List Entry
 target : List Entry
 sent : Int
 acked : Int
 wire : List Packet
deriving DecidableEq
def qbb (x : Remote) : D := .agg [.b x.sync, .sl 8 (x.source.map q0h), .sl 8 (x.target.map q0h), .i .i64 x.sent, .i .i64 x.acked, .sl 2 (x.wire.map qbf)]
def qf7 : Remote := ⟨false, [], [], 0, 0, []⟩
theorem qfq (x : Remote) : (⟨x.sync, x.source, x.target, x.sent, x.acked, x.wire⟩ : Remote) = x := rfl
def qcg : D → Option Remote
 | .agg [.b a0, a1, a2, .i .i64 a3, .i .i64 a4, a5] => match (decL 8 q0v) a1, (decL 8 q0v) a2, (decL 2 qdy) a5 with
   | some b1, some b2, some b5 => some ⟨a0, b1, b2, a3, a4, b5⟩
   | _, _, _ => none
 | _ => none
theorem qej {d : D} {x : Remote} (h : qcg d = some x) : dle d (qbb x) := by
 unfold qcg at h
 split at h
 ·split at h
  ·rename_i h1 h2 h5
   cases h
   simp only [dle, dles, qbb, and_true, true_and]
   exact ⟨(q00 q02) h1, (q00 q02) h2, (q00 qks) h5⟩
  ·cases h
 ·cases h
theorem qf3 : (⟨false, [], [], 0, 0, []⟩ : Remote) = qf7 := rfl
structure RAct where
 kind : Int
 n : Int
 entry : Entry
deriving DecidableEq
def qeg (x : RAct) : D := .agg [.i .i64 x.kind, .i .i64 x.n, .i .i64 x.entry.number, .i .i64 x.entry.kind, .i .i64 x.entry.unit, .s x.entry.change.file, .i .i64 x.entry.change.kind, .i .i64 x.entry.change.rrn, .s x.entry.change.before, .s x.entry.change.after]
def qo5 : RAct := ⟨0, 0, q0i⟩
theorem qg0 (x : RAct) : (⟨x.kind, x.n, x.entry⟩ : RAct) = x := rfl
def qe9 : D → Option RAct
 | .agg [.i .i64 a0, .i .i64 a1, .i .i64 a2, .i .i64 a3, .i .i64 a4, .s a5, .i .i64 a6, .i .i64 a7, .s a8, .s a9] => some ⟨a0, a1, ⟨a2, a3, a4, ⟨a5, a6, a7, a8, a9⟩⟩⟩
 | _ => none
theorem qt6 (x : RAct) : qe9 (qeg x) = some x := rfl
theorem qvz {d : D} {x : RAct} (h : qe9 d = some x) : dle d (qeg x) := by
 unfold qe9 at h
 split at h
 ·cases h; exact q09 _
 ·cases h
theorem qh1 : (⟨0, 0, q0i⟩ : RAct) = qo5 := rfl
theorem qg1 {a0 b0 : Int} {a1 b1 : Int} {a2 b2 : Int} {a3 b3 : Int} {a4 b4 : Int} {a5 b5 : ByteArray} {a6 b6 : Int} {a7 b7 : Int} {a8 b8 : ByteArray} {a9 b9 : ByteArray} : qdv [.i, .i, .i, .i, .i, .s, .i, .i, .s, .s] [.i .i64 a0, .i .i64 a1, .i .i64 a2, .i .i64 a3, .i .i64 a4, .s a5, .i .i64 a6, .i .i64 a7, .s a8, .s a9] [.i .i64 b0, .i .i64 b1, .i .i64 b2, .i .i64 b3, .i .i64 b4, .s b5, .i .i64 b6, .i .i64 b7, .s b8, .s b9] = some (eqB (⟨a0, a1, ⟨a2, a3, a4, ⟨a5, a6, a7, a8, a9⟩⟩⟩ : RAct) ⟨b0, b1, ⟨b2, b3, b4, ⟨b5, b6, b7, b8, b9⟩⟩⟩) := by
 simp only [qdv, qis, qcr, ↓reduceIte, Option.some.injEq, Bool.and_true]; rw [Bool.eq_iff_iff]; simp [eqB]
theorem qbbd (l : List RAct) (k : Nat) : (l.map qeg).getD k (qeg qo5) = qeg (l.getD k qo5) := by
 simp only [List.getD, List.getElem?_map]
 cases l[k]? <;> rfl
theorem qe7 (l : List RAct) (k : Nat) : (l.map qeg).getD k (.agg [.i .i64 0, .i .i64 0, .i .i64 0, .i .i64 0, .i .i64 0, .s ⟨#[]⟩, .i .i64 0, .i .i64 0, .s ⟨#[]⟩, .s ⟨#[]⟩]) = qeg (l.getD k qo5) := qbbd l k
theorem qg2 (l : List RAct) : decL 10 qe9 (.sl 10 (l.map qeg)) = some l := qgi qt6 l
theorem qdw (l : List RAct) : decM qe9 (l.map qeg) = some l := qhc qt6 l
structure AUnit where
 unit : Int
 first : Int
 last : Int
 state : Int
deriving DecidableEq
def qbff (x : AUnit) : D := .agg [.i .i64 x.unit, .i .i64 x.first, .i .i64 x.last, .i .i64 x.state]
end Go.Ev
namespace Go.Ev
def qql : Nat → List Entry → Bool
 | _, [] => true
 | i, e :: r => decide (i ≤ 81) && (decide (e.change.before.size ≤ 300) && decide (e.change.after.size ≤ 300)) && qql (i + 1) r
def qtf (l : List Entry) : Bool := qql 0 l
def chr (s : ByteArray) (i : Nat) : Int := ((s.data.toList.getD i 0).toNat : Int)
def qo6 (first : Bool) (c : Int) : Bool := (decide (65 ≤ c) && decide (c ≤ 90) || c == 35 || c == 36 || c == 64) || (!first && (c == 95 || c == 46 || decide (48 ≤ c) && decide (c ≤ 57)))
def qcn (s : ByteArray) : Bool := decide (1 ≤ s.size) && decide (s.size ≤ 10) && (List.range s.size).all fun i => qo6 (i == 0) (chr s i)
theorem qbo (s : ByteArray) (k : Nat) : (qic s).getD k (.i .u8 0) = .i .u8 (chr s k) := by
 unfold qic chr
 simp only [List.getD, List.getElem?_map]
 cases s.data.toList[k]? <;> rfl
theorem q001 (s : ByteArray) (i : Nat) : 0 ≤ chr s i ∧ chr s i ≤ 255 := by
 unfold chr
 have := (s.data.toList.getD i 0).toNat_lt
 omega
theorem qdq (s : ByteArray) (i : Nat) : ((s.data.toList.getD i 0).toNat : Int) = chr s i := rfl
theorem qsb {s : ByteArray} {i : Nat} (h : i < s.size) (hc : qo6 (i == 0) (chr s i) = false) : qcn s = false := by
 unfold qcn
 rw [Bool.and_eq_false_iff]
 right
 rw [List.all_eq_false]
 exact ⟨i, by simpa using h, by simp [hc]⟩
theorem qqm {s : ByteArray} (h1 : 1 ≤ s.size) (h2 : s.size ≤ 10) (h : ∀ j, j < s.size → qo6 (j == 0) (chr s j) = true) : qcn s = true := by
 unfold qcn
 simp only [Bool.and_eq_true, decide_eq_true_eq, List.all_eq_true, List.mem_range]
 exact ⟨⟨h1, h2⟩, h⟩
theorem qqn {s : ByteArray} (h : (s.size : Int) < 1 ∨ 10 < (s.size : Int)) : qcn s = false := by
 unfold qcn
 rw [Bool.and_eq_false_iff]
 left
 simp only [Bool.and_eq_false_iff, decide_eq_false_iff_not]
 omega
theorem ql5 (i : Nat) (c : Int) : qo6 (i == 0) c = true ↔ (((65 ≤ c ∧ c ≤ 90) ∨ c = 35 ∨ c = 36 ∨ c = 64) ∨ (i ≠ 0 ∧ (c = 95 ∨ c = 46 ∨ (48 ≤ c ∧ c ≤ 57)))) := by
 simp [qo6]
 omega
theorem qup (s : ByteArray) : s = ⟨#[]⟩ ↔ s.size = 0 := by
 constructor
 ·rintro rfl; rfl
 ·intro h
  cases s with | mk d => simp only [ByteArray.size, Array.size_eq_zero_iff] at h; rw [h]
def qjs (c : Change) : Int :=
 if ¬(0 ≤ c.kind ∧ c.kind ≤ 2) then 4 else if ¬(1 ≤ c.rrn ∧ c.rrn ≤ 60) then 3 else if 200 < c.before.size ∨ 200 < c.after.size then 18
 else if ¬(c.before = ⟨#[]⟩ ↔ c.kind = 0) ∨ ¬(c.after = ⟨#[]⟩ ↔ c.kind = 2) then 5 else 0
def qlt (e : Entry) : Entry :=
 if e.kind = 0 then e else if e.kind = 1 ∨ e.kind = 2 ∨ e.kind = 3 then ⟨e.number, e.kind, e.unit, q08⟩
 else if e.kind = 4 then ⟨e.number, e.kind, 0, { q08 with file := e.change.file }⟩ else ⟨e.number, e.kind, 0, q08⟩
theorem qyr (a b : Entry) : a = b ↔ a.number = b.number ∧ a.kind = b.kind ∧ a.unit = b.unit ∧ a.change.file = b.change.file ∧ a.change.kind = b.change.kind ∧ a.change.rrn = b.change.rrn ∧ a.change.before = b.change.before ∧ a.change.after = b.change.after := by
 cases a with | mk a1 a2 a3 a4 => cases a4; cases b with | mk b1 b2 b3 b4 => cases b4; simp
theorem qv0 (a b : Change) : a = b ↔ a.file = b.file ∧ a.kind = b.kind ∧ a.rrn = b.rrn ∧ a.before = b.before ∧ a.after = b.after := by
 cases a; cases b; simp
def qtg (e : Entry) : Int := if qlt e = e then 0 else 5
def qde (e : Entry) : Int :=
 if ¬(0 ≤ e.kind ∧ e.kind ≤ 5) then 4 else if ¬(1 ≤ e.number ∧ e.number ≤ 9999) then 3
 else if (e.kind = 1 ∨ e.kind = 2 ∨ e.kind = 3) ∧ ¬(1 ≤ e.unit ∧ e.unit ≤ 999) then 3
 else if e.kind = 0 ∧ ¬(0 ≤ e.unit ∧ e.unit ≤ 999) then 3
 else if ¬qlt e = e then 5 else if e.kind ≠ 0 ∧ e.kind ≠ 4 then 0 else if qcn e.change.file = false then 7
 else if e.kind = 4 then 0 else qjs e.change
def qle (u : Int) (e : Entry) : Bool := e.kind == 1 && e.unit == u
def pEnd (u : Int) (e : Entry) : Bool := (e.kind == 2 || e.kind == 3) && e.unit == u
def begins (l : List Entry) (u : Int) : Bool := l.any (qle u)
def qgd (l : List Entry) (u : Int) : Option Entry := l.find? (pEnd u)
def ends (l : List Entry) (u : Int) : Int := match qgd l u with | some e => e.kind | none => -1
def isOpen (l : List Entry) (u : Int) : Bool := begins l u && ends l u == -1
def qez (b : List Entry) (e : Entry) : Int :=
 if e.kind = 1 then (if isOpen b e.unit = true then 26 else if begins b e.unit = true then 13 else 0)
 else if e.kind = 2 ∨ e.kind = 3 then (if isOpen b e.unit = true then 0 else 26)
 else if e.kind = 0 then (if e.unit ≠ 0 ∧ isOpen b e.unit = false then 26 else 0) else 0
def qel (l : List Entry) : Nat → Nat → Int × Int
 | 0, _ => (0, 0)
 | n + 1, i =>
   if qde (l.getD i q0i) ≠ 0 then (i, qde (l.getD i q0i))
   else if 0 < i ∧ (l.getD i q0i).number ≠ IntKind.i64.wrap ((l.getD ((i : Int) - 1).toNat q0i).number + 1) then (i, 14)
   else if qez (l.take i) (l.getD i q0i) ≠ 0 then (i, qez (l.take i) (l.getD i q0i))
   else qel l n (i + 1)
def qbv (l : List Entry) : Int × Int := if 80 < l.length then (0, 2) else qel l l.length 0
theorem qig {l : List Entry} {i : Nat} (h : i < l.length) : qel l (l.length - i) i =
 if qde (l.getD i q0i) ≠ 0 then ((i : Int), qde (l.getD i q0i))
 else if 0 < i ∧ (l.getD i q0i).number ≠ IntKind.i64.wrap ((l.getD ((i : Int) - 1).toNat q0i).number + 1) then ((i : Int), 14)
 else if qez (l.take i) (l.getD i q0i) ≠ 0 then ((i : Int), qez (l.take i) (l.getD i q0i))
 else qel l (l.length - (i + 1)) (i + 1) := by
 obtain ⟨n, hn⟩ : ∃ n, l.length - i = n + 1 := ⟨l.length - i - 1, by omega⟩
 rw [hn, show l.length - (i + 1) = n by omega]
 rfl
theorem qnp {l : List Entry} {i : Nat} (h : l.length ≤ i) : qel l (l.length - i) i = (0, 0) := by
 rw [show l.length - i = 0 by omega]; rfl
theorem qjz (i : Nat) : ((i : Int) - 1).toNat = i - 1 := by omega
section
variable {l : List Entry} {c : Int × Int} {i : Nat}
theorem qp2 (h : qel l (l.length - i) i = c) (hi : i < l.length) (h1 : ¬qde (l.getD i q0i) = 0) : c.1 = i ∧ c.2 = qde (l.getD i q0i) := by
 rw [qig hi, if_pos h1] at h
 rw [← h]; exact ⟨rfl, rfl⟩
theorem qp3 (h : qel l (l.length - i) i = c) (hi : i < l.length) (h1 : qde (l.getD i q0i) = 0) (h0 : 0 < (i : Int)) (h2 : ¬(l.getD i q0i).number = IntKind.i64.wrap ((l.getD ((i : Int) - 1).toNat q0i).number + 1)) : c.1 = i ∧ c.2 = 14 := by
 rw [qig hi, if_neg (fun e => e h1), if_pos ⟨by omega, h2⟩] at h
 rw [← h]; exact ⟨rfl, rfl⟩
theorem qp4 (h : qel l (l.length - i) i = c) (hi : i < l.length) (h1 : qde (l.getD i q0i) = 0) (h2 : (i : Int) ≤ 0 ∨ (l.getD i q0i).number = IntKind.i64.wrap ((l.getD ((i : Int) - 1).toNat q0i).number + 1)) (h3 : ¬qez (l.take i) (l.getD i q0i) = 0) :
 c.1 = i ∧ c.2 = qez (l.take i) (l.getD i q0i) := by
 rw [qig hi, if_neg (fun e => e h1), if_neg (by omega), if_pos h3] at h
 rw [← h]; exact ⟨rfl, rfl⟩
theorem qxk (h : qel l (l.length - i) i = c) (hi : i < l.length) (h1 : qde (l.getD i q0i) = 0) (h2 : (i : Int) ≤ 0 ∨ (l.getD i q0i).number = IntKind.i64.wrap ((l.getD ((i : Int) - 1).toNat q0i).number + 1)) (h3 : qez (l.take i) (l.getD i q0i) = 0) :
 qel l (l.length - (i + 1)) (i + 1) = c := by
 rwa [qig hi, if_neg (fun e => e h1), if_neg (by omega), if_neg (fun e => e h3)] at h
end
section
variable {l : List Entry} {u : Int} {i : Nat}
theorem quq {α : Type} {l : List α} {i : Nat} (z : α) (h : i < l.length) : l.getD i z ∈ l := by
 simp only [List.getD, List.getElem?_eq_getElem h, Option.getD_some]
 exact List.getElem_mem h
theorem qqo (h : i < l.length) (h1 : (l.getD i q0i).kind = 1) (h2 : (l.getD i q0i).unit = u) : begins l u = true := by
 unfold begins
 rw [List.any_eq_true]
 exact ⟨_, quq q0i h, by simp only [qle, Bool.and_eq_true, beq_iff_eq]; exact ⟨h1, h2⟩⟩
theorem q4p (hb : begins (l.take i) u = false) (h : i < l.length) (hn : ¬((l.getD i q0i).kind = 1 ∧ (l.getD i q0i).unit = u)) : begins (l.take (i + 1)) u = false := by
 unfold begins at hb ⊢
 rw [qdx q0i h, List.any_append, hb]
 simp only [List.any_cons, List.any_nil, Bool.or_false, Bool.false_or, qle]
 rw [Bool.and_eq_false_iff]
 simp only [beq_eq_false_iff_ne, ne_eq]
 omega
theorem q64 (hb : begins (l.take i) u = false) (h : l.length ≤ i) : begins l u = false := by
 rwa [List.take_of_length_le h] at hb
theorem q002 (hb : qgd (l.take i) u = none) (h : i < l.length) (h1 : (l.getD i q0i).kind = 2 ∨ (l.getD i q0i).kind = 3) (h2 : (l.getD i q0i).unit = u) : ends l u = (l.getD i q0i).kind := by
 have : qgd l u = some (l.getD i q0i) := by
  unfold qgd at hb ⊢
  rw [← List.take_append_drop i l, List.find?_append, hb, Option.none_or, List.take_append_drop, qd2 q0i h, List.find?_cons]
  have : pEnd u (l.getD i q0i) = true := by
   simp only [pEnd, Bool.and_eq_true, Bool.or_eq_true, beq_iff_eq]
   exact ⟨h1, h2⟩
  rw [this]
 unfold ends
 rw [this]
theorem qbbe (hb : qgd (l.take i) u = none) (h : i < l.length) (hn : ¬(((l.getD i q0i).kind = 2 ∨ (l.getD i q0i).kind = 3) ∧ (l.getD i q0i).unit = u)) : qgd (l.take (i + 1)) u = none := by
 unfold qgd at hb ⊢
 rw [qdx q0i h, List.find?_append, hb, Option.none_or, List.find?_cons]
 have : pEnd u (l.getD i q0i) = false := by
  rw [← Bool.not_eq_true]
  simp only [pEnd, Bool.and_eq_true, Bool.or_eq_true, beq_iff_eq]
  exact hn
 rw [this]; rfl
theorem qbfg (hb : qgd (l.take i) u = none) (h : l.length ≤ i) : ends l u = -1 := by
 rw [List.take_of_length_le h] at hb
 unfold ends; rw [hb]
end
theorem qih {α : Type} {a b : List α} {i : Nat} {z : α} (h : a.take i = b.take i) (ha : i < a.length) (hb : i < b.length) (he : a.getD i z = b.getD i z) : a.take (i + 1) = b.take (i + 1) := by
 rw [qdx z ha, qdx z hb, h, he]
theorem qda {α : Type} {a b : List α} {i : Nat} (h : a.take i = b.take i) (ha : a.length ≤ i) (hb : b.length ≤ i) : a = b := by
 rwa [List.take_of_length_le ha, List.take_of_length_le hb] at h
def qeb (l first : List Entry) : Bool := decide (first.length ≤ l.length) && decide (l.take first.length = first)
def qia (ns nt : Nat) : List Packet → Int
 | [] => 0
 | p :: r => if ¬(0 ≤ p.kind ∧ p.kind ≤ 1) then 4 else if p.kind = 0 ∧ ¬(1 ≤ p.number ∧ p.number ≤ (ns : Int)) ∨ p.kind = 1 ∧ ¬(0 ≤ p.number ∧ p.number ≤ (nt : Int)) then 3 else qia ns nt r
def qbq (x : Remote) : Int :=
 if (qbv x.source).2 ≠ 0 then (qbv x.source).2
 else if 40 < x.source.length then 2
 else if 0 < x.source.length ∧ (x.source.getD 0 q0i).number ≠ 1 then 14
 else if qeb x.source x.target = false then 41
 else if ¬(0 ≤ x.sent ∧ x.sent ≤ (x.source.length : Int)) ∨ ¬(0 ≤ x.acked ∧ x.acked ≤ (x.target.length : Int) ∧ x.acked ≤ x.sent) then 3
 else if 12 < x.wire.length then 2
 else qia x.source.length x.target.length x.wire
def qqp (x : Remote) : Bool := qtf x.source && qtf x.target && decide (x.wire.length ≤ 14)
def qv1 (x : Remote) : Bool := x.sync && decide (x.acked ≠ x.source.length) && (decide ((x.source.getD (x.source.length - 1) q0i).kind = 2) || decide ((x.source.getD (x.source.length - 1) q0i).kind = 0) && decide ((x.source.getD (x.source.length - 1) q0i).unit = 0))
def qh9 (x : Remote) (e : Entry) : Remote × Int :=
 if e.number ≠ 0 then (qf7, 5) else if qv1 x = true then (qf7, 26) else if 40 ≤ x.source.length then (qf7, 30)
 else if (qbv (x.source ++ [{ e with number := x.source.length + 1 }])).2 ≠ 0 then (qf7, (qbv (x.source ++ [{ e with number := x.source.length + 1 }])).2)
 else ({ x with source := x.source ++ [{ e with number := x.source.length + 1 }] }, 0)
def qlu (x : Remote) (p : Packet) : Remote :=
 if p.kind = 1 then { x with acked := if x.acked < p.number then p.number else x.acked, sent := if x.sent < (if x.acked < p.number then p.number else x.acked) then (if x.acked < p.number then p.number else x.acked) else x.sent }
 else
  let t := if p.number = x.target.length + 1 then x.target ++ [x.source.getD (p.number - 1).toNat q0i] else x.target
  { x with target := t, wire := if x.wire.length < 12 then x.wire ++ [⟨1, t.length⟩] else x.wire }
structure goodR (x : Remote) : Prop where
 s : x.source.length ≤ 40
 t : x.target.length ≤ x.source.length
 w : x.wire.length ≤ 12
 s0 : 0 ≤ x.sent
 s1 : x.sent ≤ x.source.length
 a0 : 0 ≤ x.acked
 a1 : x.acked ≤ x.target.length
 p : ∀ j, j < x.wire.length → (x.wire.getD j qe0).kind ≠ 1 → 1 ≤ (x.wire.getD j qe0).number ∧ (x.wire.getD j qe0).number ≤ x.source.length
 q : ∀ j, j < x.wire.length → (x.wire.getD j qe0).kind = 1 → (x.wire.getD j qe0).number ≤ x.target.length
def actR (x : Remote) (a : RAct) : Remote × Int :=
 if a.kind < 0 ∨ 6 ≤ a.kind then (qf7, 4)
 else if (¬(a.kind = 2 ∨ a.kind = 3 ∨ a.kind = 4) ∧ a.n ≠ 0) ∨ (a.kind ≠ 0 ∧ a.entry ≠ q0i) then (qf7, 5)
 else if (a.kind = 2 ∨ a.kind = 3 ∨ a.kind = 4) ∧ (a.n < 0 ∨ (x.wire.length : Int) ≤ a.n) then (qf7, 3)
 else if a.kind = 0 then qh9 x a.entry
 else if a.kind = 1 then (if x.sent = x.source.length then (qf7, 40) else if (12 : Int) ≤ x.wire.length then (qf7, 30) else ({ x with sent := x.sent + 1, wire := x.wire ++ [⟨0, x.sent + 1⟩] }, 0))
 else if a.kind = 2 then (qlu { x with wire := x.wire.eraseIdx a.n.toNat } (x.wire.getD a.n.toNat qe0), 0)
 else if a.kind = 3 then ({ x with wire := x.wire.eraseIdx a.n.toNat }, 0)
 else if a.kind = 4 then (if (12 : Int) ≤ x.wire.length then (qf7, 30) else ({ x with wire := x.wire ++ [x.wire.getD a.n.toNat qe0] }, 0))
 else (if x.acked = x.sent then (qf7, 40) else ({ x with sent := x.acked }, 0))
def qth (x : Remote) (i : Nat) : List RAct → Remote × Int × Int
 | [] => (x, i, 0)
 | a :: r => if (actR x a).2 ≠ 0 then (qf7, i, (actR x a).2) else qth (actR x a).1 (i + 1) r
def runR (x : Remote) (l : List RAct) : Remote × Int × Int :=
 if qbq x ≠ 0 then (qf7, 0, qbq x) else if 80 < l.length then (qf7, 0, 2) else qth x 0 l
theorem qoj {ns nt : Nat} : ∀ {l : List Packet}, qia ns nt l = 0 → ∀ p ∈ l, (p.kind = 0 ∨ p.kind = 1) ∧ (p.kind = 0 → 1 ≤ p.number ∧ p.number ≤ (ns : Int)) ∧ (p.kind = 1 → 0 ≤ p.number ∧ p.number ≤ (nt : Int))
 | [], _, p, hp => by cases hp
 | q :: l, h, p, hp => by
   unfold qia at h
   split at h
   ·cases h
   ·split at h
    ·cases h
    ·rcases List.mem_cons.1 hp with rfl | hp
     ·omega
     ·exact qoj h p hp
theorem qjh {x : Remote} (h : qbq x = 0) : goodR x := by
 unfold qbq at h
 split at h
 ·exact absurd h ‹_›
 ·split at h
  ·cases h
  ·split at h
   ·cases h
   ·split at h
    ·cases h
    ·split at h
     ·cases h
     ·split at h
      ·cases h
      ·rename_i h1 h2 h3 h4 h5 h6
       simp only [Bool.not_eq_false, qeb, Bool.and_eq_true, decide_eq_true_eq] at h4
       refine ⟨by omega, h4.1, by omega, by omega, by omega, by omega, by omega, fun j hj hk => ?_, fun j hj hk => ?_⟩
       ·have := qoj h _ (quq qe0 hj)
        omega
       ·have := qoj h _ (quq qe0 hj)
        omega
end Go.Ev
namespace Go.Ev
theorem qf4 {α : Type} {l : List α} {y z : α} {j : Nat} : (l ++ [y]).getD j z = if j < l.length then l.getD j z else if j = l.length then y else z := by
 simp only [List.getD, List.getElem?_append]
 by_cases h : j < l.length
 ·simp [h]
 ·simp only [h, if_false]
  by_cases e : j = l.length
  ·subst e; simp
  ·have : j - l.length ≠ 0 := by omega
   simp [e, List.getElem?_cons, this]
theorem qln {α : Type} {l : List α} {z : α} {n j : Nat} : (l.eraseIdx n).getD j z = if j < n then l.getD j z else l.getD (j + 1) z := by
 simp only [List.getD, List.getElem?_eraseIdx]
 split <;> rfl
theorem q003 {x : Remote} {n : Nat} (h : goodR x) (hn : n < x.wire.length) : goodR (qlu { x with wire := x.wire.eraseIdx n } (x.wire.getD n qe0)) := by
 obtain ⟨g1, g2, g3, g4, g5, g6, g7, g8, g9⟩ := h
 have hp := g8 n hn
 have hq := g9 n hn
 have hl : (x.wire.eraseIdx n).length = x.wire.length - 1 := by rw [List.length_eraseIdx]; split <;> omega
 have gw : ∀ j, j < (x.wire.eraseIdx n).length → ((x.wire.eraseIdx n).getD j qe0).kind ≠ 1 → 1 ≤ ((x.wire.eraseIdx n).getD j qe0).number ∧ ((x.wire.eraseIdx n).getD j qe0).number ≤ x.source.length := fun j hj hk => by
  rw [qln] at hk ⊢
  split at hk
  ·rw [if_pos ‹_›]; exact g8 j (by omega) hk
  ·rw [if_neg ‹_›]; exact g8 (j + 1) (by omega) hk
 have gq : ∀ j, j < (x.wire.eraseIdx n).length → ((x.wire.eraseIdx n).getD j qe0).kind = 1 → ((x.wire.eraseIdx n).getD j qe0).number ≤ x.target.length := fun j hj hk => by
  rw [qln] at hk ⊢
  split at hk
  ·rw [if_pos ‹_›]; exact g9 j (by omega) hk
  ·rw [if_neg ‹_›]; exact g9 (j + 1) (by omega) hk
 unfold qlu
 split
 ·rename_i hk
  have hq := hq hk
  refine ⟨g1, g2, ?_, ?_, ?_, ?_, ?_, gw, gq⟩
  ·simp only; omega
  ·simp only; split <;> omega
  ·simp only; split <;> split <;> omega
  ·simp only; split <;> omega
  ·simp only; split <;> omega
 ·rename_i hk
  have hp := hp hk
  simp only
  refine ⟨g1, ?_, ?_, g4, g5, g6, ?_, ?_, ?_⟩
  ·simp only; split <;> (try simp) <;> omega
  ·simp only; split <;> (try simp) <;> omega
  ·simp only; split <;> (try simp) <;> omega
  ·simp only
   split
   ·intro j hj hk
    rw [qf4] at hk ⊢
    split at hk
    ·rw [if_pos ‹_›]; exact gw j ‹_› hk
    ·rename_i hj2
     rw [if_neg hj2]
     split at hk
     ·exact absurd rfl hk
     ·simp at hj; omega
   ·exact gw
  ·have ht : (x.target.length : Int) ≤ (if (x.wire.getD n qe0).number = x.target.length + 1 then x.target ++ [x.source.getD ((x.wire.getD n qe0).number - 1).toNat q0i] else x.target).length := by
    split <;> simp
    omega
   simp only
   split
   ·intro j hj hk
    rw [qf4] at hk ⊢
    split at hk
    ·rw [if_pos ‹_›]; exact Int.le_trans (gq j ‹_› hk) ht
    ·rename_i hj2
     rw [if_neg hj2]
     split at hk
     ·rw [if_pos ‹_›]; exact Int.le_refl _
     ·simp at hj; omega
   ·intro j hj hk; exact Int.le_trans (gq j hj hk) ht
theorem qzz {x : Remote} {e : Entry} (h : goodR x) (h0 : (qh9 x e).2 = 0) : goodR (qh9 x e).1 := by
 obtain ⟨g1, g2, g3, g4, g5, g6, g7, g8, g9⟩ := h
 unfold qh9 at h0 ⊢
 split at h0
 ·cases h0
 split at h0
 ·cases h0
 split at h0
 ·cases h0
 split at h0
 ·exact absurd h0 ‹_›
 rw [if_neg ‹_›, if_neg ‹_›, if_neg ‹_›, if_neg ‹_›]
 refine ⟨?_, ?_, g3, g4, ?_, g6, g7, fun j hj hk => ?_, g9⟩
 ·simp only [List.length_append, List.length_cons, List.length_nil]; omega
 ·simp only [List.length_append, List.length_cons, List.length_nil]; omega
 ·simp only [List.length_append, List.length_cons, List.length_nil]; omega
 ·have := g8 j hj hk
  simp only [List.length_append, List.length_cons, List.length_nil]
  omega
theorem qbfh {x : Remote} {a : RAct} (h : goodR x) (h0 : (actR x a).2 = 0) : goodR (actR x a).1 := by
 have hg := h
 obtain ⟨g1, g2, g3, g4, g5, g6, g7, g8, g9⟩ := h
 unfold actR at h0 ⊢
 split at h0
 ·cases h0
 split at h0
 ·cases h0
 split at h0
 ·cases h0
 rename_i k1 k2 k3
 rw [if_neg k1, if_neg k2, if_neg k3]
 split at h0
 ·rw [if_pos ‹_›]; exact qzz hg h0
 rw [if_neg ‹_›]
 split at h0
 ·rw [if_pos ‹_›]
  split at h0
  ·cases h0
  split at h0
  ·cases h0
  rw [if_neg ‹_›, if_neg ‹_›]
  refine ⟨g1, g2, ?_, ?_, ?_, g6, g7, fun j hj hk => ?_, fun j hj hk => ?_⟩
  ·simp only [List.length_append, List.length_cons, List.length_nil]; omega
  ·simp only; omega
  ·simp only; omega
  ·simp only at hk ⊢
   rw [qf4] at hk ⊢
   split at hk
   ·rw [if_pos ‹_›]; exact g8 j ‹_› hk
   ·rename_i hj2
    rw [if_neg hj2]
    split at hk
    ·rw [if_pos ‹_›]; simp only; omega
    ·simp at hj; omega
  ·simp only at hk ⊢
   rw [qf4] at hk ⊢
   split at hk
   ·rw [if_pos ‹_›]; exact g9 j ‹_› hk
   ·rename_i hj2
    rw [if_neg hj2]
    split at hk
    ·cases hk
    ·simp at hj; omega
 rw [if_neg ‹_›]
 have hl : a.n.toNat < x.wire.length → (x.wire.eraseIdx a.n.toNat).length = x.wire.length - 1 := fun hh => by rw [List.length_eraseIdx]; split <;> omega
 split at h0
 ·rw [if_pos ‹_›]; exact q003 hg (by omega)
 rw [if_neg ‹_›]
 split at h0
 ·rw [if_pos ‹_›]
  have hn : a.n.toNat < x.wire.length := by omega
  have hl := hl hn
  refine ⟨g1, g2, by simp only; omega, g4, g5, g6, g7, fun j hj hk => ?_, fun j hj hk => ?_⟩
  ·simp only at hk ⊢ hj
   rw [qln] at hk ⊢
   split at hk
   ·rw [if_pos ‹_›]; exact g8 j (by omega) hk
   ·rw [if_neg ‹_›]; exact g8 (j + 1) (by omega) hk
  ·simp only at hk ⊢ hj
   rw [qln] at hk ⊢
   split at hk
   ·rw [if_pos ‹_›]; exact g9 j (by omega) hk
   ·rw [if_neg ‹_›]; exact g9 (j + 1) (by omega) hk
 rw [if_neg ‹_›]
 split at h0
 ·rw [if_pos ‹_›]
  split at h0
  ·cases h0
  rw [if_neg ‹_›]
  have hn : a.n.toNat < x.wire.length := by omega
  refine ⟨g1, g2, ?_, g4, g5, g6, g7, fun j hj hk => ?_, fun j hj hk => ?_⟩
  ·simp only [List.length_append, List.length_cons, List.length_nil]; omega
  ·simp only at hk ⊢
   rw [qf4] at hk ⊢
   split at hk
   ·rw [if_pos ‹_›]; exact g8 j ‹_› hk
   ·rename_i hj2
    rw [if_neg hj2]
    split at hk
    ·rw [if_pos ‹_›]; exact g8 _ hn hk
    ·simp at hj; omega
  ·simp only at hk ⊢
   rw [qf4] at hk ⊢
   split at hk
   ·rw [if_pos ‹_›]; exact g9 j ‹_› hk
   ·rename_i hj2
    rw [if_neg hj2]
    split at hk
    ·rw [if_pos ‹_›]; exact g9 _ hn hk
    ·simp at hj; omega
 rw [if_neg ‹_›]
 split at h0
 ·cases h0
 rw [if_neg ‹_›]
 exact ⟨g1, g2, g3, g6, by simp only; omega, g6, g7, g8, g9⟩
def pktOk (ns nt : Nat) (p : Packet) : Prop := (p.kind = 0 ∨ p.kind = 1) ∧ (p.kind = 0 → 1 ≤ p.number ∧ p.number ≤ (ns : Int)) ∧ (p.kind = 1 → 0 ≤ p.number ∧ p.number ≤ (nt : Int))
theorem qpo {ns nt : Nat} : ∀ {l : List Packet}, qia ns nt l = 0 ↔ ∀ p ∈ l, pktOk ns nt p
 | [] => by simp [qia]
 | p :: l => by
   rw [List.forall_mem_cons, ← qpo (l := l), qia]
   unfold pktOk
   constructor
   ·intro h
    split at h
    ·cases h
    ·split at h
     ·cases h
     ·exact ⟨by omega, h⟩
   ·rintro ⟨h1, h2⟩
    rw [if_neg (by omega), if_neg (by omega)]; exact h2
structure rightR (x : Remote) : Prop where
 c : (qbv x.source).2 = 0
 n : x.source.length ≤ 40
 f : 0 < x.source.length → (x.source.getD 0 q0i).number = 1
 t : x.target.length ≤ x.source.length
 b : x.source.take x.target.length = x.target
 s0 : 0 ≤ x.sent
 s1 : x.sent ≤ (x.source.length : Int)
 a0 : 0 ≤ x.acked
 a1 : x.acked ≤ (x.target.length : Int)
 a2 : x.acked ≤ x.sent
 w : x.wire.length ≤ 12
 p : ∀ p ∈ x.wire, pktOk x.source.length x.target.length p
theorem qhx {x : Remote} : qbq x = 0 ↔ rightR x := by
 constructor
 ·intro h
  unfold qbq at h
  split at h
  ·exact absurd h ‹_›
  split at h
  ·cases h
  split at h
  ·cases h
  split at h
  ·cases h
  split at h
  ·cases h
  split at h
  ·cases h
  rename_i h1 h2 h3 h4 h5 h6
  simp only [Bool.not_eq_false, qeb, Bool.and_eq_true, decide_eq_true_eq] at h4
  exact ⟨by omega, by omega, fun hl => by omega, h4.1, h4.2, by omega, by omega, by omega, by omega, by omega, by omega, qpo.1 h⟩
 ·rintro ⟨h1, h2, h3, h4, h5, h6, h7, h8, h9, h10, h11, h12⟩
  unfold qbq
  rw [if_neg (by omega), if_neg (by omega), if_neg (fun h => h.2 (h3 h.1)), if_neg (by simp [qeb, h4, h5]), if_neg (by omega), if_neg (by omega)]
  exact qpo.2 h12
theorem rightR.err {x : Remote} (h : rightR x) : qbq x = 0 := qhx.2 h
theorem pktOk.mono {ns nt ns' nt' : Nat} {p : Packet} (h : pktOk ns nt p) (h1 : ns ≤ ns') (h2 : nt ≤ nt') : pktOk ns' nt' p := by
 unfold pktOk at h ⊢
 omega
theorem qys : ∀ {l : List Entry} {i : Nat}, qql i l = true → i ≤ 82 → l.length + i ≤ 82
 | [], i, _, h => by simpa using h
 | e :: l, i, h, hi => by
   simp only [qql, Bool.and_eq_true, decide_eq_true_eq] at h
   have := qys h.2 (by omega)
   simp only [List.length_cons]; omega
theorem qng {l : List Entry} (h : qtf l = true) : l.length ≤ 82 := qys h (by omega)
theorem qqq {x : Remote} (h : qqp x = true) : x.source.length ≤ 1000000 ∧ x.target.length ≤ 1000000 ∧ x.wire.length ≤ 1000000 := by
 simp only [qqp, Bool.and_eq_true, decide_eq_true_eq] at h
 have h1 := qng h.1.1
 have h2 := qng h.1.2
 omega
theorem nc0 : ((0 : Nat) : Int) = 0 := rfl
theorem nc1 : ((1 : Nat) : Int) = 1 := rfl
theorem nc2 : ((2 : Nat) : Int) = 2 := rfl
theorem qbza : runR qf7 [⟨0, 0, ⟨0, 5, 0, q08⟩⟩, ⟨0, 0, ⟨0, 5, 0, q08⟩⟩, ⟨1, 0, q0i⟩, ⟨1, 0, q0i⟩, ⟨3, 0, q0i⟩, ⟨2, 0, q0i⟩, ⟨5, 0, q0i⟩] =
 (⟨false, [⟨1, 5, 0, q08⟩, ⟨2, 5, 0, q08⟩], [], 0, 0, [⟨1, 0⟩]⟩, 7, 0) := by decide +kernel
end Go.Ev
namespace Go.Ev
noncomputable section
theorem qbm8 (B : Nat) : ∃ p : (Nat → Nat) × (Nat → Option Nat), (∀ k, B ≤ p.1 k) ∧ (∀ k, p.2 (p.1 k) = some k) ∧ ∀ i k, p.2 i = some k → i = p.1 k := by
 refine ⟨(fun k => k + B, fun i => if B ≤ i then some (i - B) else none), fun k => Nat.le_add_left _ _, fun k => ?_, fun i k h => ?_⟩
 ·show (if _ then _ else _) = _
  rw [if_pos (Nat.le_add_left _ _), Nat.add_sub_cancel]
 ·have h : (if B ≤ i then some (i - B) else none) = some k := h
  show i = k + B
  split at h
  ·cases h; omega
  ·cases h
theorem qsc : ∃ p : (Nat → Nat) × (Nat → Option Nat), (∀ k, 1000000 ≤ p.1 k) ∧ (∀ k, p.2 (p.1 k) = some k) ∧ ∀ i k, p.2 i = some k → i = p.1 k := qbm8 1000000
def fnm : Nat → Nat := (Classical.choose qsc).1
def finv : Nat → Option Nat := (Classical.choose qsc).2
theorem q004 (k : Nat) : 1000000 ≤ fnm k := (Classical.choose_spec qsc).1 k
theorem qqr (k : Nat) : finv (fnm k) = some k := (Classical.choose_spec qsc).2.1 k
theorem q005 {i k : Nat} (h : finv i = some k) : i = fnm k := (Classical.choose_spec qsc).2.2 i k h
theorem qfl {j k : Nat} : (fnm j = fnm k) = (j = k) := by
 refine propext ⟨fun h => ?_, fun h => by rw [h]⟩
 have := qqr j
 rw [h, qqr] at this
 exact (Option.some.inj this).symm
theorem qf8 {i k : Nat} (h : i < 1000000) : (i = fnm k) = False := by
 refine propext ⟨fun e => ?_, False.elim⟩
 have := q004 k
 omega
theorem qe4 {i k : Nat} (h : i < 1000000) : (fnm k = i) = False := by
 refine propext ⟨fun e => ?_, False.elim⟩
 have := q004 k
 omega
def famF (t : TypeId) : Nat → List (List D) → List (Nat × HS)
 | _, [] => []
 | k, c :: r => (fnm k, .live (.box t (c.map .d))) :: famF t (k + 1) r
def fam (t : TypeId) (cs : List (List D)) : List (Nat × HS) := famF t 0 cs
def ptrs (n : Nat) : List V := (List.range n).map fun k => .ptr (fnm k) 0
theorem qyt {t : TypeId} : ∀ {cs : List (List D)} {j k : Nat}, aget (famF t j cs) (fnm k) = if j ≤ k then (cs[k - j]?).map fun c => HS.live (.box t (c.map .d)) else none
 | [], j, k => by simp [famF, aget]
 | c :: r, j, k => by
   simp only [famF, aget, qfl]
   by_cases e : k = j
   ·subst e; simp
   ·rw [if_neg e, qyt]
    by_cases h : j ≤ k
    ·rw [if_pos h, if_pos (by omega), show k - j = (k - (j + 1)) + 1 by omega, List.getElem?_cons_succ]
    ·rw [if_neg h, if_neg (by omega)]
theorem qok {t : TypeId} {i : Nat} (h : ∀ k, i ≠ fnm k) : ∀ {cs : List (List D)} {j : Nat}, aget (famF t j cs) i = none
 | [], j => rfl
 | c :: r, j => by
   simp only [famF, aget]
   rw [if_neg (h j), qok h]
theorem q006 {t : TypeId} {i : Nat} (h : i < 1000000) {cs : List (List D)} {j : Nat} : aget (famF t j cs) i = none :=
 qok fun k e => by have := q004 k; omega
theorem qlv {t : TypeId} {cs : List (List D)} {k : Nat} : aget (fam t cs) (fnm k) = (cs[k]?).map fun c => HS.live (.box t (c.map .d)) := by
 unfold fam; rw [qyt]; simp
theorem q4q {t : TypeId} {cs : List (List D)} {i : Nat} (h : i < 1000000) : aget (fam t cs) i = none := q006 h
theorem qbfi {n k : Nat} (h : k < n) : (ptrs n).getD k (.d .np) = .ptr (fnm k) 0 := by
 simp [ptrs, List.getD, h]
theorem qbjf {ρ : Nat → Option Nat} {nf : Nat → Prop} : ∀ (l : List D), vss ρ nf (l.map .d) (l.map .d)
 | [] => trivial
 | d :: l => by
   simp only [List.map_cons, vss, vs]
   exact ⟨q09 d, qbjf l⟩
theorem q5o {ρ : Nat → Option Nat} {nf : Nat → Prop} {f g : Nat → Nat} : ∀ (l : List Nat), (∀ k ∈ l, ρ (g k) = some (f k) ∧ nf (g k)) → vss ρ nf (l.map fun k => .ptr (f k) 0) (l.map fun k => .ptr (g k) 0)
 | [], _ => trivial
 | k :: l, h => by
   simp only [List.map_cons, vss, vs]
   exact ⟨⟨_, rfl, h k (by simp)⟩, q5o l fun j hj => h j (by simp [hj])⟩
theorem qxl {C : Cfg} {M T t : Nat} (hM : M < 1000000) (hp0 : C.pins = []) {sl sl' : List (Nat × V)} {hp : List (Nat × HS)} {ks : List D} {cs : List (List D)} (r : Nat → Nat)
 (hmap : aget hp M = some (.live (.mp T ks ((List.range cs.length).map fun k => .ptr (r k) 0))))
 (hbox : ∀ k c, cs[k]? = some c → aget hp (r k) = some (.live (.box t (c.map .d))))
 (hr : ∀ k k', k < cs.length → k' < cs.length → r k = r k' → k = k') (hrM : ∀ k, k < cs.length → r k ≠ M)
 (hs : ∀ (ρ : Nat → Option Nat) (nf : Nat → Prop), ρ M = some M → nf M → qki ρ nf sl sl') :
 Sub C (mkS sl hp) (mkS sl' ((M, .live (.mp T ks (ptrs cs.length))) :: fam t cs)) := by
 let ρ : Nat → Option Nat := fun i => if i = M then some M else match finv i with | some k => if k < cs.length then some (r k) else none | none => none
 have e1 : ρ M = some M := if_pos rfl
 have e2 : ∀ k, k < cs.length → ρ (fnm k) = some (r k) := fun k hk => by
  show (if _ then _ else match finv (fnm k) with | some k => if k < cs.length then some (r k) else none | none => none) = _
  rw [if_neg (by rw [qe4 hM]; exact id), qqr]
  exact if_pos hk
 have hp1 : ∀ k, k < cs.length → ∃ c, cs[k]? = some c ∧ (mkS sl' ((M, .live (.mp T ks (ptrs cs.length))) :: fam t cs)).hp (fnm k) = .live (.box t (c.map .d)) := fun k hk => by
  refine ⟨cs[k], by simp [hk], ?_⟩
  show (aget _ _).getD HS.free = _
  simp only [aget, qe4 hM, if_false]
  rw [qlv]; simp [hk]
 have hpM : (mkS sl' ((M, .live (.mp T ks (ptrs cs.length))) :: fam t cs)).hp M = .live (.mp T ks (ptrs cs.length)) := by
  show (aget _ _).getD HS.free = _
  simp [aget]
 have nfM : Nf (mkS sl' ((M, .live (.mp T ks (ptrs cs.length))) :: fam t cs)).hp M := by unfold Nf; rw [hpM]; rfl
 have nfk : ∀ k, k < cs.length → Nf (mkS sl' ((M, .live (.mp T ks (ptrs cs.length))) :: fam t cs)).hp (fnm k) := fun k hk => by
  obtain ⟨c, _, h⟩ := hp1 k hk
  unfold Nf; rw [h]; rfl
 refine SubBy.sub (ρ := ρ) ⟨fun i y hy => ?_, fun i o' ho' => ?_, fun i j a hi hj => ?_⟩ (by rw [hp0]; intro p hp; cases hp)
 ·exact qr9 (hs ρ _ e1 nfM) (qjy hy)
 ·by_cases e : i = M
  ·subst e
   rw [hpM] at ho' ⊢
   cases ho'
   refine .inl ⟨i, _, e1, by show ((aget hp i).getD HS.free).obj? = _; rw [hmap]; rfl, ?_, fun _ => by show ((aget hp i).getD HS.free).isLive = true; rw [hmap]; rfl⟩
   simp only [os]
   exact ⟨trivial, q0k _, q5o _ fun k hk => ⟨e2 k (by simpa using hk), nfk k (by simpa using hk)⟩⟩
  ·have hno : (∀ k, k < cs.length → i ≠ fnm k) → False := fun h => by
    have hf : (mkS sl' ((M, .live (.mp T ks (ptrs cs.length))) :: fam t cs)).hp i = .free := by
     show (aget _ _).getD HS.free = _
     simp only [aget]
     rw [if_neg e]
     cases hv : finv i with
     | none => rw [show aget (fam t cs) i = none from qok fun k e => by rw [e, qqr] at hv; cases hv]; rfl
     | some k =>
       have := q005 hv
       subst this
       rw [qlv, List.getElem?_eq_none (Nat.le_of_not_lt fun hl => h k hl rfl)]; rfl
    rw [hf] at ho'; cases ho'
   by_cases h : ∃ k, k < cs.length ∧ i = fnm k
   ·obtain ⟨k, hk, rfl⟩ := h
    obtain ⟨c, hc, hh⟩ := hp1 k hk
    rw [hh] at ho' ⊢
    cases ho'
    have hb := hbox k c hc
    refine .inl ⟨r k, _, e2 k hk, by show ((aget hp (r k)).getD HS.free).obj? = _; rw [hb]; rfl, ?_, fun _ => by show ((aget hp (r k)).getD HS.free).isLive = true; rw [hb]; rfl⟩
    simp only [os]
    exact ⟨trivial, qbjf c⟩
   ·exact (hno fun k hk e => h ⟨k, hk, e⟩).elim
 ·have inv : ∀ i, ρ i = some a → (i = M ∧ a = M) ∨ ∃ k, k < cs.length ∧ i = fnm k ∧ a = r k := fun i hi => by
   have hi : (if i = M then some M else match finv i with | some k => if k < cs.length then some (r k) else none | none => none) = some a := hi
   split at hi
   ·cases hi; exact .inl ⟨‹_›, rfl⟩
   ·split at hi
    ·rename_i k hk
     split at hi
     ·cases hi; exact .inr ⟨k, ‹_›, q005 hk, rfl⟩
     ·cases hi
    ·cases hi
  rcases inv i hi with ⟨h1, h2⟩ | ⟨k, h1, h2, h3⟩ <;> rcases inv j hj with ⟨g1, g2⟩ | ⟨k', g1, g2, g3⟩
  ·omega
  ·exact absurd (g3.symm.trans h2) (hrM k' g1)
  ·exact absurd (h3.symm.trans g2) (hrM k h1)
  ·have := hr k k' h1 g1 (h3.symm.trans g3); rw [h2, g2, this]
theorem qbfj {s : St} {t : TypeId} {cs : List (List D)} (hs : ∀ k c, cs[k]? = some c → s.hp (fnm k) = .live (.box t (c.map .d))) :
 toDs (toD2 s) (ptrs cs.length) = some (cs.map .cp, (List.range cs.length).map fnm) := by
 have one : ∀ (c : List D), toDs (toD1 s) (c.map .d) = some (c, []) := fun c => by
  induction c with
  | nil => rfl
  | cons d c ih => simp [toDs, toD1, ih]
 have key : ∀ n j, (∀ k, j ≤ k → k < j + n → k < cs.length) → toDs (toD2 s) ((List.range' j n).map fun k => .ptr (fnm k) 0) = some (((cs.drop j).take n).map .cp, (List.range' j n).map fnm) := fun n => by
  induction n with
  | zero => intro j _; simp [toDs]
  | succ n ih =>
    intro j h
    have hj := h j (by omega) (by omega)
    have hc : cs[j]? = some cs[j] := by simp [hj]
    have h2 : toD2 s (.ptr (fnm j) 0) = some (.cp cs[j], [fnm j]) := by
     simp only [toD2, qib, hs j _ hc]
     rw [one]; rfl
    rw [List.range'_succ, List.map_cons, toDs, h2, ih (j + 1) fun k h1 h2 => h k (by omega) (by omega)]
    rw [List.drop_eq_getElem_cons hj]
    rfl
 have := key cs.length 0 fun k _ h => by omega
 rw [ptrs, List.range_eq_range', this]
 simp
end
end Go.Ev
namespace Go.Ev
def qed (u : AUnit) : List D := [.i .i64 u.unit, .i .i64 u.first, .i .i64 u.last, .i .i64 u.state]
def keyU (u : AUnit) : D := .i .i64 u.unit
def uidx (us : List AUnit) (n : Int) : Option Nat := us.findIdx? (·.unit == n)
def uEnd (e : Entry) (u : AUnit) : AUnit := { u with last := e.number, state := if e.kind = 2 then 0 else if e.kind = 3 then 1 else u.state }
def qjc (us : List AUnit) (e : Entry) : List AUnit :=
 if e.kind = 1 then us ++ [⟨e.unit, e.number, e.number, 2⟩]
 else if e.kind = 2 ∨ e.kind = 3 ∨ (e.kind = 0 ∧ e.unit ≠ 0) then match uidx us e.unit with
  | some k => us.modify k (uEnd e)
  | none => us
 else us
def qb6 (l : List Entry) : List AUnit := l.foldl qjc []
theorem qmg (l : List Entry) (e : Entry) : qb6 (l ++ [e]) = qjc (qb6 l) e := by simp [qb6]
theorem qfa {l : List Entry} {i : Nat} (h : i < l.length) : qb6 (l.take (i + 1)) = qjc (qb6 (l.take i)) (l.getD i q0i) := by
 rw [qdx q0i h, qmg]
theorem q007 (us : List AUnit) (n : Int) : qfg (us.map keyU) (.i .i64 n) = uidx us n := by
 unfold uidx
 induction us with
 | nil => rfl
 | cons u us ih =>
   simp only [List.map_cons, qfg, keyU, kEq, List.findIdx?_cons]
   by_cases e : (u.unit == n) = true
   ·simp [e]
   ·simp only [e]
    rw [if_neg (by simp), ih]
    simp
def UInv (us : List AUnit) (b : List Entry) : Prop := ∀ n, begins b n = (uidx us n).isSome ∧ (begins b n = false → qgd b n = none) ∧ ∀ k u, uidx us n = some k → us[k]? = some u → (u.state = 2 ↔ qgd b n = none)
theorem qix {us : List AUnit} {n : Int} {k : Nat} (h : uidx us n = some k) : ∃ u, us[k]? = some u ∧ u.unit = n ∧ k < us.length := by
 unfold uidx at h
 rw [List.findIdx?_eq_some_iff_getElem] at h
 obtain ⟨h1, h2, _⟩ := h
 exact ⟨us[k], by simp [h1], by simpa using h2, h1⟩
theorem qqs {b : List Entry} {n : Int} : ends b n = -1 ↔ qgd b n = none := by
 unfold ends
 cases h : qgd b n with
 | none => simp
 | some e =>
   have := List.find?_some h
   simp only [pEnd, Bool.and_eq_true, Bool.or_eq_true, beq_iff_eq] at this
   simp only [reduceCtorEq, iff_false]
   omega
theorem qj0 {b : List Entry} {n : Int} : isOpen b n = true ↔ begins b n = true ∧ qgd b n = none := by
 unfold isOpen
 rw [Bool.and_eq_true, beq_iff_eq, qqs]
theorem UInv.nil : UInv [] [] := fun n => ⟨rfl, fun _ => rfl, fun k u h => by cases h⟩
theorem UInv.isOpen {us : List AUnit} {b : List Entry} (h : UInv us b) (n : Int) : isOpen b n = match uidx us n with | some k => decide ((us.getD k ⟨0, 0, 0, 0⟩).state = 2) | none => false := by
 obtain ⟨h1, h2, h3⟩ := h n
 rw [Bool.eq_iff_iff, qj0, h1]
 cases hu : uidx us n with
 | none => simp
 | some k =>
   obtain ⟨u, hk, _, hl⟩ := qix hu
   simp [← h3 k u hu hk, List.getD, hk]
theorem UInv.begins {us : List AUnit} {b : List Entry} (h : UInv us b) (n : Int) : begins b n = (uidx us n).isSome := (h n).1
theorem qt7 (b : List Entry) (e : Entry) (n : Int) : begins (b ++ [e]) n = (begins b n || qle n e) := by simp [Go.Ev.begins]
theorem qyu (b : List Entry) (e : Entry) (n : Int) : qgd (b ++ [e]) n = none ↔ qgd b n = none ∧ pEnd n e = false := by
 simp [qgd, List.find?_append, List.find?_cons]
 cases pEnd n e <;> simp
theorem q4r (us : List AUnit) (k : Nat) (e : Entry) (n : Int) : uidx (us.modify k (uEnd e)) n = uidx us n := by
 unfold uidx
 induction us generalizing k with
 | nil => simp
 | cons u us ih =>
   cases k with
   | zero => simp [List.findIdx?_cons, uEnd]
   | succ k => simp only [List.modify_succ_cons, List.findIdx?_cons]; rw [ih]
theorem UInv.step {us : List AUnit} {b : List Entry} {e : Entry} (h : UInv us b) (h0 : qez b e = 0) : UInv (qjc us e) (b ++ [e]) := by
 intro n
 obtain ⟨h1, h2, h3⟩ := h n
 rw [qt7, qyu]
 unfold qez at h0
 unfold qjc
 by_cases k1 : e.kind = 1
 ·rw [if_pos k1] at h0 ⊢
  have hb : Go.Ev.begins b e.unit = false := by
   split at h0
   ·cases h0
   ·split at h0
    ·cases h0
    ·simpa using ‹¬Go.Ev.begins b e.unit = true›
  have hu : uidx us e.unit = none := by
   have := (h e.unit).1
   rw [hb] at this
   cases hx : uidx us e.unit with
   | none => rfl
   | some _ => rw [hx] at this; cases this
  have hp : pEnd n e = false := by simp [pEnd, k1]
  have ha : uidx (us ++ [⟨e.unit, e.number, e.number, 2⟩]) n = (uidx us n <|> if e.unit = n then some us.length else none) := by
   unfold uidx
   rw [List.findIdx?_append]
   by_cases en : e.unit = n
   ·simp [en, List.findIdx?_cons]
   ·simp [en, List.findIdx?_cons]
  rw [ha]
  by_cases en : e.unit = n
  ·subst en
   rw [hu]
   simp only [hb, qle, k1, hp, if_pos, Option.isSome_some, Bool.false_or, beq_self_eq_true, Bool.and_self, true_and, and_true]
   refine ⟨rfl, fun hf => by simp at hf, fun k u hk hu2 => ?_⟩
   rw [show (none <|> some us.length : Option Nat) = some us.length from rfl] at hk
   cases hk
   rw [List.getElem?_append_right (Nat.le_refl _)] at hu2
   simp at hu2
   subst hu2
   simp [h2 (by rw [hb])] <;> first | exact (h e.unit).2.1 hb | skip
  ·simp only [en, if_false, qle, hp]
   rw [show (uidx us n <|> none) = uidx us n by cases uidx us n <;> rfl]
   have en2 : (e.unit == n) = false := by simpa using en
   simp only [en2, Bool.and_false, Bool.or_false, and_true]
   refine ⟨h1, h2, fun k u hk hu2 => ?_⟩
   obtain ⟨_, _, _, hl⟩ := qix hk
   rw [List.getElem?_append_left hl] at hu2
   exact h3 k u hk hu2
 ·rw [if_neg k1] at h0 ⊢
  have hpb : qle n e = false := by simp [qle, k1]
  rw [hpb, Bool.or_false]
  by_cases k2 : e.kind = 2 ∨ e.kind = 3 ∨ (e.kind = 0 ∧ e.unit ≠ 0)
  ·rw [if_pos k2]
   have ho : Go.Ev.isOpen b e.unit = true := by
    rcases k2 with k2 | k2 | k2
    ·rw [if_pos (.inl k2)] at h0; split at h0; assumption; cases h0
    ·rw [if_pos (.inr k2)] at h0; split at h0; assumption; cases h0
    ·rw [if_neg (by omega), if_pos k2.1] at h0
     split at h0
     ·cases h0
     ·rename_i hh; cases hx : Go.Ev.isOpen b e.unit with
      | true => rfl
      | false => exact absurd ⟨k2.2, hx⟩ hh
   rw [qj0] at ho
   obtain ⟨g1, g2, g3⟩ := h e.unit
   rw [ho.1] at g1
   obtain ⟨k, hk⟩ := Option.isSome_iff_exists.1 g1.symm
   simp only [hk]
   rw [q4r]
   refine ⟨h1, fun hb => ⟨h2 hb, ?_⟩, fun k' u hk' hu => ?_⟩
   ·by_cases en : e.unit = n
    ·subst en; rw [ho.1] at hb; cases hb
    ·have en2 : (e.unit == n) = false := by simpa using en
     simp [pEnd, en2]
   ·rw [List.getElem?_modify] at hu
    by_cases en : e.unit = n
    ·subst en
     rw [hk] at hk'; cases hk'
     obtain ⟨v, hv, _, _⟩ := qix hk
     rw [hv] at hu
     simp at hu
     subst hu
     have := g3 k v hk hv
     simp only [uEnd, pEnd]
     rcases k2 with k2 | k2 | k2
     ·simp [k2]
     ·simp [k2]
     ·simp [k2.1, this]
    ·have en2 : (e.unit == n) = false := by simpa using en
     have hne : k ≠ k' := by
      intro he; subst he
      obtain ⟨v, hv, q1, _⟩ := qix hk
      obtain ⟨v', hv', q2, _⟩ := qix hk'
      rw [hv] at hv'; cases hv'; exact en (q1.symm.trans q2)
     have := h3 k' u hk' (by simpa [hne] using hu)
     rw [this]
     simp [pEnd, en2]
  ·rw [if_neg k2]
   have hp : pEnd n e = false := by
    simp only [not_or] at k2
    simp [pEnd, k2.1, k2.2.1]
   rw [hp]
   simp only [and_true]
   exact ⟨h1, h2, h3⟩
theorem qmh {us : List AUnit} {e : Entry} (h1 : ¬e.kind = 1) (h2 : ¬(e.kind = 2 ∨ e.kind = 3 ∨ (e.kind = 0 ∧ e.unit ≠ 0))) : qjc us e = us := by
 rw [qjc, if_neg h1, if_neg h2]
theorem qnh {us : List AUnit} {e : Entry} (h1 : e.kind = 1) : qjc us e = us ++ [⟨e.unit, e.number, e.number, 2⟩] := by rw [qjc, if_pos h1]
theorem qo7 {us : List AUnit} {e : Entry} {k : Nat} {u : AUnit} (h1 : ¬e.kind = 1) (h2 : e.kind = 2 ∨ e.kind = 3 ∨ (e.kind = 0 ∧ e.unit ≠ 0)) (h3 : uidx us e.unit = some k) (h4 : us[k]? = some u) : qjc us e = us.set k (uEnd e u) := by
 rw [qjc, if_neg h1, if_pos h2, h3]
 simp only
 apply List.ext_getElem?
 intro j
 rw [List.getElem?_modify, List.getElem?_set]
 have hk := (List.getElem?_eq_some_iff.1 h4).1
 by_cases e : k = j
 ·subst e
  have : us[k] = u := by rw [List.getElem?_eq_getElem hk] at h4; exact Option.some.inj h4
  simp [hk, this]
 ·simp [e]
section
variable {C : Cfg} {M T t : Nat} {sl sl' : List (Nat × V)} {hp : List (Nat × HS)} {us us' : List AUnit}
theorem qyv (hM : M < 1000000) (hp0 : C.pins = []) (hmap : aget hp M = some (.live (.mp T (us.map keyU) (ptrs us.length)))) (hf : ∀ j, aget hp (fnm j) = aget (fam t (us.map qed)) (fnm j))
 (hs : ∀ (ρ : Nat → Option Nat) (nf : Nat → Prop), ρ M = some M → nf M → qki ρ nf sl sl') (hu : us' = us) :
 Sub C (mkS sl hp) (mkS sl' ((M, .live (.mp T (us'.map keyU) (ptrs (us'.map qed).length))) :: fam t (us'.map qed))) := by
 subst hu
 exact qxl hM hp0 fnm (by rw [hmap, List.length_map]; rfl) (fun k c hc => by rw [hf, qlv, hc]; rfl) (fun k k' _ _ h => by rwa [qfl] at h) (fun k _ h => by rwa [qe4 hM] at h) hs
theorem qbfk (hM : M < 1000000) (hp0 : C.pins = []) {b : Nat} {u : AUnit} (hb : b < 1000000) (hbM : b ≠ M) (hmap : aget hp M = some (.live (.mp T (us.map keyU ++ [.i .i64 u.unit]) (ptrs us.length ++ [.ptr b 0]))))
 (hbox : aget hp b = some (.live (.box t [.d (.i .i64 u.unit), .d (.i .i64 u.first), .d (.i .i64 u.last), .d (.i .i64 u.state)])))
 (hf : ∀ j, aget hp (fnm j) = aget (fam t (us.map qed)) (fnm j))
 (hs : ∀ (ρ : Nat → Option Nat) (nf : Nat → Prop), ρ M = some M → nf M → qki ρ nf sl sl') (hu : us' = us ++ [u]) :
 Sub C (mkS sl hp) (mkS sl' ((M, .live (.mp T (us'.map keyU) (ptrs (us'.map qed).length))) :: fam t (us'.map qed))) := by
 subst hu
 have hl : ((us ++ [u]).map qed).length = us.length + 1 := by simp
 refine qxl hM hp0 (fun k => if k = us.length then b else fnm k) ?_ (fun k c hc => ?_) (fun k k' _ _ h => ?_) (fun k _ h => ?_) hs
 ·rw [hmap, hl, List.range_succ, List.map_append, List.map_append, ptrs]
  simp only [List.map_cons, List.map_nil, if_true, keyU]
  congr 3
  congr 1
  refine List.map_congr_left fun k hk => ?_
  rw [if_neg (by have := List.mem_range.1 hk; omega)]
 ·(try dsimp only)
  by_cases e : k = us.length
  ·subst e
   rw [if_pos rfl, hbox]
   rw [List.getElem?_map, List.getElem?_append_right (Nat.le_refl _)] at hc
   simp at hc
   subst hc
   rfl
  ·have hk := (List.getElem?_eq_some_iff.1 hc).1
   rw [if_neg e, hf, qlv]
   rw [hl] at hk
   rw [List.getElem?_map, List.getElem?_append_left (by omega), ← List.getElem?_map] at hc
   rw [hc]; rfl
 ·(try dsimp only at h)
  split at h <;> split at h
  ·omega
  ·rw [qf8 hb] at h; exact h.elim
  ·rw [qe4 hb] at h; exact h.elim
  ·rwa [qfl] at h
 ·(try dsimp only at h)
  split at h
  ·exact hbM h
  ·rwa [qe4 hM] at h
theorem qbfl (hM : M < 1000000) (hp0 : C.pins = []) {k : Nat} {u u' : AUnit} (hk : us[k]? = some u) (hmap : aget hp M = some (.live (.mp T (us.map keyU) (ptrs us.length))))
 (hbox : aget hp (fnm k) = some (.live (.box t [.d (.i .i64 u'.unit), .d (.i .i64 u'.first), .d (.i .i64 u'.last), .d (.i .i64 u'.state)]))) (hku : u'.unit = u.unit)
 (hf : ∀ j, j ≠ k → aget hp (fnm j) = aget (fam t (us.map qed)) (fnm j))
 (hs : ∀ (ρ : Nat → Option Nat) (nf : Nat → Prop), ρ M = some M → nf M → qki ρ nf sl sl') (hu : us' = us.set k u') :
 Sub C (mkS sl hp) (mkS sl' ((M, .live (.mp T (us'.map keyU) (ptrs (us'.map qed).length))) :: fam t (us'.map qed))) := by
 subst hu
 have hlt := (List.getElem?_eq_some_iff.1 hk).1
 have hkeys : (us.set k u').map keyU = us.map keyU := by
  apply List.ext_getElem?
  intro j
  rw [List.getElem?_map, List.getElem?_map, List.getElem?_set]
  by_cases e : k = j
  ·subst e; simp [hlt]
   have : us[k] = u := by rw [List.getElem?_eq_getElem hlt] at hk; exact Option.some.inj hk
   rw [this]; simp [keyU, hku]
  ·simp [e]
 refine qxl hM hp0 fnm (by rw [hmap, hkeys, List.length_map, List.length_set]; rfl) (fun j c hc => ?_) (fun k k' _ _ h => by rwa [qfl] at h) (fun k _ h => by rwa [qe4 hM] at h) hs
 ·(try dsimp only)
  rw [List.getElem?_map, List.getElem?_set] at hc
  by_cases e : k = j
  ·subst e
   simp [hlt] at hc
   subst hc
   rw [hbox]; rfl
  ·rw [if_neg e] at hc
   rw [hf j (fun h => e h.symm), qlv, List.getElem?_map, hc]; rfl
theorem qbm9 {k : Nat} {u : AUnit} (h : us[k]? = some u) : aget (fam t (us.map qed)) (fnm k) = some (.live (.box t [.d (.i .i64 u.unit), .d (.i .i64 u.first), .d (.i .i64 u.last), .d (.i .i64 u.state)])) := by
 rw [qlv, List.getElem?_map, h]; rfl
theorem qbs0 {sl : List (Nat × V)} {h : HS} (hM : M < 1000000) : toDs (toD2 (mkS sl ((M, h) :: fam t (us.map qed)))) (ptrs us.length) = some (us.map fun u => .cp (qed u), (List.range us.length).map fnm) := by
 have := qbfj (s := mkS sl ((M, h) :: fam t (us.map qed))) (t := t) (cs := us.map qed) (fun k c hc => by
  show (aget _ _).getD HS.free = _
  simp only [aget]
  simp only [qe4 hM, if_false]
  rw [qlv, hc]; rfl)
 rw [List.length_map] at this
 rw [this, List.map_map]
 rfl
end
def qj8 (l : List Entry) : List AUnit := if (qbv l).2 = 0 then qb6 l else []
theorem UInv.next {l : List Entry} {i : Nat} (h : UInv (qb6 (l.take i)) (l.take i)) (hi : i < l.length) (h0 : qez (l.take i) (l.getD i q0i) = 0) : UInv (qb6 (l.take (i + 1))) (l.take (i + 1)) := by
 rw [qfa hi, qdx q0i hi]
 exact h.step h0
theorem qk1 {l : List Entry} (h : (qbv l).2 ≠ 0) : qj8 l = [] := by rw [qj8, if_neg h]
theorem qo8 {l : List Entry} (h : (qbv l).2 = 0) : qj8 l = qb6 l := by rw [qj8, if_pos h]
theorem qt8 {l : List Entry} (h : 80 < l.length) : qbv l = (0, 2) := by rw [qbv, if_pos h]
theorem qbfm {l : List Entry} (h : l.length ≤ 80) : qel l (l.length - 0) 0 = qbv l := by rw [qbv, if_neg (by omega)]; rfl
section
variable {l : List Entry} {i : Nat}
theorem qv2 (h : qel l (l.length - i) i = qbv l) (hi : i < l.length) (h1 : ¬qde (l.getD i q0i) = 0) : qbv l = ((i : Int), qde (l.getD i q0i)) := by
 rw [← h, qig hi, if_pos h1]
theorem qv3 (h : qel l (l.length - i) i = qbv l) (hi : i < l.length) (h1 : qde (l.getD i q0i) = 0) (h2 : 0 < (i : Int) ∧ ¬(l.getD i q0i).number = IntKind.i64.wrap ((l.getD ((i : Int) - 1).toNat q0i).number + 1)) : qbv l = ((i : Int), 14) := by
 rw [← h, qig hi, if_neg (fun e => e h1), if_pos ⟨by omega, h2.2⟩]
theorem qt9 (h : qel l (l.length - i) i = qbv l) (hi : i < l.length) (h1 : qde (l.getD i q0i) = 0) (h2 : (i : Int) ≤ 0 ∨ (l.getD i q0i).number = IntKind.i64.wrap ((l.getD ((i : Int) - 1).toNat q0i).number + 1)) {s : Int} (h3 : qez (l.take i) (l.getD i q0i) = s) :
 if s = 0 then qel l (l.length - (i + 1)) (i + 1) = qbv l else qbv l = ((i : Int), s) := by
 rw [qig hi, if_neg (fun e => e h1), if_neg (by omega)] at h
 subst h3
 split
 ·rename_i e
  rwa [if_neg (fun e' => e' e)] at h
 ·rename_i e
  rw [if_pos e] at h
  exact h.symm
def stU (us : List AUnit) (e : Entry) : Int :=
 if e.kind = 1 then match uidx us e.unit with
  | some k => if (us.getD k ⟨0, 0, 0, 0⟩).state = 2 then 26 else 13
  | none => 0
 else if e.kind = 2 ∨ e.kind = 3 ∨ (e.kind = 0 ∧ e.unit ≠ 0) then match uidx us e.unit with
  | some k => if (us.getD k ⟨0, 0, 0, 0⟩).state = 2 then 0 else 26
  | none => 26
 else 0
theorem UInv.st {us : List AUnit} {b : List Entry} (h : UInv us b) (e : Entry) : qez b e = stU us e := by
 unfold qez stU
 rw [h.isOpen, h.begins]
 by_cases k1 : e.kind = 1
 ·simp only [k1, if_true]
  cases uidx us e.unit <;> simp
 ·simp only [k1, if_false]
  by_cases k2 : e.kind = 2 ∨ e.kind = 3
  ·rw [if_pos k2, if_pos (show e.kind = 2 ∨ e.kind = 3 ∨ e.kind = 0 ∧ e.unit ≠ 0 by omega)]
   cases uidx us e.unit <;> simp
  ·rw [if_neg k2]
   by_cases k0 : e.kind = 0
   ·rw [if_pos k0]
    by_cases u0 : e.unit = 0
    ·rw [if_neg (by rintro ⟨h, _⟩; exact h u0), if_neg (show ¬(e.kind = 2 ∨ e.kind = 3 ∨ e.kind = 0 ∧ e.unit ≠ 0) by omega)]
    ·rw [if_pos (show e.kind = 2 ∨ e.kind = 3 ∨ e.kind = 0 ∧ e.unit ≠ 0 by omega)]
     cases uidx us e.unit <;> simp [u0]
   ·rw [if_neg k0, if_neg (show ¬(e.kind = 2 ∨ e.kind = 3 ∨ e.kind = 0 ∧ e.unit ≠ 0) by omega)]
theorem qbfn {us : List AUnit} {e : Entry} (h : uidx us e.unit = none) : stU us e = if e.kind = 1 then 0 else if e.kind = 2 ∨ e.kind = 3 ∨ (e.kind = 0 ∧ e.unit ≠ 0) then 26 else 0 := by
 unfold stU; rw [h]
theorem qbfo {us : List AUnit} {e : Entry} {k : Nat} {u : AUnit} (h : uidx us e.unit = some k) (hu : us[k]? = some u) : stU us e = if e.kind = 1 then (if u.state = 2 then 26 else 13) else if e.kind = 2 ∨ e.kind = 3 ∨ (e.kind = 0 ∧ e.unit ≠ 0) then (if u.state = 2 then 0 else 26) else 0 := by
 unfold stU; rw [h]; simp [List.getD, hu]
end
end Go.Ev
namespace Go.Ev
def chk (l : List Entry) (j : Nat) : Prop := qde (l.getD j q0i) = 0 ∧ ¬(0 < j ∧ (l.getD j q0i).number ≠ IntKind.i64.wrap ((l.getD ((j : Int) - 1).toNat q0i).number + 1)) ∧ qez (l.take j) (l.getD j q0i) = 0
theorem qro {l : List Entry} : ∀ (n i : Nat), (qel l n i).2 = 0 → ∀ j, i ≤ j → j < i + n → chk l j
 | 0, i, _, j, h1, h2 => by omega
 | n + 1, i, h, j, h1, h2 => by
   unfold qel at h
   split at h
   ·exact absurd h ‹_›
   split at h
   ·exact absurd h (show ¬((14 : Int) = 0) by decide)
   split at h
   ·exact absurd h ‹_›
   by_cases e : j = i
   ·subst e
    refine ⟨by omega, ‹_›, by omega⟩
   ·exact qro n (i + 1) h j (by omega) (by omega)
theorem qg5 {l : List Entry} (h : (qbv l).2 = 0) {j : Nat} (hj : j < l.length) : chk l j := by
 unfold qbv at h
 split at h
 ·cases h
 ·exact qro _ 0 h j (by omega) (by omega)
theorem qv4 {l : List Entry} (h : ∀ j, j < l.length → chk l j) (h1 : 0 < l.length → (l.getD 0 q0i).number = 1) (hl : l.length ≤ 1000000) : ∀ j, j < l.length → (l.getD j q0i).number = (j : Int) + 1
 | 0, hj => by rw [h1 hj]; rfl
 | j + 1, hj => by
   have p := qv4 h h1 hl j (by omega)
   have q := (h (j + 1) hj).2.1
   rw [qjz, show j + 1 - 1 = j from rfl, p, w64 (by omega) (by omega)] at q
   have : ¬(l.getD (j + 1) q0i).number ≠ (j : Int) + 1 + 1 := fun e => q ⟨by omega, e⟩
   omega
end Go.Ev
namespace Go.Ev
def q65 (k : Int) : Int := if k = 2 then 0 else if k = 3 then 1 else 2
def qv5 (u : Int) : List Entry → Int → Int
 | [], n => n
 | e :: r, n => qv5 u r (if e.unit = u then e.number else n)
theorem qqt (u : Int) : ∀ (l : List Entry) (e : Entry) (n : Int), qv5 u (l ++ [e]) n = if e.unit = u then e.number else qv5 u l n
 | [], e, n => rfl
 | a :: l, e, n => qqt u l e _
def refU (l : List Entry) (i : Nat) : AUnit := ⟨(l.getD i q0i).unit, (l.getD i q0i).number, qv5 (l.getD i q0i).unit (l.drop i) 0, q65 (ends l (l.getD i q0i).unit)⟩
def qlf (l : List Entry) : Nat → List AUnit
 | 0 => []
 | i + 1 => if (l.getD i q0i).kind = 1 then qlf l i ++ [refU l i] else qlf l i
theorem qsd {l : List Entry} {e : Entry} {i : Nat} (h : i < l.length) : (l ++ [e]).getD i q0i = l.getD i q0i := by rw [qf4, if_pos h]
theorem qol {l : List Entry} {e : Entry} : (l ++ [e]).getD l.length q0i = e := by rw [qf4, if_neg (by omega), if_pos rfl]
theorem qom (b : List Entry) (e : Entry) (n : Int) : ends (b ++ [e]) n = if qgd b n = none then (if pEnd n e = true then e.kind else -1) else ends b n := by
 unfold ends qgd
 rw [List.find?_append]
 cases h : List.find? (pEnd n) b with
 | none =>
   simp only [Option.none_or, if_true, List.find?_cons, List.find?_nil]
   cases pEnd n e <;> simp
 | some x => simp
theorem q66 {b : List Entry} {n : Int} (h : qgd b n = none) : q65 (ends b n) = 2 := by rw [qqs.2 h]; rfl
def updU (e : Entry) (u : AUnit) : AUnit := if e.unit = u.unit then uEnd e u else u
theorem qbbf {l : List Entry} {e : Entry} {i : Nat} (hi : i < l.length) (h : e.unit = (l.getD i q0i).unit → qgd l e.unit = none ∧ (e.kind = 2 ∨ e.kind = 3 ∨ e.kind = 0)) : refU (l ++ [e]) i = updU e (refU l i) := by
 unfold refU updU
 rw [qsd hi]
 generalize hg : l.getD i q0i = b at h ⊢
 by_cases hu : e.unit = b.unit
 ·obtain ⟨h1, h2⟩ := h hu
  rw [if_pos hu]
  unfold uEnd
  rw [AUnit.mk.injEq]
  refine ⟨rfl, rfl, ?_, ?_⟩
  ·rw [List.drop_append_of_le_length (by omega), qqt, if_pos hu]
  ·rw [hu] at h1
   simp only
   rw [qom, if_pos h1, q66 h1]
   unfold pEnd
   rcases h2 with h2 | h2 | h2 <;> simp [h2, hu, q65]
 ·rw [if_neg hu]
  rw [AUnit.mk.injEq]
  refine ⟨rfl, rfl, ?_, ?_⟩
  ·rw [List.drop_append_of_le_length (by omega), qqt, if_neg hu]
  ·rw [qom]
   have hp : pEnd b.unit e = false := by simp [pEnd, hu]
   rw [hp]
   split
   ·rename_i h1; rw [if_neg (by simp), qqs.2 h1]
   ·rfl
theorem qpp {l : List Entry} {e : Entry} (h : ∀ i, i < l.length → (l.getD i q0i).kind = 1 → e.unit = (l.getD i q0i).unit → qgd l e.unit = none ∧ (e.kind = 2 ∨ e.kind = 3 ∨ e.kind = 0)) :
 ∀ i, i ≤ l.length → qlf (l ++ [e]) i = (qlf l i).map (updU e)
 | 0, _ => rfl
 | i + 1, hi => by
   unfold qlf
   rw [qsd (by omega)]
   split
   ·rename_i hk
    rw [List.map_append, qpp h i (by omega), qbbf (by omega) (h i (by omega) hk)]; rfl
   ·exact qpp h i (by omega)
structure PInv (b : List Entry) : Prop where
 u : UInv (qb6 b) b
 nd : ((qb6 b).map (·.unit)).Nodup
 eq : qb6 b = qlf b b.length
 f : (qb6 b).map (·.first) = (b.filter fun e => e.kind == 1).map (·.number)
 un : ∀ u ∈ qb6 b, 1 ≤ u.unit
theorem PInv.nil : PInv [] := ⟨UInv.nil, by simp [qb6], rfl, rfl, fun u hu => by cases hu⟩
theorem qyw (e : Entry) (u : AUnit) : (updU e u).unit = u.unit := by unfold updU uEnd; split <;> rfl
theorem q67 (e : Entry) (u : AUnit) : (updU e u).first = u.first := by unfold updU uEnd; split <;> rfl
theorem q68 {us : List AUnit} {e : Entry} {k : Nat} (hn : (us.map (·.unit)).Nodup) (hk : uidx us e.unit = some k) : us.modify k (uEnd e) = us.map (updU e) := by
 obtain ⟨u, h1, h2, h3⟩ := qix hk
 apply List.ext_getElem?
 intro j
 rw [List.getElem?_modify, List.getElem?_map]
 cases hj : us[j]? with
 | none => rfl
 | some v =>
   have hjl := (List.getElem?_eq_some_iff.1 hj).1
   simp only [Option.map_some, Option.map_eq_map]
   by_cases e1 : k = j
   ·subst e1
    rw [h1] at hj; cases hj
    rw [if_pos rfl]
    unfold updU; rw [if_pos h2.symm]
   ·rw [if_neg e1]
    unfold updU
    rw [if_neg (fun e2 => e1 ?_)]
    have ha : (us.map (·.unit))[k]? = some e.unit := by rw [List.getElem?_map, h1]; simp [h2]
    have hb : (us.map (·.unit))[j]? = some e.unit := by rw [List.getElem?_map, hj]; simp [e2]
    obtain ⟨ka, ea⟩ := List.getElem?_eq_some_iff.1 ha
    obtain ⟨kb, eb⟩ := List.getElem?_eq_some_iff.1 hb
    rcases Nat.lt_trichotomy k j with hh | hh | hh
    ·exact absurd (ea.trans eb.symm) (List.pairwise_iff_getElem.1 hn k j ka kb hh)
    ·exact hh
    ·exact absurd (eb.trans ea.symm) (List.pairwise_iff_getElem.1 hn j k kb ka hh)
theorem q008 {l : List Entry} : ∀ {i : Nat} {j : Nat}, j < i → (l.getD j q0i).kind = 1 → refU l j ∈ qlf l i
 | 0, j, h, _ => by omega
 | i + 1, j, h, hk => by
   unfold qlf
   by_cases e : j = i
   ·subst e; rw [if_pos hk]; simp
   ·have := q008 (l := l) (i := i) (j := j) (by omega) hk
    split
    ·exact List.mem_append_left _ this
    ·exact this
theorem q69 {e : Entry} (h : qde e = 0) : (e.kind = 1 ∨ e.kind = 2 ∨ e.kind = 3 → 1 ≤ e.unit) ∧ (e.kind ≠ 0 → e.kind ≠ 1 → e.kind ≠ 2 → e.kind ≠ 3 → e.unit = 0) ∧ (e.kind = 0 → 0 ≤ e.unit) := by
 unfold qde at h
 split at h
 ·cases h
 split at h
 ·cases h
 split at h
 ·cases h
 split at h
 ·cases h
 split at h
 ·cases h
 rename_i h1 h2 h3 h4 h5
 rw [Decidable.not_not] at h5
 refine ⟨fun hk => by omega, fun k0 k1 k2 k3 => ?_, fun hk => by omega⟩
 unfold qlt at h5
 rw [if_neg k0, if_neg (by omega)] at h5
 split at h5
 ·rw [← h5]
 ·rw [← h5]
theorem PInv.step {b : List Entry} {e : Entry} (h : PInv b) (h1 : qde e = 0) (h2 : qez b e = 0) : PInv (b ++ [e]) := by
 have hu := h.u.step h2
 rw [← qmg] at hu
 obtain ⟨q1, q2, q3⟩ := q69 h1
 have hlen : (b ++ [e]).length = b.length + 1 := by simp
 have hidx : ∀ i, i < b.length → (b.getD i q0i).kind = 1 → (uidx (qb6 b) (b.getD i q0i).unit).isSome = true := fun i hi hk => by
  rw [← h.u.begins]
  exact qqo hi hk rfl
 have hsm : ∀ i, i < b.length → (b.getD i q0i).kind = 1 → 1 ≤ (b.getD i q0i).unit := fun i hi hk => by
  have := h.un (refU b i) (by rw [h.eq]; exact q008 hi hk)
  exact this
 have hno : e.kind = 1 → begins b e.unit = false := fun k1 => by
  unfold qez at h2
  rw [if_pos k1] at h2
  split at h2
  ·cases h2
  split at h2
  ·cases h2
  ·simpa using ‹¬begins b e.unit = true›
 have hopen : (e.kind = 2 ∨ e.kind = 3 ∨ (e.kind = 0 ∧ e.unit ≠ 0)) → begins b e.unit = true ∧ qgd b e.unit = none := fun k2 => by
  rw [← qj0]
  unfold qez at h2
  rcases k2 with k2 | k2 | k2
  ·rw [if_neg (by omega), if_pos (.inl k2)] at h2; split at h2; assumption; cases h2
  ·rw [if_neg (by omega), if_pos (.inr k2)] at h2; split at h2; assumption; cases h2
  ·rw [if_neg (by omega), if_neg (by omega), if_pos k2.1] at h2
   split at h2
   ·cases h2
   ·rename_i hh; cases hx : isOpen b e.unit with
    | true => rfl
    | false => exact absurd ⟨k2.2, hx⟩ hh
 have hcond : ∀ i, i < b.length → (b.getD i q0i).kind = 1 → e.unit = (b.getD i q0i).unit → qgd b e.unit = none ∧ (e.kind = 2 ∨ e.kind = 3 ∨ e.kind = 0) := fun i hi hk he => by
  have hb : begins b e.unit = true := qqo hi hk he.symm
  have h1u := hsm i hi hk
  by_cases k1 : e.kind = 1
  ·rw [hno k1] at hb; cases hb
  by_cases k2 : e.kind = 2 ∨ e.kind = 3 ∨ (e.kind = 0 ∧ e.unit ≠ 0)
  ·exact ⟨(hopen k2).2, by omega⟩
  ·have := q2; omega
 have hrefs := qpp hcond b.length (Nat.le_refl _)
 by_cases k1 : e.kind = 1
 ·have hz : qb6 (b ++ [e]) = qb6 b ++ [⟨e.unit, e.number, e.number, 2⟩] := by rw [qmg, qnh k1]
  have hb := hno k1
  have hen : qgd b e.unit = none := (h.u e.unit).2.1 hb
  have hin : ∀ u ∈ qb6 b, e.unit ≠ u.unit := fun u hm he => by
   have : uidx (qb6 b) e.unit = none := by
    have := (h.u e.unit).1
    rw [hb] at this
    cases hx : uidx (qb6 b) e.unit with
    | none => rfl
    | some _ => rw [hx] at this; cases this
   unfold uidx at this
   rw [List.findIdx?_eq_none_iff] at this
   have := this u hm
   simp at this
   exact this he.symm
  refine ⟨hu, ?_, ?_, ?_, ?_⟩
  ·rw [hz, List.map_append, List.nodup_append]
   refine ⟨h.nd, by simp, fun x hx y hy => ?_⟩
   simp at hy
   obtain ⟨u, hm, rfl⟩ := List.mem_map.1 hx
   rw [hy]
   exact fun he => hin u hm he.symm
  ·rw [hlen]
   unfold qlf
   rw [qol, if_pos k1, hrefs, ← h.eq, hz]
   congr 1
   ·have : (qb6 b).map (updU e) = (qb6 b).map id := List.map_congr_left fun u hm => by unfold updU; rw [if_neg (hin u hm)]; rfl
    rw [this, List.map_id]
   ·unfold refU
    rw [qol]
    congr 1
    rw [AUnit.mk.injEq]
    refine ⟨rfl, rfl, ?_, ?_⟩
    ·rw [List.drop_append_of_le_length (Nat.le_refl _), List.drop_length, List.nil_append]; simp [qv5]
    ·rw [qom, if_pos hen]
     have : pEnd e.unit e = false := by simp [pEnd, k1]
     rw [this]; rfl
  ·rw [hz, List.map_append, h.f, List.filter_append, List.map_append]
   simp [k1]
  ·rw [hz]
   intro u hm
   rw [List.mem_append, List.mem_singleton] at hm
   rcases hm with hm | rfl
   ·exact h.un u hm
   ·exact q1 (.inl k1)
 ·have hf : ((b ++ [e]).filter fun e => e.kind == 1) = b.filter fun e => e.kind == 1 := by rw [List.filter_append]; simp [k1]
  have hz : qb6 (b ++ [e]) = (qb6 b).map (updU e) := by
   rw [qmg]
   by_cases k2 : e.kind = 2 ∨ e.kind = 3 ∨ (e.kind = 0 ∧ e.unit ≠ 0)
   ·unfold qjc
    rw [if_neg k1, if_pos k2]
    have := (h.u e.unit).1
    rw [(hopen k2).1] at this
    obtain ⟨k, hk⟩ := Option.isSome_iff_exists.1 this.symm
    rw [hk]
    exact q68 h.nd hk
   ·rw [qmh k1 k2]
    have : (qb6 b).map (updU e) = (qb6 b).map id := List.map_congr_left fun u hm => by
     unfold updU
     have := h.un u hm
     rw [if_neg (by omega)]; rfl
    rw [this, List.map_id]
  refine ⟨hu, ?_, ?_, ?_, ?_⟩
  ·rw [hz, List.map_map]
   have : (qb6 b).map ((·.unit) ∘ updU e) = (qb6 b).map (·.unit) := List.map_congr_left fun u _ => qyw e u
   rw [this]; exact h.nd
  ·rw [hlen]
   unfold qlf
   rw [qol, if_neg k1, hrefs, ← h.eq, hz]
  ·rw [hz, List.map_map, hf, ← h.f]
   exact List.map_congr_left fun u _ => q67 e u
  ·rw [hz]
   intro u hm
   obtain ⟨v, hv, rfl⟩ := List.mem_map.1 hm
   rw [qyw]; exact h.un v hv
theorem PInv.take {l : List Entry} (h : ∀ j, j < l.length → chk l j) : ∀ k, k ≤ l.length → PInv (l.take k)
 | 0, _ => PInv.nil
 | k + 1, hk => by
   rw [qdx q0i (by omega)]
   exact (PInv.take h k (by omega)).step (h k (by omega)).1 (h k (by omega)).2.2
theorem qv6 {l : List Entry} (h : (qbv l).2 = 0) : PInv l := by
 have := PInv.take (fun j hj => qg5 h hj) l.length (Nat.le_refl _)
 rwa [List.take_length] at this
end Go.Ev
