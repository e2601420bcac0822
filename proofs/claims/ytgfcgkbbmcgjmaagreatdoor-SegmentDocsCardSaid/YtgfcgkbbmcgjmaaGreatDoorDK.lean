/- The tables at the start, and what runs that take nothing answer (printed by a program). -/
import Derived.Test.YtgfcgkbbmcgjmaaGreatDoorDLa
import Derived.Test.YtgfcgkbbmcgjmaaGreatDoorRows
import Derived.OpenShut
import Derived.KernelRfl
namespace Go.Proofs.YtgfcgkbbmcgjmaaGreatDoor.Eng
set_option linter.unusedVariables false
set_option linter.unusedSimpArgs false
set_option maxRecDepth 100000
def gl0:List AV:=[(.int .u8 (.ofNat 0)),(.int .u8 (.ofNat 1)),(.int .u8 (.ofNat 56)),(.int .u8 (.ofNat 2)),(.int .u8 (.ofNat 57)),(.int .u8 (.ofNat 49)),(.int .u8 (.ofNat 28)),(.int .u8 (.ofNat 3)),(.int .u8 (.ofNat 61)),(.int .u8 (.ofNat 58)),(.int .u8 (.ofNat 42)),(.int .u8 (.ofNat 50)),(.int .u8 (.ofNat 38)),(.int .u8 (.ofNat 29)),(.int .u8 (.ofNat 17)),(.int .u8 (.ofNat 4)),(.int .u8 (.ofNat 62)),(.int .u8 (.ofNat 47)),(.int .u8 (.ofNat 59)),(.int .u8 (.ofNat 36)),(.int .u8 (.ofNat 45)),(.int .u8 (.ofNat 43)),(.int .u8 (.ofNat 51)),(.int .u8 (.ofNat 22)),(.int .u8 (.ofNat 53)),(.int .u8 (.ofNat 39)),(.int .u8 (.ofNat 33)),(.int .u8 (.ofNat 30)),(.int .u8 (.ofNat 24)),(.int .u8 (.ofNat 18)),(.int .u8 (.ofNat 12)),(.int .u8 (.ofNat 5)),(.int .u8 (.ofNat 63)),(.int .u8 (.ofNat 55)),(.int .u8 (.ofNat 48)),(.int .u8 (.ofNat 27)),(.int .u8 (.ofNat 60)),(.int .u8 (.ofNat 41)),(.int .u8 (.ofNat 37)),(.int .u8 (.ofNat 16)),(.int .u8 (.ofNat 46)),(.int .u8 (.ofNat 35)),(.int .u8 (.ofNat 44)),(.int .u8 (.ofNat 21)),(.int .u8 (.ofNat 52)),(.int .u8 (.ofNat 32)),(.int .u8 (.ofNat 23)),(.int .u8 (.ofNat 11)),(.int .u8 (.ofNat 54)),(.int .u8 (.ofNat 26)),(.int .u8 (.ofNat 40)),(.int .u8 (.ofNat 15)),(.int .u8 (.ofNat 34)),(.int .u8 (.ofNat 20)),(.int .u8 (.ofNat 31)),(.int .u8 (.ofNat 10)),(.int .u8 (.ofNat 25)),(.int .u8 (.ofNat 14)),(.int .u8 (.ofNat 19)),(.int .u8 (.ofNat 9)),(.int .u8 (.ofNat 13)),(.int .u8 (.ofNat 8)),(.int .u8 (.ofNat 7)),(.int .u8 (.ofNat 6))]
def gl3:List AV:=[(.int .i64 (.ofNat 65)),(.int .i64 (.ofNat 90)),(.int .i64 (.ofNat 1)),(.int .i64 (.ofNat 32)),(.int .i64 (.ofNat 192)),(.int .i64 (.ofNat 214)),(.int .i64 (.ofNat 1)),(.int .i64 (.ofNat 32)),(.int .i64 (.ofNat 216)),(.int .i64 (.ofNat 222)),(.int .i64 (.ofNat 1)),(.int .i64 (.ofNat 32)),(.int .i64 (.ofNat 256)),(.int .i64 (.ofNat 302)),(.int .i64 (.ofNat 2)),(.int .i64 (.ofNat 1)),(.int .i64 (.ofNat 306)),(.int .i64 (.ofNat 310)),(.int .i64 (.ofNat 2)),(.int .i64 (.ofNat 1)),(.int .i64 (.ofNat 313)),(.int .i64 (.ofNat 327)),(.int .i64 (.ofNat 2)),(.int .i64 (.ofNat 1)),(.int .i64 (.ofNat 330)),(.int .i64 (.ofNat 374)),(.int .i64 (.ofNat 2)),(.int .i64 (.ofNat 1)),(.int .i64 (.ofNat 377)),(.int .i64 (.ofNat 381)),(.int .i64 (.ofNat 2)),(.int .i64 (.ofNat 1)),(.int .i64 (.ofNat 913)),(.int .i64 (.ofNat 929)),(.int .i64 (.ofNat 1)),(.int .i64 (.ofNat 32)),(.int .i64 (.ofNat 931)),(.int .i64 (.ofNat 937)),(.int .i64 (.ofNat 1)),(.int .i64 (.ofNat 32)),(.int .i64 (.ofNat 1024)),(.int .i64 (.ofNat 1039)),(.int .i64 (.ofNat 1)),(.int .i64 (.ofNat 80)),(.int .i64 (.ofNat 1040)),(.int .i64 (.ofNat 1071)),(.int .i64 (.ofNat 1)),(.int .i64 (.ofNat 32)),(.int .i64 (.ofNat 1120)),(.int .i64 (.ofNat 1152)),(.int .i64 (.ofNat 2)),(.int .i64 (.ofNat 1))]
def gl1:List AV:=[(.str [97]),(.str [97,110]),(.str [97,110,100]),(.str [97,115]),(.str [97,116]),(.str [98,101]),(.str [98,121]),(.str [102,111,114]),(.str [105,110]),(.str [105,115]),(.str [105,116]),(.str [111,102]),(.str [111,110]),(.str [111,114]),(.str [116,104,101]),(.str [116,111])]
def gl2:List AV:=[(.str [105,122,97,116,105,111,110]),(.str [105,122,101]),(.str [97,116,105,111,110]),(.str [97,116,101]),(.str [102,117,108,108,121]),(.str [102,117,108]),(.str [110,101,115,115]),(.str []),(.str [109,101,110,116]),(.str []),(.str [97,108,108,121]),(.str [97,108]),(.str [108,121]),(.str [])]
def laidLit:List (Nat × List AV):=[(0,gl0),(3,gl3),(1,gl1),(2,gl2)]
def H0:Hp:=⟨(.nd (.nd (.nd .lf (some ⟨gl3,0,false⟩) .lf) (some ⟨gl1,0,false⟩) .lf) (some ⟨gl0,0,false⟩) (.nd .lf (some ⟨gl2,0,false⟩) .lf)),5⟩
theorem laid_eq:laidL Tryz.prog Rows.segmentDocsRow.laid=laidLit:=by kernel_rfl
theorem H0_eq:startH Tryz.prog.globals.size laidLit=H0:=by kernel_rfl
def answer (r:Option (AV × Hp)):Bool:=match r with | some (.bool b,_)=>b | _=>false
theorem answer_true {r:Option (AV × Hp)} (h:answer r=true): ∃ H',r=some (.bool true,H'):=by
 unfold answer at h
 split at h
 ·rename_i b H'
  exact ⟨H',by rw [h]⟩
 ·cases h
theorem run_13:answer (all 1000 13 [] H0)=true:=by kernel_rfl
end Go.Proofs.YtgfcgkbbmcgjmaaGreatDoor.Eng
