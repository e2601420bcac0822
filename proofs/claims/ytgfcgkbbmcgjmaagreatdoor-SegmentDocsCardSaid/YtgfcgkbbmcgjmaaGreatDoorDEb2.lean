/- strings.Builder, as this program bears it -/
import Derived.Test.YtgfcgkbbmcgjmaaGreatDoorDEv
import Derived.Test.YtgfcgkbbmcgjmaaGreatDoorProg
import Derived.ProofKit
import Derived.Lib.Builder
import Derived.Lib.AppendStr
import Derived.Lib.UnsafeStr
import Derived.Lib.MakeNoZero
import Derived.WalkKit
import Derived.Laws.Externs
import Derived.Laws.IdiomCopy
import Derived.Laws.BitsLemmas
import Derived.Shelf.RegionOpenPlain
import Derived.Lib.Strings
import Derived.Lib.Slices
import Derived.Lib.Walk
namespace Go.Proofs.YtgfcgkbbmcgjmaaGreatDoor.Eng
set_option linter.unusedVariables false
set_option linter.unusedSimpArgs false
set_option maxRecDepth 100000
open Go.RowKit
theorem sizeBuilder:(Tryz.prog.info? 121).map (·.size)=some 2:=by kernel_rfl
theorem liesBuilder:liesAt Tryz.prog Tryz.prog.depth 121 (2 / Tryz.prog.cellsOf 121) 0 121 1=true:=by kernel_rfl
set_option maxHeartbeats 1000000 in
theorem copy_used (b:Nat) (w:World) (h0:w.cell? ⟨b,0,none⟩=some (.pointer (some ⟨b,0,none⟩))):
  Calls Tryz.prog 137 #[.pointer (some ⟨b,0,none⟩)] w fun e w'=>e= .returned (.tuple #[])∧w'=w:=by
 obtain ⟨j,hj,_⟩:=Option.map_eq_some_iff.1 sizeBuilder
 go_enter Tryz.func137,Tryz.ntmps137
 go_wp2
 rw [Lib.run_neq_ptr_same w _ Tryz.underlying119 hj]
 go_wp2
 go_end0
 exact ⟨rfl,rfl⟩
set_option maxHeartbeats 1000000 in
theorem copy_fresh (b:Nat) (w:World) (h0:w.cell? ⟨b,0,none⟩=some (.pointer none)) (hsh:w.shape? b=some (121,2)) (hfz:w.frozen? ⟨b,0,none⟩=false):
  Calls Tryz.prog 137 #[.pointer (some ⟨b,0,none⟩)] w fun e w'=>e= .returned (.tuple #[])∧w'=w.setCell ⟨b,0,none⟩ (.pointer (some ⟨b,0,none⟩)):=by
 obtain ⟨j,hj,hjs⟩:=Option.map_eq_some_iff.1 sizeBuilder
 go_enter Tryz.func137,Tryz.ntmps137
 go_wp2
 rw [Lib.run_to_unsafe w ⟨b,0,none⟩ Tryz.underlying119 Tryz.underlying238 hj (by rw [hjs];decide) hsh (Nat.zero_lt_succ 1)]
 simp only [Result.andThen]
 rw [Oper.upon_value]
 go_wp2
 rw [run_callFunc_extern Tryz.func191 (by kernel_rfl) (by kernel_rfl) (by kernel_rfl) (e:=Extern.AbiNoEscape.same) (by kernel_rfl)]
 rw [Lib.run_noEscape]
 simp only [Result.andThen]
 rw [Oper.upon_value]
 go_wp2
 rw [Lib.run_from_unsafe w ⟨b,0,none⟩ Tryz.underlying238 Tryz.underlying119 hj hsh liesBuilder]
 simp only [Result.andThen]
 rw [Oper.upon_value]
 go_wp2
 go_end0
 exact ⟨rfl,rfl⟩
set_option maxHeartbeats 2000000 in
theorem string_nil (b:Nat) (w:World) (h1:w.cell? ⟨b,1,none⟩=some (.slice none 0 0)):
  Calls Tryz.prog 82 #[.pointer (some ⟨b,0,none⟩)] w fun e w'=>e= .returned (.string .empty)∧ ∃ m,w'={ w with drawn:=m }:=by
 have hUS: ∀ (W:World) (q:Option Addr),(Builtin.unsafeString_ #[184,3] 9 #[.pointer q, .int .i64 0]).run Tryz.prog W= .ok (.string .empty) W:=fun W q=>Lib.run_unsafeString_none W _ _ _ q
 have hSD:(Builtin.unsafeSliceData_ #[47] 184 #[.slice none 0 0]).run Tryz.prog w.drew= .ok (.pointer none) w.drew:=rfl
 have c1:w.drew.cell? ⟨b,1,none⟩=some (.slice none 0 0):=h1
 have mixed:Tryz.prog.follows .mixedOrders=true:=by kernel_rfl
 go_enter Tryz.func82,Tryz.ntmps82
 go_wp2
 go_region_o
 all_goals (go_wp2;go_ret;exact ⟨rfl,_,rfl⟩)
set_option maxHeartbeats 2000000 in
theorem string_row (b:Nat) (w:World) (g o n cap:Nat) (l:List UInt8) (ty cells:Nat) (hl:l≠[]) (hn:l.length=n) (hc:n≤cap) (h63:n≤9223372036854775807) (h1:w.cell? ⟨b,1,none⟩=some (.slice (some ⟨g,o,none⟩) n cap)) (hsh:w.shape? g=some (ty,cells)) (hu:Tryz.prog.underlying ty=some (.int .u8)) (h1c:Tryz.prog.cellsOf ty=1) (hfit:o+n≤cells)
  (hb: ∀ j x,l[j]? =some x→w.cell? ⟨g,o+j,none⟩=some (.int .u8 x.toNat)):
  Calls Tryz.prog 82 #[.pointer (some ⟨b,0,none⟩)] w fun e w'=>e= .returned (.string ⟨l.toArray⟩)∧ ∃ m,w'={ w.freeze ⟨g,o,none⟩ n with drawn:=m }:=by
 subst hn
 have hne:l.length≠0:=by simpa using hl
 have c1:w.drew.cell? ⟨b,1,none⟩=some (.slice (some ⟨g,o,none⟩) l.length cap):=h1
 have hSD:(Builtin.unsafeSliceData_ #[47] 184 #[.slice (some ⟨g,o,none⟩) l.length cap]).run Tryz.prog w.drew= .ok (.pointer (some ⟨g,o,none⟩)) w.drew:=
  Lib.run_unsafeSliceData_row _ _ _ _ _ _ (by omega)
 have hUS:(Builtin.unsafeString_ #[184,3] 9 #[.pointer (some ⟨g,o,none⟩), .int .i64 l.length]).run Tryz.prog w.drew= .ok (.string ⟨l.toArray⟩) (w.drew.freeze ⟨g,o,none⟩ l.length):=
  run_ustr (P:=Tryz.prog) (w:=w.drew) 184 3 9 5 ty Tryz.underlying184 Tryz.underlying5 hu h1c g o cells hsh l hl hfit h63 hb
 have mixed:Tryz.prog.follows .mixedOrders=true:=by kernel_rfl
 go_enter Tryz.func82,Tryz.ntmps82
 go_wp2
 go_region_o
 all_goals (go_wp2;go_ret;exact ⟨rfl,_,by simp only [World.freeze,if_neg hne];rfl⟩)
end Go.Proofs.YtgfcgkbbmcgjmaaGreatDoor.Eng
