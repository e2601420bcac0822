/- What the law SegmentDocs answers, part x. -/
import Derived.Test.YtgfcgkbbmcgjmaaGreatDoorDBc3
import Derived.Test.YtgfcgkbbmcgjmaaGreatDoorDEh
import Derived.Test.YtgfcgkbbmcgjmaaGreatDoorRows
import Derived.Test.YtgfcgkbbmcgjmaaGreatDoorCards
import Derived.Test.YtgfcgkbbmcgjmaaGreatDoorTie
import Derived.ProofKit
import Derived.OpenShut
import Derived.ShutString
import Derived.ChangeOld
import Derived.Below
import Derived.SizedLaws
import Derived.WalkKit
import Derived.LaidMore
import Derived.Lay
import Derived.SevenTiedAt
import Derived.Stop.Joined
import Derived.HandedShaped
import Derived.Shelf.Vars
import Derived.Deep.DeepHandedRow
import Derived.Carry
namespace Go.Proofs.YtgfcgkbbmcgjmaaGreatDoor.Eng
set_option linter.unusedVariables false
set_option linter.unusedSimpArgs false
set_option maxRecDepth 100000
open Go.RowKit Go.ChangeShapes Go.WideShapes Go.ChangeAt Go.ChangeMaps
theorem H0_ok:Ok H0:=by
 rw [←H0_eq]
 exact startH_ok (by kernel_rfl)
theorem H0_laid:LaidZ laidLit H0:=by
 rw [←H0_eq]
 exact start_laid (by kernel_rfl)
theorem H0_fz:AllFz H0:=by
 rw [←H0_eq]
 exact startH_fz _ _
theorem cStr:Tryz.prog.cellsOf 9=1:=by kernel_rfl
theorem cFour:Tryz.prog.cellsOf 34=4:=by kernel_rfl
theorem cDoc:Tryz.prog.cellsOf 36=5:=by kernel_rfl
theorem vr1 {σ:Sg} {a:AV} {c:Value} (h:VRs σ [a] [c]):VR σ a c:=by
 cases h with
 | cons h t=>exact h
section
variable {D:Type} {enc:TypeId × Value→D} {W:World}
theorem open_text {n:Nat} {c:Value} {y:DataW D × List MemPlace} (h:DataW.trod enc Tryz.prog W 0 (fun _=>true) true n 9 [c]=some y): ∃ x:List Nat,(∀ b∈x,b<256)∧ ∀ σ,VR σ (.str x) c:=by
 obtain ⟨x,hx,hv⟩:=open_str1 Tryz.underlying9 n [c] y h
 exact ⟨x,hx.1,fun σ=>vr1 (hv σ)⟩
theorem open_doc (n:Nat) (c:List Value) (y:DataW D × List MemPlace) (h:DataW.trod enc Tryz.prog W 0 (fun _=>true) true n 36 c=some y): ∃ x:DocP,((∀ b∈x.id,b<256)∧ ∀ s∈x.ts, ∀ b∈s,b<256)∧ ∀ σ,VRs σ (dc x) c:=by
 obtain ⟨y0,y1,m,_,hl,h0,h1⟩:=trod_struct2 Tryz.underlying36 h
 rw [cDoc] at hl
 match c,hl with
 | [c0,c1,c2,c3,c4],_=>
 have k0:DataW.trod enc Tryz.prog W 0 (fun _=>true) true m 9 (([c0,c1,c2,c3,c4].drop 0).take (Tryz.prog.cellsOf 9))=some y0:=h0
 have k1:DataW.trod enc Tryz.prog W 0 (fun _=>true) true m 34 (([c0,c1,c2,c3,c4].drop 1).take (Tryz.prog.cellsOf 34))=some y1:=h1
 rw [cStr] at k0
 rw [cFour] at k1
 obtain ⟨xs,m2,_,_,_,hlen,hel⟩:=DataW.trod_array Tryz.underlying34 k1
 rw [cStr] at hel
 obtain ⟨a0,p0,v0⟩:=open_text (show DataW.trod enc Tryz.prog W 0 (fun _=>true) true m 9 [c0]=some y0 from k0)
 obtain ⟨a1,p1,v1⟩:=open_text (show DataW.trod enc Tryz.prog W 0 (fun _=>true) true m2 9 [c1]=some (xs[0]'(by omega)) from (hel 0 (by omega)).trans (List.getElem?_eq_getElem (by omega)))
 obtain ⟨a2,p2,v2⟩:=open_text (show DataW.trod enc Tryz.prog W 0 (fun _=>true) true m2 9 [c2]=some (xs[1]'(by omega)) from (hel 1 (by omega)).trans (List.getElem?_eq_getElem (by omega)))
 obtain ⟨a3,p3,v3⟩:=open_text (show DataW.trod enc Tryz.prog W 0 (fun _=>true) true m2 9 [c3]=some (xs[2]'(by omega)) from (hel 2 (by omega)).trans (List.getElem?_eq_getElem (by omega)))
 obtain ⟨a4,p4,v4⟩:=open_text (show DataW.trod enc Tryz.prog W 0 (fun _=>true) true m2 9 [c4]=some (xs[3]'(by omega)) from (hel 3 (by omega)).trans (List.getElem?_eq_getElem (by omega)))
 refine ⟨⟨a0,a1,a2,a3,a4⟩,⟨p0,fun s hs=>?_⟩,fun σ=> .cons (v0 σ) (.cons (v1 σ) (.cons (v2 σ) (.cons (v3 σ) (.cons (v4 σ) .nil))))⟩
 simp only [DocP.ts,List.mem_cons,List.not_mem_nil,or_false] at hs
 rcases hs with rfl | rfl | rfl | rfl
 ·exact p1
 ·exact p2
 ·exact p3
 ·exact p4
end
theorem law_calls {D:Type} {enc:TypeId × Value→D} {W:World} {base:Nat} {v0 v1:Value} {d0 d1:DataW D} {p0 p1:List MemPlace} (i:Int) (s:ByteArray) (h0:DataW.Trod enc Tryz.prog W 0 (fun _=>true) true 22 v0 d0 p0) (hok0:Value.okWide Tryz.prog W .any base 22 v0) (h1:DataW.Trod enc Tryz.prog W 0 (fun _=>true) true 23 v1 d1 p1) (hok1:Value.okWide Tryz.prog W .any base 23 v1) (hL:laidMet Tryz.prog Rows.segmentDocsRow.laid W):Calls Tryz.prog 3 #[v0,v1, .string s, .int .i64 i] W fun e W'=>e= .returned (.bool true)∧Below W.heap.size W W':=by
 have hR:=laid_rel hL
 rw [laid_eq,H0_eq] at hR
 obtain ⟨σ1,H1,a,ds,hR1,hfz1,hO1,ext1,mo1,hvr1,hsl1,hpr1,hln1⟩:=arg_slice dc (fun x:DocP=>(∀ b∈x.id,b<256)∧ ∀ s∈x.ts, ∀ b∈s,b<256) Tryz.underlying22 cDoc (by decide) (fun x=>⟨rfl,rfl⟩) open_doc h0 hok0 hR H0_fz H0_ok
 obtain ⟨σ2,H2,b,gone,hR2,hfz2,hO2,ext2,mo2,hvr2,hsl2,hpr2,hln2⟩:=arg_slice sc1 (fun x:List Nat=>(∀ b∈x,b<256)∧x.length≤maxLen) Tryz.underlying23 cStr (by decide) (fun x=>⟨rfl,rfl⟩) (open_str1 Tryz.underlying9) h1 hok1 hR1 hfz1 hO1
 obtain ⟨k,v',H3,hr,rfl⟩:=cal_runs (Q:=fun v=>v= .bool true) (law_ok (id:=strN s) (i:=i) (H0_laid.mono (mo1.trans mo2)) (hsl1.mono mo2) hsl2 hln2 hpr1) hO2
 rcases env_ok k _ _ _ _ _ hr σ2 W #[v0,v1, .string s, .int .i64 i] hR2 (.cons (hvr1.mono ext2) (.cons hvr2 (.cons (.str s) (.cons (.int _ _) .nil)))) with ⟨_,hc⟩ | ⟨v,w',h1,_⟩
 ·refine hc.mono ?_
  rintro e W' ⟨σ3,v3,rfl,hv,_,hf⟩
  cases hv
  obtain ⟨k1,k2,k3,k4,k5⟩:=fr_keeps hfz2 hf
  exact ⟨rfl,k1,k2,k3,k4,k5⟩
 ·rw [ent_of Tryz.func3 (by kernel_rfl) (of_decide_eq_true (by kernel_rfl))] at h1
  cases h1
theorem own:ownKnob Tryz.prog.godebug=none:=by kernel_rfl
theorem laidOutQ:laidOutB Tryz.prog=true:=by kernel_rfl
set_option maxRecDepth 100000 in
theorem law_lifted (os:Os) (started:os.Started) (H:Type) (enc:TypeId × Value→H):
  ReturnsInHanded {} Tryz.checked os 3 .any (fun w args=>(Rows.segmentDocsSpec.pre enc Tryz.prog Tryz.f3 Rows.segmentDocsRow.domain false w args∧laidMetH Tryz.prog Rows.segmentDocsRow.laid w)∧sizedMet enc Tryz.prog Tryz.f3 (OpenSpec.ofChange Rows.segmentDocsSpec) false w args)
   (Rows.segmentDocsSpec.post enc Tryz.prog Tryz.f3 false true false false):=by
 refine returnsInHanded_of_change_and (C:=Tryz.checked) (X:=fun w _=>laidMetH Tryz.prog Rows.segmentDocsRow.laid w) (fun _ _ _ hh h=>h.of_heap hh) own started (by kernel_rfl) Tryz.func3
  (ChangeSpec.witness_shaped (enc:=enc) (C:=Tryz.checked) (os:=os) (X:=fun w _=>laidMetH Tryz.prog Rows.segmentDocsRow.laid w) false (World.laidAll Tryz.prog os Rows.segmentDocsRow.laid) #[.slice none 0 0, .slice none 0 0, .string ByteArray.empty, .int .i64 0] 8 (World.laidAll_os _ _ _)
   (World.shaped_of_ZipB (by kernel_rfl) (by kernel_rfl)) (by kernel_rfl) (by kernel_rfl) (by kernel_rfl)
   (by rw [MakeChecks.laidMetH_plain _ _ _ (by kernel_rfl)];exact laidMet_laidAll _ (by kernel_rfl) (by kernel_rfl))) ?_
 intro W base args ds gs before hval0 hW hc _ hL _
 have hval: ∀ (j:Nat) t v,Tryz.f3.params[j]? =some t→args[j]? =some v→Value.okWide Tryz.prog W .any base t v:=hval0
 have hW':=hW
 obtain ⟨p,q,hA0,hV,rfl,_,_⟩:=hW
 have hA:DataW.TrodAll enc Tryz.prog W 0 (fun _=>true) true Tryz.f3.params.toList args.toList ds p:=hA0
 rw [Tryz.params3] at hA hval
 obtain ⟨v0,v1,v2,v3,d0,d1,d2,d3,p0,p1,p2,p3,rfl,rfl,rfl,h0,h1,h2,h3⟩:=trodAll_four hA
 obtain ⟨rfl,rfl⟩:=trodVars_none hV
 obtain ⟨s,rfl,rfl,rfl,y2⟩:=open_string Tryz.underlying9 (hval 2 9 v2 rfl rfl) h2
 obtain ⟨i,rfl,rfl,rfl,y3⟩:=open_int Tryz.underlying3 (hval 3 3 v3 rfl rfl) h3
 have lt0: ∀ z∈p0,z.block<W.heap.size:=by obtain ⟨m,hm⟩:=h0;exact DataW.trod_lt m _ _ _ hm
 have lt1: ∀ z∈p1,z.block<W.heap.size:=by obtain ⟨m,hm⟩:=h1;exact DataW.trod_lt m _ _ _ hm
 rw [MakeChecks.laidMetH_plain _ _ _ (by kernel_rfl)] at hL
 refine (law_calls i s h0 (hval 0 22 v0 rfl rfl) h1 (hval 1 23 v1 rfl rfl) hL).mono fun e W' ⟨he,bel⟩=>?_
 subst he
 exact ⟨_,rfl,_,_,_,[],_,[],hW',trodAll_mk1 (shut_bool Tryz.underlying4 _),trodAll_mk4 (Below.trod laidOutQ (by kernel_rfl) (of_decide_eq_true (by kernel_rfl)) h0 bel lt0) (Below.trod laidOutQ (by kernel_rfl) (of_decide_eq_true (by kernel_rfl)) h1 bel lt1) (shut_string Tryz.underlying9 y2) (shut_int Tryz.underlying3 y3),rfl,bel.frame _,fun h=>by cases h⟩
end Go.Proofs.YtgfcgkbbmcgjmaaGreatDoor.Eng
