/- The engine, part Eb: an interpreter of the program's elaborated code over a heap of its own, and that what it answers the machine answers. -/
import Derived.Laws.Strings
import Derived.Laws.StructEq
import Derived.ChangeKeysEq
import Derived.Laws.BytesString
import Derived.Laws.Append
import Derived.Test.YtgfcgkbbmcgjmaaGreatDoorDEa
namespace Go.Proofs.YtgfcgkbbmcgjmaaGreatDoor.Eng
set_option linter.unusedVariables false
set_option linter.unusedSimpArgs false
section
variable {P:Program} {w:World}
theorem run_info {t:TypeId} {i:TypeInfo} (h:P.info? t=some i):(typeInfo t).run P w= .ok i w:=by
 unfold typeInfo program
 show Sem.run P (bind (Sem.program Sem.pure) _) w=_
 rw [Sem.run_bind]
 simp only [Sem.run,Result.andThen_ok,h]
 rfl
theorem run_under {t:TypeId} {d:TypeDesc} (h:P.underlying t=some d):(underlying t).run P w= .ok d w:=by
 unfold underlying program
 show Sem.run P (bind (Sem.program Sem.pure) _) w=_
 rw [Sem.run_bind]
 simp only [Sem.run,Result.andThen_ok,h]
 rfl
theorem run_size {t:TypeId} {n:Nat} (h:tSize P t=some n):(sizeOf t).run P w= .ok n w:=by
 unfold tSize at h
 cases e:P.info? t with
 | none=>rw [e] at h;cases h
 | some i=>
  rw [e] at h
  obtain rfl:=Option.some.inj h
  unfold sizeOf
  show Sem.run P (bind (typeInfo t) _) w=_
  rw [Sem.run_bind,run_info e]
  rfl
theorem run_agg {t:TypeId} {b:Bool} (h:tAgg P t=some b):(isAgg t).run P w= .ok b w:=by
 unfold tAgg at h
 cases e:P.underlying t with
 | none=>rw [e] at h;cases h
 | some d=>
  unfold isAgg
  show Sem.run P (bind (underlying t) _) w=_
  rw [Sem.run_bind,run_under e]
  rw [e] at h
  cases d <;> (obtain rfl:=Option.some.inj h;rfl)
theorem run_zero {t:TypeId} {z:Value} (h:tZero P t=some z):(zeroValue t).run P w= .ok z w:=by
 unfold tZero at h
 cases e:P.info? t with
 | none=>rw [e] at h;cases h
 | some i=>
  rw [e] at h
  simp only at h
  unfold zeroValue
  show Sem.run P (bind (typeInfo t) _) w=_
  rw [Sem.run_bind,run_info e]
  simp only [Result.andThen_ok,h]
  rfl
theorem run_bytes {t:TypeId} {n:Nat} (h:tBytes P t=some n): ∃ i,(typeInfo t).run P w= .ok i w∧i.bytes=n:=by
 unfold tBytes at h
 cases e:P.info? t with
 | none=>rw [e] at h;cases h
 | some i=>rw [e] at h;exact ⟨i,run_info e,Option.some.inj h⟩
theorem run_loadVar {t:TypeId} {n:Nat} {g:Bool} (hn:tSize P t=some n) (hg:tAgg P t=some g) {a:Addr} {vs:List Value} (h:(Go.loadCells a n).run P w= .ok vs.toArray w) (h1:g=false→ ∃ v,vs=[v]∧w.cell? a=some v):
  (loadVar t a).run P w= .ok (if g then .agg vs.toArray else vs.headD undef) w:=by
 unfold loadVar
 show Sem.run P (bind (isAgg t) _) w=_
 rw [Sem.run_bind,run_agg hg]
 cases g with
 | true=>
  simp only [Result.andThen_ok,if_true]
  show Sem.run P (bind (sizeOf t) _) w=_
  rw [Sem.run_bind,run_size hn]
  simp only [Result.andThen_ok]
  show Sem.run P (bind (Go.loadCells a n) _) w=_
  rw [Sem.run_bind,h]
  rfl
 | false=>
  obtain ⟨v,rfl,hc⟩:=h1 rfl
  simp only [Result.andThen_ok]
  show Sem.run P (Go.load a) w=_
  unfold Go.load
  simp only [Sem.run,hc]
  rfl
end
theorem cSc_ok {σ : Sg} {v : Value} {a : AV} (h : cSc v = some a) : VR σ a v := by
  unfold cSc at h
  split at h <;> first
    | (obtain rfl := Option.some.inj h; constructor)
    | (split at h
       · rename_i q; obtain ⟨rfl, rfl⟩ := q; obtain rfl := Option.some.inj h; constructor
       · cases h)
    | cases h
theorem cScs_ok {σ:Sg}: ∀ {vs:List Value} {l:List AV},cScs vs=some l→VRs σ l vs
 | [],_,h=>by obtain rfl:=Option.some.inj h;exact .nil
 | v::vs,l,h=>by
  rw [cScs] at h
  split at h
  ·rename_i a ha
   split at h
   ·rename_i r hr
    obtain rfl:=Option.some.inj h
    exact .cons (cSc_ok ha) (cScs_ok hr)
   ·cases h
  ·cases h
theorem cSc_sc {v : Value} {a : AV} (h : cSc v = some a) : a.sc = true := by
  unfold cSc at h
  split at h <;> first
    | (obtain rfl := Option.some.inj h; rfl)
    | (split at h
       · obtain rfl := Option.some.inj h; rfl
       · cases h)
    | cases h
theorem cScs_sc: ∀ {vs:List Value} {l:List AV},cScs vs=some l→ ∀ a∈l,a.sc=true
 | [],_,h,a,ha=>by obtain rfl:=Option.some.inj h;cases ha
 | v::vs,l,h,a,ha=>by
  rw [cScs] at h
  split at h
  ·rename_i b hb
   split at h
   ·rename_i r hr
    obtain rfl:=Option.some.inj h
    cases ha with
    | head=>exact cSc_sc hb
    | tail _ ha=>exact cScs_sc hr a ha
   ·cases h
  ·cases h
theorem cVal_ok {σ:Sg} {v:Value} {a:AV} (h:cVal v=some a):VR σ a v:=by
 unfold cVal at h
 split at h
 ·split at h
  ·rename_i l hl
   obtain rfl:=Option.some.inj h
   exact .agg _ _ (cScs_ok hl)
  ·cases h
 ·rename_i vs
  split at h
  ·rename_i q
   obtain rfl:=Option.some.inj h
   have:vs= #[]:=by
    apply Array.toList_inj.1
    exact List.length_eq_zero_iff.1 q
   subst this
   exact VR.undef
  ·cases h
 ·exact cSc_ok h
section
variable {P:Program} {σ:Sg} {H:Hp} {w:World} {nt:Nat} {T:Tr AV} {a:Act}
theorem opd_ok (hR:Rel (gp P) σ H w) (hT:TR σ nt T a.tmps) {x:Operand} {y:Opd} (h:cOpd P x=some y):VR σ (y.ev T) (a.eval x):=by
 cases x with
 | tmp t=>obtain rfl:=Option.some.inj h;exact hT.get t
 | const v=>
  simp only [cOpd] at h
  split at h
  ·rename_i b hb;obtain rfl:=Option.some.inj h;exact cVal_ok hb
  ·cases h
 | global g=>
  simp only [cOpd] at h
  split at h
  ·rename_i hg
   obtain rfl:=Option.some.inj h
   obtain ⟨r,hr⟩:=hR.gl g hg
   exact .ptr g 0 _ hr
  ·cases h
 | func f=>obtain rfl:=Option.some.inj h;exact .func f [] [] #[] #[] .nil .nil
theorem opds_ok (hR:Rel (gp P) σ H w) (hT:TR σ nt T a.tmps): ∀ {xs:List Operand} {ys:List Opd},cOpds P xs=some ys→VRs σ (evs T ys) (xs.map a.eval)
 | [],_,h=>by obtain rfl:=Option.some.inj h;exact .nil
 | x::xs,ys,h=>by
  rw [cOpds] at h
  split at h
  ·rename_i b hb
   split at h
   ·rename_i r hr
    obtain rfl:=Option.some.inj h
    exact .cons (opd_ok hR hT hb) (opds_ok hR hT hr)
   ·cases h
  ·cases h
def Out (P:Program) (o:Oper) (a:Act) (σ:Sg) (H:Hp) (w:World) (v:AV) (H':Hp):Prop:=
 ∃ σ' v' w' nx,(execOp a.eval o).run P w= .ok nx w'∧(nx= .value v'∨nx= .skip∧v'=undef)∧VR σ' v v'∧Rel (gp P) σ' H' w'∧Fr σ H w σ' H' w'
theorem Out.pure {o:Oper} {v:AV} {v':Value} (hR:Rel (gp P) σ H w) (h:(execOp a.eval o).run P w= .ok (.value v') w) (hv:VR σ v v'):Out P o a σ H w v H:=
 ⟨σ,v',w,_,h, .inl rfl,hv,hR,Fr.refl _ _ _⟩
theorem run_v {s:Sem Value} {v:Value} {w':World} (h:s.run P w= .ok v w'):(do Pure.pure (Next.value (←s)):Sem Next).run P w= .ok (.value v) w':=by
 show Sem.run P (bind s _) w=_
 rw [Sem.run_bind,h];rfl
theorem run_u {s:Sem Unit} {w':World} (h:s.run P w= .ok () w'):(do s;Pure.pure Next.skip:Sem Next).run P w= .ok .skip w':=by
 show Sem.run P (bind s _) w=_
 rw [Sem.run_bind,h];rfl
theorem ok_move {o:Oper} {x:Operand} {y:Opd} {v:AV} {H':Hp} (ho:o.op= .move x∨o.op= .assign x) (hx:cOpd P x=some y) (hR:Rel (gp P) σ H w) (hT:TR σ nt T a.tmps) (hr:ikRun T H (.move y)=some (v,H')):Out P o a σ H w v H':=by
 simp only [ikRun,Option.some.injEq,Prod.mk.injEq] at hr
 obtain ⟨rfl,rfl⟩:=hr
 exact .pure hR (by unfold execOp;rcases ho with ho | ho <;> (rw [ho];rfl)) (opd_ok hR hT hx)
theorem ok_pick {o:Oper} {c x z:Operand} {c' x' z':Opd} {v:AV} {H':Hp} (ho:o.op= .pick c x z) (hc:cOpd P c=some c') (hx:cOpd P x=some x') (hz:cOpd P z=some z') (hR:Rel (gp P) σ H w) (hT:TR σ nt T a.tmps) (hr:ikRun T H (.pick c' x' z')=some (v,H')):Out P o a σ H w v H':=by
 have h1:=opd_ok hR hT hc
 have h2:=opd_ok hR hT hx
 have h3:=opd_ok hR hT hz
 simp only [ikRun] at hr
 generalize hcv:c'.ev T=cv at h1 hr
 generalize hce:a.eval c=ce at h1
 cases h1 <;> try (simp only [reduceCtorEq] at hr)
 rename_i b
 cases b <;> simp only [Option.some.injEq,Prod.mk.injEq] at hr
 ·obtain ⟨rfl,rfl⟩:=hr
  exact .pure hR (by unfold execOp;rw [ho];simp only [hce];rfl) h3
 ·obtain ⟨rfl,rfl⟩:=hr
  exact .pure hR (by unfold execOp;rw [ho];simp only [hce];rfl) h2
theorem ok_mkfun {o:Oper} {f:Nat} {first caps:Array Operand} {l r:List Opd} {v:AV} {H':Hp} (ho:o.op= .makeFunc (.func f) first caps) (h1:cOpds P first.toList=some l) (h2:cOpds P caps.toList=some r) (hR:Rel (gp P) σ H w) (hT:TR σ nt T a.tmps) (hr:ikRun T H (.mkfun f l r)=some (v,H')):Out P o a σ H w v H':=by
 simp only [ikRun,Option.some.injEq,Prod.mk.injEq] at hr
 obtain ⟨rfl,rfl⟩:=hr
 refine .pure hR (v':= .func (.func f) (first.map a.eval) (caps.map a.eval)) (by unfold execOp;rw [ho];rfl) (.func f _ _ _ _ ?_ ?_)
 ·simpa using opds_ok hR hT h1
 ·simpa using opds_ok hR hT h2
theorem ok_un {o:Oper} {op:UnOp} {t:TypeId} {x:Operand} {y:Opd} {v:AV} {H':Hp} (ho:o.op= .unOp op t x) (hx:cOpd P x=some y) (hR:Rel (gp P) σ H w) (hT:TR σ nt T a.tmps) (hr:ikRun T H (.un op y)=some (v,H')):Out P o a σ H w v H':=by
 have h1:=opd_ok hR hT hx
 simp only [ikRun] at hr
 generalize y.ev T=yv at h1 hr
 generalize he:a.eval x=xv at h1
 have key: ∀ v',(Op.unary op xv).run P w= .ok v' w→(execOp a.eval o).run P w= .ok (.value v') w:=fun v' h=>by
  unfold execOp;rw [ho];simp only [he];exact run_v h
 cases op <;> cases h1 <;> simp only [un,Option.some.injEq,Prod.mk.injEq,reduceCtorEq] at hr
 ·obtain ⟨rfl,rfl⟩:=hr
  rename_i k n
  exact .pure hR (key _ rfl) (by rw [wrapF_eq];exact .int _ _)
 ·obtain ⟨rfl,rfl⟩:=hr
  rename_i k n
  exact .pure hR (key _ rfl) (by rw [lxorF_eq];exact .int _ _)
 ·obtain ⟨rfl,rfl⟩:=hr
  exact .pure hR (key _ rfl) (.bool _)
theorem ok_toInt {o:Oper} {s d:TypeId} {x:Operand} {y:Opd} {k0 k:IntKind} {v:AV} {H':Hp} (ho:o.op= .convert s d x) (hs:P.underlying s=some (.int k0)) (hd:P.underlying d=some (.int k)) (hx:cOpd P x=some y) (hR:Rel (gp P) σ H w) (hT:TR σ nt T a.tmps) (hr:ikRun T H (.toInt k y)=some (v,H')):Out P o a σ H w v H':=by
 have h1:=opd_ok hR hT hx
 simp only [ikRun] at hr
 generalize y.ev T=yv at h1 hr
 generalize he:a.eval x=xv at h1
 cases h1 <;> simp only [Option.some.injEq,Prod.mk.injEq,reduceCtorEq] at hr
 obtain ⟨rfl,rfl⟩:=hr
 refine .pure hR (v':= .int k (k.wrap _)) ?_ (by rw [wrapF_eq];exact .int _ _)
 unfold execOp;rw [ho];simp only [he]
 refine run_v ?_
 unfold convert
 show Sem.run P (bind (underlying s) _) w=_
 rw [Sem.run_bind,run_under hs]
 simp only [Result.andThen_ok]
 show Sem.run P (bind (underlying d) _) w=_
 rw [Sem.run_bind,run_under hd]
 rfl
theorem ok_strstr {o:Oper} {s d:TypeId} {x:Operand} {y:Opd} {v:AV} {H':Hp} (ho:o.op= .convert s d x) (hs:P.underlying s=some .string) (hd:P.underlying d=some .string) (hx:cOpd P x=some y) (hR:Rel (gp P) σ H w) (hT:TR σ nt T a.tmps) (hr:ikRun T H (.movestr y)=some (v,H')):Out P o a σ H w v H':=by
 have h1:=opd_ok hR hT hx
 simp only [ikRun] at hr
 generalize y.ev T=yv at h1 hr
 generalize he:a.eval x=xv at h1
 cases h1 <;> simp only [Option.some.injEq,Prod.mk.injEq,reduceCtorEq] at hr
 obtain ⟨rfl,rfl⟩:=hr
 rename_i s0
 refine .pure hR (v':= .string s0) ?_ (.str _)
 unfold execOp;rw [ho];simp only [he]
 refine run_v ?_
 unfold convert
 show Sem.run P (bind (underlying s) _) w=_
 rw [Sem.run_bind,run_under hs]
 simp only [Result.andThen_ok]
 show Sem.run P (bind (underlying d) _) w=_
 rw [Sem.run_bind,run_under hd]
 rfl
theorem ok_ext {o:Oper} {x:Operand} {i:Nat} {y:Opd} {v:AV} {H':Hp} (ho:o.op= .extract x i) (hx:cOpd P x=some y) (hR:Rel (gp P) σ H w) (hT:TR σ nt T a.tmps) (hr:ikRun T H (.ext y i)=some (v,H')):Out P o a σ H w v H':=by
 have h1:=opd_ok hR hT hx
 simp only [ikRun] at hr
 generalize y.ev T=yv at h1 hr
 generalize he:a.eval x=xv at h1
 cases h1 <;> simp only [reduceCtorEq] at hr
 rename_i l vs hl
 have hnth: ∀ (l:List AV) (i:Nat),nthV l i=l[i]? :=by
  intro l
  induction l with
  | nil=>intro i;rfl
  | cons a l ih=>intro i;cases i <;> simp [nthV,ih]
 rw [hnth] at hr
 cases e:l[i]? with
 | none=>rw [e] at hr;cases hr
 | some u=>
  rw [e] at hr
  simp only [Option.some.injEq,Prod.mk.injEq] at hr
  obtain ⟨rfl,rfl⟩:=hr
  obtain ⟨v',e2,hv⟩:=hl.get i _ e
  refine .pure hR (v':=v') ?_ hv
  unfold execOp;rw [ho];simp only [he]
  refine run_v ?_
  unfold Instr.extract
  simp at e2
  simp only [e2]
  rfl
theorem ok_nilc {o:Oper} {x:Operand} {y:Opd} {v:AV} {H':Hp} (ho:o.op= .nilCheck x) (hx:cOpd P x=some y) (hR:Rel (gp P) σ H w) (hT:TR σ nt T a.tmps) (hr:ikRun T H (.nilc y)=some (v,H')):Out P o a σ H w v H':=by
 have h1:=opd_ok hR hT hx
 simp only [ikRun] at hr
 generalize y.ev T=yv at h1 hr
 generalize he:a.eval x=xv at h1
 cases h1 <;> simp only [Option.some.injEq,Prod.mk.injEq,reduceCtorEq] at hr
 ·obtain ⟨rfl,rfl⟩:=hr
  rename_i l hl
  exact .pure hR (by unfold execOp;rw [ho];simp only [he];rfl) (.ptr _ _ _ hl)
 ·obtain ⟨rfl,rfl⟩:=hr
  rename_i h2 h3
  exact .pure hR (by unfold execOp;rw [ho];simp only [he];rfl) (.func _ _ _ _ _ h2 h3)
end
section
variable {P:Program} {σ:Sg} {H:Hp} {w:World} {nt:Nat} {T:Tr AV} {a:Act}
theorem run_guard {op:BinOp} {t:TypeId} {x y:Operand} {u v:Value} (h1: ∀ c,u≠ .agg c) (h2:u≠ .nilIface):(eqGuard op t x y u v).run P w= .ok () w:=by
 unfold eqGuard
 cases u <;> first | exact absurd rfl (h1 _) | exact absurd rfl h2 | (cases op <;> rfl)
theorem toList_size (s:ByteArray):s.toList=s.data.toList:=Go.ByteArray.toList_eq s
theorem less_eq: ∀ a b:List UInt8,Op.bytesLess a b=ltL (a.map (·.toNat)) (b.map (·.toNat))
 | [],[]=>rfl
 | _::_,[]=>rfl
 | [],_::_=>rfl
 | a::l,b::r=>by
  simp only [Op.bytesLess,List.map_cons,ltL,less_eq l r]
  have h1:(decide (a<b))=Nat.blt a.toNat b.toNat:=by
   rw [Bool.eq_iff_iff,decide_eq_true_eq,blt_t,UInt8.lt_iff_toNat_lt]
  have h2:(a == b)=Nat.beq a.toNat b.toNat:=by
   rw [Bool.eq_iff_iff,beq_iff_eq,Nat.beq_eq];exact UInt8.toNat_inj.symm
  rw [h1,h2]
  cases Nat.blt a.toNat b.toNat <;> cases Nat.beq a.toNat b.toNat <;> simp
theorem eq_eq (a b:List UInt8):(a == b)=eqL (a.map (·.toNat)) (b.map (·.toNat)):=by
 rw [eqL_eq,Bool.eq_iff_iff,beq_iff_eq,beq_iff_eq]
 constructor
 ·rintro rfl;rfl
 ·intro h
  induction a generalizing b with
  | nil=>cases b <;> first | rfl | cases h
  | cons x a ih=>cases b with
   | nil=>cases h
   | cons y b=>
    simp only [List.map_cons,List.cons.injEq] at h
    rw [UInt8.toNat_inj.1 h.1,ih b h.2]
theorem run_binI {op:BinOp} {k k':IntKind} {x y:Int} {v:AV} (t:TypeId) (h:binI op k x k' y=some v): ∃ v',(binOp op t (.int k x) (.int k' y)).run P w= .ok v' w∧VR σ v v':=by
 have hk: ∀ {α:Type} (s s':α),Nat.beq (top k) (top k')=true→(if k≠k' then s else s')=s':=fun s s' q=>if_neg (fun hn=>hn (top_inj (Tr.beq_t q)))
 unfold binI at h
 split at h
 ·split at h
  ·cases h
  ·rename_i hy
   rw [ltI_eq] at hy
   obtain rfl:=Option.some.inj h
   refine ⟨.int k (k.wrap (x*2^min y.toNat k.bits)),?_,by rw [shlF_eq,minN_eq,bitsI_eq];exact .int _ _⟩
   unfold binOp
   simp only [Op.shift]
   rw [if_neg (by simpa using hy)]
   rfl
 ·split at h
  ·cases h
  ·rename_i hy
   rw [ltI_eq] at hy
   obtain rfl:=Option.some.inj h
   refine ⟨.int k (x.fdiv (2^min y.toNat k.bits)),?_,by rw [shrF_eq,minN_eq,bitsI_eq];exact .int _ _⟩
   unfold binOp
   simp only [Op.shift]
   rw [if_neg (by simpa using hy)]
   rfl
 ·split at h
  ·cases h
  ·rename_i hq
   have hkk:=top_inj (Tr.beq_t hq)
   subst hkk
   cases op <;> simp only [reduceCtorEq,Option.some.injEq] at h
   all_goals try subst h
   ·exact ⟨_,by unfold binOp;simp only [ne_eq,not_true_eq_false,if_false];rfl,by rw [wrapF_eq];exact .int _ _⟩
   ·exact ⟨_,by unfold binOp;simp only [ne_eq,not_true_eq_false,if_false];rfl,by rw [wrapF_eq];exact .int _ _⟩
   ·exact ⟨_,by unfold binOp;simp only [ne_eq,not_true_eq_false,if_false];rfl,by rw [wrapF_eq];exact .int _ _⟩
   ·split at h
    ·cases h
    ·rename_i hy
     rw [eqI_eq] at hy
     have hy0:y≠0:=by simpa using hy
     obtain rfl:=Option.some.inj h
     exact ⟨_,by unfold binOp;simp only [ne_eq,not_true_eq_false,if_false,Op.intDiv,hy0];rfl,by rw [wrapF_eq];exact .int _ _⟩
   ·split at h
    ·cases h
    ·rename_i hy
     rw [eqI_eq] at hy
     have hy0:y≠0:=by simpa using hy
     obtain rfl:=Option.some.inj h
     exact ⟨_,by unfold binOp;simp only [ne_eq,not_true_eq_false,if_false,Op.intDiv,hy0];rfl, .int _ _⟩
   ·exact ⟨_,by unfold binOp;simp only [ne_eq,not_true_eq_false,if_false];rfl,by rw [landF_eq];exact .int _ _⟩
   ·exact ⟨_,by unfold binOp;simp only [ne_eq,not_true_eq_false,if_false];rfl,by rw [lorF_eq];exact .int _ _⟩
   ·exact ⟨_,by unfold binOp;simp only [ne_eq,not_true_eq_false,if_false];rfl,by rw [lxorF_eq];exact .int _ _⟩
   ·exact ⟨_,by unfold binOp;simp only [ne_eq,not_true_eq_false,if_false];rfl, .int _ _⟩
   ·exact ⟨_,by unfold binOp;simp only [ne_eq,not_true_eq_false,if_false];rfl,by rw [eqI_eq];exact .bool _⟩
   ·exact ⟨_,by unfold binOp;simp only [ne_eq,not_true_eq_false,if_false];rfl,by rw [eqI_eq];exact .bool _⟩
   ·exact ⟨.bool (x<y),by unfold binOp;simp only [ne_eq,not_true_eq_false,if_false];rfl,by rw [ltI_eq];exact .bool _⟩
   ·refine ⟨.bool (x≤y),by unfold binOp;simp only [ne_eq,not_true_eq_false,if_false];rfl,?_⟩
    rw [ltI_eq,show (!decide (y<x))=decide (x≤y) by rw [←decide_not];congr 1;simp];exact .bool _
   ·exact ⟨.bool (y<x),by unfold binOp;simp only [ne_eq,not_true_eq_false,if_false];rfl,by rw [ltI_eq];exact .bool _⟩
   ·refine ⟨.bool (y≤x),by unfold binOp;simp only [ne_eq,not_true_eq_false,if_false];rfl,?_⟩
    rw [ltI_eq,show (!decide (x<y))=decide (y≤x) by rw [←decide_not];congr 1;simp];exact .bool _
theorem run_binS {op:BinOp} {x y:ByteArray} {v:AV} (t:TypeId) (h:binS op (x.data.toList.map (·.toNat)) (y.data.toList.map (·.toNat))=some v): ∃ v',(binOp op t (.string x) (.string y)).run P w= .ok v' w∧VR σ v v':=by
 have he:=eq_eq x.data.toList y.data.toList
 have hl:=less_eq x.data.toList y.data.toList
 have hrun: ∀ v',(Op.stringOp op x y).run P w= .ok v' w→(binOp op t (.string x) (.string y)).run P w= .ok v' w:=fun v' h=>by
  unfold binOp;cases op <;> exact h
 cases op <;> simp only [binS,reduceCtorEq,Option.some.injEq] at h
 all_goals try subst h
 ·split at h
  ·rename_i hq
   obtain rfl:=Option.some.inj h
   rw [Nat.ble_eq] at hq
   simp at hq
   refine ⟨.string (x++y),hrun _ ?_,?_⟩
   ·unfold Op.stringOp
    simp only
    rw [if_neg (by
     have h1:x.size=x.data.size:=rfl
     have h2:y.size=y.data.size:=rfl
     have h3:IntKind.i64.max=9223372036854775807:=by decide
     rw [h3];omega)]
    rfl
   ·have:(x++y).data.toList.map (·.toNat)=x.data.toList.map (·.toNat)++y.data.toList.map (·.toNat):=by
     rw [ByteArray.data_append,Array.toList_append,List.map_append]
    rw [←this];exact .str _
  ·cases h
 all_goals first
  | exact ⟨_,hrun _ rfl,by simp only [toList_size,he,hl];exact .bool _⟩
theorem ok_bin {o:Oper} {op:BinOp} {t ty:TypeId} {x y:Operand} {x' y':Opd} {v:AV} {H':Hp} (ho:o.op= .binOp op t x y ty) (hx:cOpd P x=some x') (hy:cOpd P y=some y') (hR:Rel (gp P) σ H w) (hT:TR σ nt T a.tmps) (hr:ikRun T H (.bin op x' y')=some (v,H')):Out P o a σ H w v H':=by
 have h1:=opd_ok hR hT hx
 have h2:=opd_ok hR hT hy
 simp only [ikRun] at hr
 generalize x'.ev T=xv at h1 hr
 generalize y'.ev T=yv at h2 hr
 generalize hxe:a.eval x=xe at h1
 generalize hye:a.eval y=ye at h2
 have key: ∀ v',xe≠ .nilIface→(∀ c,xe≠ .agg c)→(binOp op t xe ye).run P w= .ok v' w→(execOp a.eval o).run P w= .ok (.value v') w:=fun v' g1 g2 h=>by
  unfold execOp;rw [ho];simp only [hxe,hye]
  refine run_v ?_
  show Sem.run P (bind (eqGuard op t x y xe ye) _) w=_
  rw [Sem.run_bind,run_guard g2 g1]
  exact h
 cases hb:bin op xv yv with
 | none=>rw [hb] at hr;cases hr
 | some u=>
  rw [hb] at hr
  simp only [Option.some.injEq,Prod.mk.injEq] at hr
  obtain ⟨rfl,rfl⟩:=hr
  unfold bin at hb
  split at hb
  ·cases h1;cases h2
   obtain ⟨v',g1,g2⟩:=run_binI (P:=P) (w:=w) (σ:=σ) t hb
   exact .pure hR (key _ (by simp) (by simp) g1) g2
  ·cases h1;cases h2
   obtain ⟨v',g1,g2⟩:=run_binS (P:=P) (w:=w) (σ:=σ) t hb
   exact .pure hR (key _ (by simp) (by simp) g1) g2
  ·cases hb
def eqcOf:EqC→TypeDesc→Prop
 | .bool,d=>d= .bool
 | .ptr,d=> ∃ e,d= .pointer e
 | .slice,d=> ∃ e,d= .slice e
 | .func,d=> ∃ a b c,d= .func a b c
 | .flat _,_=>False
theorem ok_eqv {o:Oper} {c:EqC} {neg:Bool} {t ty:TypeId} {d:TypeDesc} {x y:Operand} {x' y':Opd} {v:AV} {H':Hp} {op:BinOp} (ho:o.op= .binOp op t x y ty) (hop:op=match neg with | true=> .neq | false=> .eql) (hd:P.underlying t=some d) (hc:eqcOf c d) (hx:cOpd P x=some x') (hy:cOpd P y=some y') (hR:Rel (gp P) σ H w) (hT:TR σ nt T a.tmps) (hr:ikRun T H (.eqv c neg x' y')=some (v,H')):Out P o a σ H w v H':=by
 have h1:=opd_ok hR hT hx
 have h2:=opd_ok hR hT hy
 simp only [ikRun] at hr
 generalize x'.ev T=xv at h1 hr
 generalize y'.ev T=yv at h2 hr
 generalize hxe:a.eval x=xe at h1
 generalize hye:a.eval y=ye at h2
 cases hb:eqC c xv yv with
 | none=>rw [hb] at hr;cases hr
 | some b=>
  rw [hb] at hr
  simp only [Option.some.injEq,Prod.mk.injEq] at hr
  obtain ⟨rfl,rfl⟩:=hr
  have key:xe≠ .nilIface→(∀ c,xe≠ .agg c)→(∀ k n,xe≠ .int k n)→(∀ s,xe≠ .string s)→(∀ k n,xe≠ .float k n)→(∀ k n m,xe≠ .complex k n m)→(Op.equalIn (9999+1) t xe ye).run P w= .ok b w→(execOp a.eval o).run P w= .ok (.value (.bool (negB neg b))) w:=fun g1 g2 g3 g4 g5 g6 h=>by
   unfold execOp;rw [ho];simp only [hxe,hye]
   subst hop
   refine run_v ?_
   show Sem.run P (bind (eqGuard _ t x y xe ye) _) w=_
   rw [Sem.run_bind,run_guard g2 g1]
   simp only [Result.andThen_ok]
   have hq:(Op.equal t xe ye).run P w= .ok b w:=h
   cases neg
   ·have:binOp .eql t xe ye=(do pure (.bool (←Op.equal t xe ye))):=by
     unfold binOp
     cases xe <;> first | exact absurd rfl (g3 _ _) | exact absurd rfl (g4 _) | exact absurd rfl (g5 _ _) | exact absurd rfl (g6 _ _ _) | (cases ye <;> rfl)
    simp only [this]
    show Sem.run P (bind (Op.equal t xe ye) _) w=_
    rw [Sem.run_bind,hq];rfl
   ·have:binOp .neq t xe ye=(do pure (.bool (!(←Op.equal t xe ye)))):=by
     unfold binOp
     cases xe <;> first | exact absurd rfl (g3 _ _) | exact absurd rfl (g4 _) | exact absurd rfl (g5 _ _) | exact absurd rfl (g6 _ _ _) | (cases ye <;> rfl)
    simp only [this]
    show Sem.run P (bind (Op.equal t xe ye) _) w=_
    rw [Sem.run_bind,hq];rfl
  have go:(Op.equalIn (9999+1) t xe ye).run P w= .ok b w:=by
   unfold Op.equalIn
   show Sem.run P (bind (underlying t) _) w=_
   rw [Sem.run_bind,run_under hd]
   simp only [Result.andThen_ok]
   unfold eqC at hb
   split at hb <;> first | exact (show False from hc).elim | simp only [reduceCtorEq,Option.some.injEq] at hb
   all_goals (subst hb;cases h1;cases h2)
   all_goals first
    | (obtain rfl:=hc;rename_i p q;cases p <;> cases q <;> rfl)
    | (obtain ⟨e,rfl⟩:=hc;rfl)
    | (obtain ⟨e,f,g,rfl⟩:=hc;rfl)
  refine .pure hR (key ?_ ?_ ?_ ?_ ?_ ?_ go) (.bool _)
  all_goals
   unfold eqC at hb
   split at hb
   all_goals first | (cases hb;done) | skip
   all_goals first | exact (show False from hc).elim | (cases h1;simp)
theorem run_eqCell (w:World) (d:Nat) {t:TypeId} {z a b:AV} {x y:Value} {c:Bool} (hz:flatT P t=some z) (he:eqCell z a b=some c) (ha:VR σ a x) (hb:VR σ b y):(Op.equalIn (d+1) t x y).run P w= .ok c w∧P.plainKey t=true:=by
 have no: ∀ {u:Option Bool} {p:Prop},u=some c→u=none→p:=fun h1 h2=>by rw [h2] at h1;cases h1
 unfold flatT at hz
 split at hz
 ·rename_i hu
  obtain rfl:=Option.some.inj hz
  cases ha <;> first | exact no he rfl | skip
  rename_i p
  cases hb <;> first | exact no he rfl | skip
  rename_i q
  refine ⟨?_,by simp [Program.plainKey,hu]⟩
  rw [run_equalIn_bool w d t _ _ hu]
  cases p <;> cases q <;> (obtain rfl:_=c:=Option.some.inj he;rfl)
 ·rename_i k hu
  obtain rfl:=Option.some.inj hz
  cases ha <;> first | exact no he rfl | skip
  rename_i k1 p
  cases hb <;> first | exact no he rfl | skip
  rename_i k2 q
  cases h1:Nat.beq (top k) (top k1) with
  | false=>simp only [eqCell,h1] at he;cases he
  | true=>
   cases h2:Nat.beq (top k) (top k2) with
   | false=>simp only [eqCell,h1,h2] at he;cases he
   | true=>
    simp only [eqCell,h1,h2] at he
    have e1:=top_inj (Tr.beq_t h1)
    have e2:=top_inj (Tr.beq_t h2)
    subst e1
    subst e2
    obtain rfl:=Option.some.inj he
    refine ⟨?_,by simp [Program.plainKey,hu]⟩
    rw [run_equalIn_int w d t _ _ _ _ hu,eqI_eq]
 ·rename_i hu
  obtain rfl:=Option.some.inj hz
  cases ha <;> first | exact no he rfl | skip
  rename_i p
  cases hb <;> first | exact no he rfl | skip
  rename_i q
  have he:some (eqL (p.data.toList.map (·.toNat)) (q.data.toList.map (·.toNat)))=some c:=he
  obtain rfl:=Option.some.inj he
  refine ⟨?_,by simp [Program.plainKey,hu]⟩
  rw [run_equalIn_string w d t _ _ hu,ByteArray.toList_eq,ByteArray.toList_eq,eq_eq]
 ·cases hz
theorem run_eqFlat (w:World) (d:Nat) (xs ys:Array Value): ∀ (fs:List Field) (i:Nat) (zs as bs:List AV) (b:Bool) (vx vy:List Value),flatF P i fs=some zs→eqCells zs as bs=some b→xs.toList.drop i=vx→ys.toList.drop i=vy→VRs σ as vx→VRs σ bs vy→(Op.eqFields (d+1) xs ys fs).run P w= .ok b w
 | [],i,zs,as,bs,b,vx,vy,h,he,hx,hy,ha,hb=>by
  simp only [flatF,Option.some.injEq] at h
  subst h
  cases as <;> cases bs <;> simp only [eqCells,reduceCtorEq,Option.some.injEq] at he
  subst he
  simp [Op.eqFields]
 | f::fs,i,zs,as,bs,b,vx,vy,h,he,hx,hy,ha,hb=>by
  simp only [flatF] at h
  split at h
  ·rename_i z zs' hn ho ht hr
   obtain rfl:=Option.some.inj h
   cases ha with
   | nil=>simp [eqCells] at he
   | cons h1 t1=>
    cases hb with
    | nil=>simp [eqCells] at he
    | cons h2 t2=>
     simp only [eqCells] at he
     split at he
     ·rename_i c c' hc hc'
      obtain rfl:=Option.some.inj he
      obtain ⟨r1,r2⟩:=run_eqCell (P:=P) w d ht hc h1 h2
      have hoff:f.offset=i:=Nat.eq_of_beq_eq_true ho
      have px:(part f.type xs f.offset).run P w= .ok _ w:=run_part_plain w r2 (by
       have:=congrArg (·[0]?) hx
       rw [hoff]
       simpa using this)
      have py:(part f.type ys f.offset).run P w= .ok _ w:=run_part_plain w r2 (by
       have:=congrArg (·[0]?) hy
       rw [hoff]
       simpa using this)
      have ih:=run_eqFlat w d xs ys fs (i+1) zs' _ _ c' _ _ hr hc' (by rw [←List.tail_drop,hx];rfl) (by rw [←List.tail_drop,hy];rfl) t1 t2
      have hne : f.name ≠ "_" := by simpa using hn
      simp only [Op.eqFields,hne,ne_eq,not_false_eq_true,if_true,Sem.run_bind,px,py,r1,Result.andThen_ok]
      cases c
      ·simp
      ·simpa using ih
     ·cases he
  ·cases h
theorem ok_eqvS {o:Oper} {neg:Bool} {t ty:TypeId} {fs:Array Field} {z:List AV} {x y:Operand} {x' y':Opd} {v:AV} {H':Hp} {op:BinOp} (ho:o.op= .binOp op t x y ty) (hop:op=match neg with | true=> .neq | false=> .eql) (hd:P.underlying t=some (.struct fs)) (hs:P.stoodInHeld t=false) (hg:P.eqGuardType P.depth t=false) (hz:flatF P 0 fs.toList=some z) (hx:cOpd P x=some x') (hy:cOpd P y=some y') (hR:Rel (gp P) σ H w) (hT:TR σ nt T a.tmps) (hr:ikRun T H (.eqv (.flat z) neg x' y')=some (v,H')):Out P o a σ H w v H':=by
 have h1:=opd_ok hR hT hx
 have h2:=opd_ok hR hT hy
 simp only [ikRun] at hr
 generalize x'.ev T=xv at h1 hr
 generalize y'.ev T=yv at h2 hr
 generalize hxe:a.eval x=xe at h1
 generalize hye:a.eval y=ye at h2
 cases hb:eqC (.flat z) xv yv with
 | none=>rw [hb] at hr;cases hr
 | some b=>
  rw [hb] at hr
  simp only [Option.some.injEq,Prod.mk.injEq] at hr
  obtain ⟨rfl,rfl⟩:=hr
  have no: ∀ {u:Option Bool} {p:Prop},u=some b→u=none→p:=fun h1 h2=>by rw [h2] at h1;cases h1
  cases h1 with
  | agg l1 c1 g1=>
   cases h2 with
   | agg l2 c2 g2=>
    have hb:eqCells z _ _=some b:=hb
    have hf:P.fieldsOf t=fs:=by simp [Program.fieldsOf,hd]
    have hq:(Op.equalIn 10000 t (.agg c1) (.agg c2)).run P w= .ok b w:=by
     rw [run_equalIn_struct w 9999 t c1 c2 (by rw [hf];exact hd) hs,hf]
     exact run_eqFlat w 9998 c1 c2 fs.toList 0 z _ _ b _ _ hz hb rfl rfl g1 g2
    refine .pure hR ?_ (.bool _)
    unfold execOp;rw [ho];simp only [hxe,hye]
    subst hop
    refine run_v ?_
    show Sem.run P (bind (eqGuard _ t x y (.agg c1) (.agg c2)) _) w=_
    rw [Sem.run_bind,run_eqGuard_agg w _ t x y c1 c2 hg]
    simp only [Result.andThen_ok]
    cases neg
    ·rw [run_eql_struct,hq];rfl
    ·rw [run_neq_struct,hq];rfl
   | _=>exact no hb rfl
  | _=>exact no hb rfl
end
section
variable {P:Program} {σ:Sg} {H:Hp} {w:World} {nt:Nat} {T:Tr AV} {a:Act}
theorem VRs.one_inv {u:AV} {vs:List Value} (h:VRs σ [u] vs): ∃ v,vs=[v]∧VR σ u v:=by
 cases h with
 | cons h t=>cases t;exact ⟨_,rfl,h⟩
def shown (agg:Bool) (cs:List AV):Option AV:=
 match agg with
 | true=>some (.agg cs)
 | false=>match cs with | [v]=>some v | _=>none
theorem shown_ok {agg:Bool} {cs:List AV} {v:AV} {vs:List Value} (h:shown agg cs=some v) (hv:VRs σ cs vs):VR σ v (if agg then .agg vs.toArray else vs.headD undef)∧(agg=false→ ∃ u,vs=[u]):=by
 unfold shown at h
 split at h
 ·obtain rfl:=Option.some.inj h
  exact ⟨.agg _ _ (by simpa using hv),fun q=>by cases q⟩
 ·split at h
  ·obtain rfl:=Option.some.inj h
   obtain ⟨u,rfl,hu⟩:=hv.one_inv
   exact ⟨hu,fun _=>⟨u,rfl⟩⟩
  ·cases h
theorem run_loadVar_rel {t:TypeId} {n:Nat} {g:Bool} (hR:Rel (gp P) σ H w) (hn:tSize P t=some n) (hg:tAgg P t=some g) {b o:Nat} {cs:List AV} (hl:H.load b o n=some cs) {l:Loc} (hσ:σ b=some l) {v:AV} (hs:shown g cs=some v):
  ∃ v',(loadVar t ⟨l.blk,l.off+o,none⟩).run P w= .ok v' w∧VR σ v v':=by
 obtain ⟨l',vs,h1,h2,h3,h4,_⟩:=hR.load hl
 rw [hσ] at h1
 obtain rfl:=Option.some.inj h1
 obtain ⟨h5,h6⟩:=shown_ok hs h2
 have hrun:=run_loadCells_list (P:=P) w ⟨l.blk,l.off+o,none⟩ vs (fun j v e=>by rw [add_at];exact h4 j v e)
 rw [h3] at hrun
 exact ⟨_,run_loadVar hn hg hrun (fun q=>by
  obtain ⟨u,rfl⟩:=h6 q
  exact ⟨u,rfl,by simpa using h4 0 u rfl⟩),h5⟩
theorem ok_load {o:Oper} {t:TypeId} {x:Operand} {y:Opd} {n:Nat} {g:Bool} {v:AV} {H':Hp} (ho:o.op= .load t x) (hn:tSize P t=some n) (hg:tAgg P t=some g) (hx:cOpd P x=some y) (hR:Rel (gp P) σ H w) (hT:TR σ nt T a.tmps) (hr:ikRun T H (.load n g y)=some (v,H')):Out P o a σ H w v H':=by
 have h1:=opd_ok hR hT hx
 simp only [ikRun] at hr
 generalize y.ev T=yv at h1 hr
 generalize he:a.eval x=xv at h1
 cases h1 <;> simp only [reduceCtorEq] at hr
 rename_i b ofs l hσ
 cases hl:H.load b ofs n with
 | none=>rw [hl] at hr;cases hr
 | some cs=>
  rw [hl] at hr
  have hs:shown g cs=some v∧H=H':=by
   unfold shown
   cases g <;> simp only at hr ⊢
   ·split at hr
    ·simp only [Option.some.injEq,Prod.mk.injEq] at hr;obtain ⟨rfl,rfl⟩:=hr;exact ⟨rfl,rfl⟩
    ·cases hr
   ·simp only [Option.some.injEq,Prod.mk.injEq] at hr;obtain ⟨rfl,rfl⟩:=hr;exact ⟨rfl,rfl⟩
  obtain ⟨hs,rfl⟩:=hs
  obtain ⟨v',g1,g2⟩:=run_loadVar_rel hR hn hg hl hσ hs
  refine .pure hR (v':=v') ?_ g2
  unfold execOp;rw [ho];simp only [he]
  refine run_v ?_
  unfold Instr.loadAt
  exact g1
theorem ok_store {o:Oper} {t:TypeId} {x z:Operand} {x' z':Opd} {n:Nat} {v:AV} {H':Hp} (ho:o.op= .store t x z) (hn:tSize P t=some n) (hx:cOpd P x=some x') (hz:cOpd P z=some z') (hR:Rel (gp P) σ H w) (hT:TR σ nt T a.tmps) (hr:ikRun T H (.store n x' z')=some (v,H')):Out P o a σ H w v H':=by
 have h1:=opd_ok hR hT hx
 have h2:=opd_ok hR hT hz
 simp only [ikRun] at hr
 generalize x'.ev T=xv at h1 hr
 generalize z'.ev T=zv at h2 hr
 generalize hxe:a.eval x=xe at h1
 generalize hze:a.eval z=ze at h2
 cases h1 <;> simp only [reduceCtorEq] at hr
 rename_i b ofs l hσ
 split at hr
 ·rename_i hq
  have hq:=Tr.beq_t hq
  split at hr
  ·rename_i H2 hs
   simp only [Option.some.injEq,Prod.mk.injEq] at hr
   obtain ⟨rfl,rfl⟩:=hr
   obtain ⟨w',g1,g2,g3⟩:=hR.store_at P hs hσ h2.cells
   refine ⟨σ,undef,w', .skip,?_, .inr ⟨rfl,rfl⟩,VR.undef,g2,g3⟩
   unfold execOp;rw [ho];simp only [hxe,hze]
   refine run_u ?_
   show Sem.run P (storeVar t ⟨l.blk,l.off+ofs,none⟩ ze) w=_
   unfold storeVar
   show Sem.run P (bind (sizeOf t) _) w=_
   rw [Sem.run_bind,run_size hn]
   simp only [Result.andThen_ok]
   have:ze.cells.size=n:=by have:=h2.cells.length;simpa [hq] using this.symm
   rw [if_neg (by simp [this])]
   exact g1
  ·cases hr
 ·cases hr
theorem ok_faddr {o:Oper} {t:TypeId} {x:Operand} {f n:Nat} {fs:Array Field} {fd:Field} {y:Opd} {v:AV} {H':Hp} (ho:o.op= .fieldAddr t x f) (ht:P.underlying t=some (.struct fs)) (hf:fs[f]? =some fd) (hn:tSize P fd.type=some n) (hn0:n≠0) (hx:cOpd P x=some y) (hR:Rel (gp P) σ H w) (hT:TR σ nt T a.tmps) (hr:ikRun T H (.faddr fd.offset y)=some (v,H')):Out P o a σ H w v H':=by
 have h1:=opd_ok hR hT hx
 simp only [ikRun] at hr
 generalize y.ev T=yv at h1 hr
 generalize he:a.eval x=xv at h1
 cases h1 <;> simp only [reduceCtorEq,Option.some.injEq,Prod.mk.injEq] at hr
 obtain ⟨rfl,rfl⟩:=hr
 rename_i b ofs l hσ
 refine .pure hR (v':= .pointer (some ⟨l.blk,l.off+(ofs+fd.offset),none⟩)) ?_ (.ptr _ _ _ hσ)
 unfold execOp;rw [ho];simp only [he]
 refine run_v ?_
 unfold Instr.fieldAt
 show Sem.run P (bind (underlying t) _) w=_
 rw [Sem.run_bind,run_under ht]
 simp only [Result.andThen_ok,hf]
 show Sem.run P (bind (Instr.sureAddr _) _) w=_
 rw [Sem.run_bind]
 unfold Instr.sureAddr
 simp only [Sem.run_pure,Result.andThen_ok]
 show Sem.run P (bind (fieldPlace _ _) _) w=_
 rw [Sem.run_bind]
 unfold fieldPlace
 show (Sem.run P (bind (sizeOf fd.type) _) w).andThen _=_
 rw [Sem.run_bind,run_size hn]
 simp only [Result.andThen_ok,if_neg hn0]
 rw [add_at,Nat.add_assoc]
 rfl
theorem ok_iaddr {o:Oper} {t e:TypeId} {x z:Operand} {x' z':Opd} {n:Nat} {v:AV} {H':Hp} (ho:o.op= .indexAddr t x z) (ht:P.underlying t=some (.slice e)) (hn:tSize P e=some n) (hx:cOpd P x=some x') (hz:cOpd P z=some z') (hR:Rel (gp P) σ H w) (hT:TR σ nt T a.tmps) (hr:ikRun T H (.iaddr n x' z')=some (v,H')):Out P o a σ H w v H':=by
 have h1:=opd_ok hR hT hx
 have h2:=opd_ok hR hT hz
 simp only [ikRun] at hr
 generalize x'.ev T=xv at h1 hr
 generalize z'.ev T=zv at h2 hr
 generalize hxe:a.eval x=xe at h1
 generalize hze:a.eval z=ze at h2
 split at hr
 ·rename_i b ofs len cap ex k j
  cases h2
  split at hr
  ·rename_i hj
   rw [blt_t] at hj
   simp only [Option.some.injEq,Prod.mk.injEq] at hr
   obtain ⟨rfl,rfl⟩:=hr
   cases h1
   rename_i l off' cap' hσ ho2 hl hc
   have hc0:cap'≠0:=by rw [hc];split <;> omega
   obtain rfl:=ho2 hc0
   refine .pure hR (v':= .pointer (some ⟨l.blk,l.off+(ofs+j*n),none⟩)) ?_ (.ptr _ _ _ hσ)
   unfold execOp;rw [ho];simp only [hxe,hze]
   refine run_v ?_
   unfold Instr.indexAt
   show Sem.run P (bind (asIntOf _) _) w=_
   rw [Sem.run_bind]
   unfold asIntOf
   simp only [Sem.run_pure,Result.andThen_ok]
   show Sem.run P (bind (underlying t) _) w=_
   rw [Sem.run_bind,run_under ht]
   simp only [Result.andThen_ok]
   show Sem.run P (bind (pure (some _,len,e)) _) w=_
   rw [Sem.run_bind]
   simp only [Sem.run_pure,Result.andThen_ok]
   show Sem.run P (bind (underlying t) _) w=_
   rw [Sem.run_bind,run_under ht]
   simp only [Result.andThen_ok]
   rw [if_pos ⟨Int.natCast_nonneg j,Int.ofNat_lt.2 hj⟩]
   show Sem.run P (bind (sizeOf e) _) w=_
   rw [Sem.run_bind,run_size hn]
   simp only [Result.andThen_ok]
   rw [add_at,Nat.add_assoc]
   rfl
  ·cases hr
 ·cases hr
theorem ok_arraddr {o:Oper} {t e:TypeId} {x z:Operand} {x' z':Opd} {k0 n:Nat} {v:AV} {H':Hp} (ho:o.op= .indexAddr t x z) (ht:P.underlying t=some (.array k0 e)) (hn:tSize P e=some n) (hx:cOpd P x=some x') (hz:cOpd P z=some z') (hR:Rel (gp P) σ H w) (hT:TR σ nt T a.tmps) (hr:ikRun T H (.arraddr k0 n x' z')=some (v,H')):Out P o a σ H w v H':=by
 have h1:=opd_ok hR hT hx
 have h2:=opd_ok hR hT hz
 simp only [ikRun] at hr
 generalize x'.ev T=xv at h1 hr
 generalize z'.ev T=zv at h2 hr
 generalize hxe:a.eval x=xe at h1
 generalize hze:a.eval z=ze at h2
 split at hr
 ·rename_i b ofs k j
  cases h2
  split at hr
  ·rename_i hj
   rw [blt_t] at hj
   simp only [Option.some.injEq,Prod.mk.injEq] at hr
   obtain ⟨rfl,rfl⟩:=hr
   cases h1
   rename_i l hσ
   refine .pure hR (v':= .pointer (some ⟨l.blk,l.off+(ofs+j*n),none⟩)) ?_ (.ptr _ _ _ hσ)
   unfold execOp;rw [ho];simp only [hxe,hze]
   refine run_v ?_
   unfold Instr.indexAt
   show Sem.run P (bind (asIntOf _) _) w=_
   rw [Sem.run_bind]
   unfold asIntOf
   simp only [Sem.run_pure,Result.andThen_ok]
   show Sem.run P (bind (underlying t) _) w=_
   rw [Sem.run_bind,run_under ht]
   simp only [Result.andThen_ok]
   show Sem.run P (bind (Instr.sureAddr _) _) w=_
   rw [Sem.run_bind]
   unfold Instr.sureAddr
   simp only [Sem.run_pure,Result.andThen_ok]
   show Sem.run P (bind (pure (some _,k0,e)) _) w=_
   rw [Sem.run_bind]
   simp only [Sem.run_pure,Result.andThen_ok]
   show Sem.run P (bind (underlying t) _) w=_
   rw [Sem.run_bind,run_under ht]
   simp only [Result.andThen_ok]
   rw [if_pos ⟨Int.natCast_nonneg j,Int.ofNat_lt.2 hj⟩]
   show Sem.run P (bind (sizeOf e) _) w=_
   rw [Sem.run_bind,run_size hn]
   simp only [Result.andThen_ok]
   rw [add_at,Nat.add_assoc]
   rfl
  ·cases hr
 ·cases hr
end
section
variable {P:Program} {σ:Sg} {H:Hp} {w:World} {nt:Nat} {T:Tr AV} {a:Act}
theorem run_part {t:TypeId} {n off:Nat} {g:Bool} (hn:tSize P t=some n) (hg:tAgg P t=some g) {cs r:List AV} {vs:Array Value} (hv:VRs σ cs vs.toList) (hr:takeN (dropN cs off) n=some r) {v:AV} (hs:shown g r=some v):
  ∃ v',(part t vs off).run P w= .ok v' w∧VR σ v v':=by
 rw [takeN_eq,dropN_eq] at hr
 split at hr
 ·rename_i hlen
  obtain rfl:=Option.some.inj hr
  have hv2:=(hv.drop off).take n
  obtain ⟨h5,h6⟩:=shown_ok hs hv2
  unfold part
  cases g with
  | true=>
   refine ⟨.agg (vs.extract off (off+n)),?_,?_⟩
   ·show Sem.run P (bind (isAgg t) _) w=_
    rw [Sem.run_bind,run_agg hg]
    simp only [Result.andThen_ok,if_true]
    show Sem.run P (bind (sizeOf t) _) w=_
    rw [Sem.run_bind,run_size hn]
    rfl
   ·have:vs.extract off (off+n)=((vs.toList.drop off).take n).toArray:=by
     apply Array.toList_inj.1
     rw [Array.toList_extract,List.extract_eq_take_drop]
     simp
    rw [this]
    simpa using h5
  | false=>
   obtain ⟨u,hu⟩:=h6 rfl
   refine ⟨u,?_,by rw [hu] at h5;exact h5⟩
   show Sem.run P (bind (isAgg t) _) w=_
   rw [Sem.run_bind,run_agg hg]
   simp only [Result.andThen_ok,Bool.false_eq_true,if_false]
   have:vs[off]? =some u:=by
    have e:((vs.toList.drop off).take n)[0]? =some u:=by rw [hu];rfl
    rw [List.getElem?_take] at e
    split at e
    ·rw [List.getElem?_drop] at e
     simpa using e
    ·cases e
   rw [this]
   rfl
 ·cases hr
theorem shown_of {g:Bool} {r:List AV} {v:AV} {H':Hp} (hr:(match g with | true=>some (AV.agg r,H) | false=>match r with | [v]=>some (v,H) | _=>none)=some (v,H')):shown g r=some v∧H=H':=by
 unfold shown
 cases g <;> simp only at hr ⊢
 ·split at hr
  ·simp only [Option.some.injEq,Prod.mk.injEq] at hr;obtain ⟨rfl,rfl⟩:=hr;exact ⟨rfl,rfl⟩
  ·cases hr
 ·simp only [Option.some.injEq,Prod.mk.injEq] at hr;obtain ⟨rfl,rfl⟩:=hr;exact ⟨rfl,rfl⟩
theorem ok_field {o:Oper} {t:TypeId} {x:Operand} {f n:Nat} {g:Bool} {fs:Array Field} {fd:Field} {y:Opd} {v:AV} {H':Hp} (ho:o.op= .field t x f) (ht:P.underlying t=some (.struct fs)) (hf:fs[f]? =some fd) (hn:tSize P fd.type=some n) (hg:tAgg P fd.type=some g) (hx:cOpd P x=some y) (hR:Rel (gp P) σ H w) (hT:TR σ nt T a.tmps) (hr:ikRun T H (.field fd.offset n g y)=some (v,H')):Out P o a σ H w v H':=by
 have h1:=opd_ok hR hT hx
 simp only [ikRun] at hr
 generalize y.ev T=yv at h1 hr
 generalize he:a.eval x=xv at h1
 cases h1 <;> simp only [reduceCtorEq] at hr
 rename_i cs vs hv
 cases e:takeN (dropN cs fd.offset) n with
 | none=>rw [e] at hr;cases hr
 | some r=>
  rw [e] at hr
  obtain ⟨hs,rfl⟩:=shown_of hr
  obtain ⟨v',g1,g2⟩:=run_part (w:=w) hn hg hv e hs
  refine .pure hR (v':=v') ?_ g2
  unfold execOp;rw [ho];simp only [he]
  refine run_v ?_
  unfold Instr.field
  show Sem.run P (bind (underlying t) _) w=_
  rw [Sem.run_bind,run_under ht]
  simp only [Result.andThen_ok,hf]
  show Sem.run P (bind (asAgg _) _) w=_
  rw [Sem.run_bind]
  exact g1
theorem ok_arrix {o:Oper} {t e:TypeId} {x z:Operand} {x' z':Opd} {k0 n:Nat} {g:Bool} {v:AV} {H':Hp} (ho:o.op= .index t x z) (ht:P.underlying t=some (.array k0 e)) (hn:tSize P e=some n) (hg:tAgg P e=some g) (hx:cOpd P x=some x') (hz:cOpd P z=some z') (hR:Rel (gp P) σ H w) (hT:TR σ nt T a.tmps) (hr:ikRun T H (.arrix k0 n g x' z')=some (v,H')):Out P o a σ H w v H':=by
 have h1:=opd_ok hR hT hx
 have h2:=opd_ok hR hT hz
 simp only [ikRun] at hr
 generalize x'.ev T=xv at h1 hr
 generalize z'.ev T=zv at h2 hr
 generalize hxe:a.eval x=xe at h1
 generalize hze:a.eval z=ze at h2
 split at hr
 ·rename_i cs k j
  cases h2
  split at hr
  ·rename_i hj
   rw [blt_t] at hj
   cases h1
   rename_i vs hv
   cases e0:takeN (dropN cs (j*n)) n with
   | none=>rw [e0] at hr;cases hr
   | some r=>
    rw [e0] at hr
    obtain ⟨hs,rfl⟩:=shown_of hr
    obtain ⟨v',g1,g2⟩:=run_part (w:=w) hn hg hv e0 hs
    refine .pure hR (v':=v') ?_ g2
    unfold execOp;rw [ho];simp only [hxe,hze]
    refine run_v ?_
    unfold Instr.index
    show Sem.run P (bind (asIntOf _) _) w=_
    rw [Sem.run_bind]
    unfold asIntOf
    simp only [Sem.run_pure,Result.andThen_ok]
    show Sem.run P (bind (underlying t) _) w=_
    rw [Sem.run_bind,run_under ht]
    simp only [Result.andThen_ok]
    rw [if_pos ⟨Int.natCast_nonneg j,Int.ofNat_lt.2 hj⟩]
    show Sem.run P (bind (sizeOf e) _) w=_
    rw [Sem.run_bind,run_size hn]
    exact g1
  ·cases hr
 ·cases hr
theorem nthL_eq: ∀ (l:List Nat) (i:Nat),nthL l i=l[i]?
 | [],_=>rfl
 | _::_,0=>rfl
 | _::l,i+1=>by simp [nthL,nthL_eq l i]
theorem ok_strix {o:Oper} {t:TypeId} {x z:Operand} {x' z':Opd} {v:AV} {H':Hp} (ho:o.op= .index t x z) (ht:P.underlying t=some .string) (hx:cOpd P x=some x') (hz:cOpd P z=some z') (hR:Rel (gp P) σ H w) (hT:TR σ nt T a.tmps) (hr:ikRun T H (.strix x' z')=some (v,H')):Out P o a σ H w v H':=by
 have h1:=opd_ok hR hT hx
 have h2:=opd_ok hR hT hz
 simp only [ikRun] at hr
 generalize x'.ev T=xv at h1 hr
 generalize z'.ev T=zv at h2 hr
 generalize hxe:a.eval x=xe at h1
 generalize hze:a.eval z=ze at h2
 split at hr
 ·rename_i s k j
  cases h2
  cases h1
  rename_i bs
  rw [nthL_eq] at hr
  cases e:(bs.data.toList.map (·.toNat))[j]? with
  | none=>rw [e] at hr;cases hr
  | some b=>
   rw [e] at hr
   simp only [Option.some.injEq,Prod.mk.injEq] at hr
   obtain ⟨rfl,rfl⟩:=hr
   rw [List.getElem?_map] at e
   cases e2:bs.data.toList[j]? with
   | none=>rw [e2] at e;cases e
   | some c=>
    rw [e2] at e
    obtain rfl:=Option.some.inj e
    refine .pure hR (v':= .int .u8 c.toNat) ?_ (.int _ _)
    unfold execOp;rw [ho];simp only [hxe,hze]
    refine run_v ?_
    unfold Instr.index
    show Sem.run P (bind (asIntOf _) _) w=_
    rw [Sem.run_bind]
    unfold asIntOf
    simp only [Sem.run_pure,Result.andThen_ok]
    show Sem.run P (bind (underlying t) _) w=_
    rw [Sem.run_bind,run_under ht]
    simp only [Result.andThen_ok]
    rw [if_pos (show (0:Int)≤Int.ofNat j from Int.natCast_nonneg j)]
    have e3:bs[(Int.ofNat j).toNat]? =some c:=by
     show bs[j]? =some c
     have hj:=(List.getElem?_eq_some_iff.1 e2).1
     have hj2:j<bs.size:=by simpa using hj
     rw [getElem?_pos bs j hj2]
     have:=(List.getElem?_eq_some_iff.1 e2).2
     rw [←this]
     rfl
    rw [e3]
    rfl
 ·cases hr
theorem bound_ok {x:AV} {xe:Value} {y y' n:Nat} {code:BoundsCode} (h:bound x y=some n) (hv:VR σ x xe) (hy:y≤y'):(Instr.sliceBound xe y' code).run P w= .ok n w∧n≤y:=by
 unfold bound at h
 split at h
 ·rename_i k m
  split at h
  ·rename_i hm
   rw [Nat.ble_eq] at hm
   obtain rfl:=Option.some.inj h
   cases hv
   refine ⟨?_,hm⟩
   unfold Instr.sliceBound
   show Sem.run P (bind (asIntOf _) _) w=_
   rw [Sem.run_bind]
   unfold asIntOf
   simp only [Sem.run_pure,Result.andThen_ok]
   rw [if_pos ⟨Int.natCast_nonneg m,Int.ofNat_le.2 (by omega)⟩]
   rfl
  ·cases h
 ·cases h
inductive VRo (σ:Sg):Option AV→Option Value→Prop where
 | none:VRo σ none none
 | some {x:AV} {v:Value} (h:VR σ x v):VRo σ (some x) (some v)
theorem opdo_ok (hR:Rel (gp P) σ H w) (hT:TR σ nt T a.tmps) {x:Option Operand} {y:Option Opd} (h:cOpdO P x=some y):VRo σ (evo T y) (x.map a.eval):=by
 cases x with
 | none=>obtain rfl:=Option.some.inj h;exact .none
 | some x=>
  simp only [cOpdO] at h
  split at h
  ·rename_i b hb
   obtain rfl:=Option.some.inj h
   exact .some (opd_ok hR hT hb)
  ·cases h
theorem bounds_ok {isS : Bool} {len cap cap' : Nat} {lo hi mx : Option AV} {lo' hi' mx' : Option Value} {l h m : Nat} (hb : bounds len cap lo hi mx = some (l, h, m)) (h1 : VRo σ lo lo') (h2 : VRo σ hi hi') (h3 : VRo σ mx mx') (hc : cap ≤ cap') (hlc : len ≤ cap) :
    ∃ m', (Instr.sliceBounds isS len cap' lo' hi' mx').run P w = .ok (l, h, m') w ∧ (m' = if mx.isSome then m else cap') ∧ l ≤ h ∧ h ≤ m ∧ m ≤ cap ∧ (mx = none → m = cap) := by
  unfold bounds at hb
  cases h3 with
  | none =>
    simp only at hb
    have hh : ∃ hv, (match hi with | some v => bound v cap | none => some len) = some hv ∧ ∀ c, (match hi', (none : Option Value) with
        | some v, some _ => Instr.sliceBound v cap' .slice3B
        | some v, none => Instr.sliceBound v cap' c
        | none, none => pure len
        | none, some _ => stuck "Slice: max without high").run P w = .ok hv w ∧ hv ≤ cap := by
      cases h2 with
      | none => exact ⟨len, rfl, fun c => ⟨rfl, hlc⟩⟩
      | some hv =>
        rename_i x v
        cases e : bound x cap with
        | none => simp only [e] at hb; cases hb
        | some n => exact ⟨n, e, fun c => bound_ok e hv hc⟩
    obtain ⟨hv, e1, e2⟩ := hh
    have hl : ∃ lv, (match lo with | some v => bound v hv | none => some 0) = some lv ∧ ∀ c, (match lo' with | some v => Instr.sliceBound v hv c | none => pure 0).run P w = .ok lv w ∧ lv ≤ hv := by
      cases h1 with
      | none => exact ⟨0, rfl, fun c => ⟨rfl, Nat.zero_le _⟩⟩
      | some hx =>
        rename_i x v
        cases e : bound x hv with
        | none =>
          cases h2 <;> (try simp only at e1 hb) <;> (first | rw [e1] at hb | (obtain rfl := Option.some.inj e1)) <;> simp only [e] at hb <;> cases hb
        | some n => exact ⟨n, e, fun c => bound_ok e hx (Nat.le_refl _)⟩
    obtain ⟨lv, e3, e4⟩ := hl
    have hfin : (lv, hv, cap) = (l, h, m) := by
      cases h2 <;> cases h1 <;> (try simp only at e1 e3 hb) <;> (first | rw [e1] at hb | (obtain rfl := Option.some.inj e1)) <;> (try simp only at hb) <;> first | (rw [e3] at hb; exact Option.some.inj hb) | (obtain rfl := Option.some.inj e3; exact Option.some.inj hb)
    simp only [Prod.mk.injEq] at hfin
    obtain ⟨rfl, rfl, rfl⟩ := hfin
    refine ⟨cap', ?_, rfl, (e4 .index).2, (e2 .index).2, Nat.le_refl _, fun _ => rfl⟩
    unfold Instr.sliceBounds
    show Sem.run P (bind (pure cap') _) w = _
    rw [Sem.run_bind]
    simp only [Sem.run_pure, Result.andThen_ok]
    have e5 := (e2 (if isS = true then BoundsCode.sliceAcap else BoundsCode.sliceAlen)).1
    have e6 := (e4 BoundsCode.sliceB).1
    cases h2 <;> cases h1 <;>
      (first
        | (show Sem.run P (bind (Instr.sliceBound _ _ _) _) w = _
           rw [Sem.run_bind, e5])
        | (show Sem.run P (bind (pure _) _) w = _
           rw [Sem.run_bind, e5])
       simp only [Result.andThen_ok]
       first
        | (show Sem.run P (bind (Instr.sliceBound _ _ _) _) w = _
           rw [Sem.run_bind]
           simp only [Option.isSome, Bool.false_eq_true, if_false]
           rw [e6]; rfl)
        | (show Sem.run P (bind (pure _) _) w = _
           rw [Sem.run_bind, e6]; rfl))
  | some hm =>
    rename_i mxa mxv
    simp only at hb
    cases em : bound mxa cap with
    | none => rw [em] at hb; cases hb
    | some mv =>
      rw [em] at hb
      simp only at hb
      cases h2 with
      | none => simp only at hb; cases hb
      | some hx =>
        rename_i xa xv
        simp only at hb
        cases eh : bound xa mv with
        | none => rw [eh] at hb; cases hb
        | some hv =>
          rw [eh] at hb
          simp only at hb
          have b1 := bound_ok (P := P) (w := w) (code := if isS = true then BoundsCode.slice3Acap else BoundsCode.slice3Alen) em hm hc
          have b2 := bound_ok (P := P) (w := w) (code := BoundsCode.slice3B) eh hx (Nat.le_refl _)
          have hl : ∃ lv, (match lo with | some v => bound v hv | none => some 0) = some lv ∧ ∀ c, (match lo' with | some v => Instr.sliceBound v hv c | none => pure 0).run P w = .ok lv w ∧ lv ≤ hv := by
            cases h1 with
            | none => exact ⟨0, rfl, fun c => ⟨rfl, Nat.zero_le _⟩⟩
            | some hx =>
              rename_i x v
              cases e : bound x hv with
              | none => simp only [e] at hb; cases hb
              | some n => exact ⟨n, e, fun c => bound_ok e hx (Nat.le_refl _)⟩
          obtain ⟨lv, e3, e4⟩ := hl
          have hfin : (lv, hv, mv) = (l, h, m) := by
            cases h1 <;> (simp only at e3 hb; first | (rw [e3] at hb; exact Option.some.inj hb) | (obtain rfl := Option.some.inj e3; exact Option.some.inj hb))
          simp only [Prod.mk.injEq] at hfin
          obtain ⟨rfl, rfl, rfl⟩ := hfin
          refine ⟨mv, ?_, rfl, (e4 .index).2, b2.2, b1.2, fun q => by cases q⟩
          unfold Instr.sliceBounds
          show Sem.run P (bind (Instr.sliceBound _ _ _) _) w = _
          rw [Sem.run_bind, b1.1]
          simp only [Result.andThen_ok]
          show Sem.run P (bind (Instr.sliceBound _ _ _) _) w = _
          rw [Sem.run_bind, b2.1]
          simp only [Result.andThen_ok]
          have e6 := (e4 BoundsCode.slice3C).1
          cases h1
          · show Sem.run P (bind (pure _) _) w = _
            rw [Sem.run_bind, e6]; rfl
          · show Sem.run P (bind (Instr.sliceBound _ _ _) _) w = _
            rw [Sem.run_bind]
            simp only [Option.isSome, if_true]
            rw [e6]; rfl
end
section
variable {P:Program} {σ:Sg} {H:Hp} {w:World} {nt:Nat} {T:Tr AV} {a:Act}
theorem ok_slice {o:Oper} {t e:TypeId} {x:Operand} {lo hi mx:Option Operand} {x':Opd} {lo' hi' mx':Option Opd} {n:Nat} {v:AV} {H':Hp} (ho:o.op= .slice t x lo hi mx) (ht:P.underlying t=some (.slice e)) (hn:tSize P e=some n) (hx:cOpd P x=some x') (h1:cOpdO P lo=some lo') (h2:cOpdO P hi=some hi') (h3:cOpdO P mx=some mx') (hR:Rel (gp P) σ H w) (hT:TR σ nt T a.tmps) (hr:ikRun T H (.slice n x' lo' hi' mx')=some (v,H')):Out P o a σ H w v H':=by
 have g0:=opd_ok hR hT hx
 have g1:=opdo_ok hR hT h1
 have g2:=opdo_ok hR hT h2
 have g3:=opdo_ok hR hT h3
 simp only [ikRun] at hr
 generalize x'.ev T=xv at g0 hr
 generalize hxe:a.eval x=xe at g0
 have key: ∀ (A:Option Addr) (len cap l h m:Nat),xe= .slice A len cap→(Instr.sliceBounds true len cap (lo.map a.eval) (hi.map a.eval) (mx.map a.eval)).run P w= .ok (l,h,m) w→(execOp a.eval o).run P w= .ok (.value (.slice (if m=l then A else A.map (·.add (l*n))) (h-l) (m-l))) w:=fun A len cap l h m e hb=>by
  unfold execOp;rw [ho];simp only [hxe]
  subst e
  refine run_v ?_
  unfold Instr.sliceAt
  show Sem.run P (bind (underlying t) _) w=_
  rw [Sem.run_bind,run_under ht]
  simp only [Result.andThen_ok]
  unfold Instr.slice
  show Sem.run P (bind (underlying t) _) w=_
  rw [Sem.run_bind,run_under ht]
  simp only [Result.andThen_ok]
  show Sem.run P (bind (Instr.sliceBounds _ _ _ _ _ _) _) w=_
  rw [Sem.run_bind,hb]
  simp only [Result.andThen_ok]
  show Sem.run P (bind (sizeOf e) _) w=_
  rw [Sem.run_bind,run_size hn]
  rfl
 cases hc:cut n xv (evo T lo') (evo T hi') (evo T mx') with
 | none=>rw [hc] at hr;cases hr
 | some u=>
  rw [hc] at hr
  simp only [Option.some.injEq,Prod.mk.injEq] at hr
  obtain ⟨rfl,rfl⟩:=hr
  unfold cut at hc
  split at hc
  ·rename_i b o2 len cap ex
   cases g0
   rename_i lc off' cap' hσ hoff hlc hcap
   split at hc
   ·cases hc
   ·rename_i l h m hb
    obtain rfl:=Option.some.inj hc
    obtain ⟨m',r1,r2,r3,r4,r5,r6⟩:=bounds_ok (P:=P) (w:=w) (isS:=true) (cap':=cap') hb g1 g2 g3 (by rw [hcap];split <;> omega) hlc
    have hm:m'-l=if (ex||(evo T mx').isSome)=true then m-l else m-l+lc.room:=by
     rw [r2]
     cases hmx:evo T mx' with
     | none=>
      have:=r6 hmx
      subst this
      rw [hcap]
      cases ex <;> simp <;> omega
     | some y=>simp
    refine .pure hR (key _ _ _ _ _ _ rfl r1) ?_
    by_cases q:m'=l
    ·rw [if_pos q]
     exact .slice _ _ _ _ _ lc off' _ hσ hm (fun hne=>absurd (by omega) hne) (by omega)
    ·rw [if_neg q]
     have hmc:m'≤cap':=by
      rw [r2];split
      ·rw [hcap];split <;> omega
      ·exact Nat.le_refl _
     have hlm:l≤m':=by
      rw [r2];split
      ·omega
      ·rw [hcap];split <;> omega
     have hoff:=hoff (by omega)
     subst hoff
     rw [show (Option.map (fun x:Addr=>x.add (l*n)) (some ⟨lc.blk,lc.off+o2,none⟩))=some ⟨lc.blk,lc.off+o2+l*n,none⟩ by rw [Option.map_some,add_at]]
     exact .slice _ _ _ _ _ lc _ _ hσ hm (fun _=>by omega) (by omega)
  ·cases g0
   split at hc
   ·cases hc
   ·rename_i r hb
    obtain ⟨l,h,m⟩:=r
    obtain rfl:=Option.some.inj hc
    obtain ⟨m',r1,r2,r3,r4,r5,r6⟩:=bounds_ok (P:=P) (w:=w) (isS:=true) (len:=0) (cap:=0) (cap':=0) hb g1 g2 g3 (Nat.le_refl _) (Nat.le_refl _)
    have hm':m'=0:=by rw [r2];split <;> omega
    have hl:l=0:=by omega
    have hh:h=0:=by omega
    subst hm' hl hh
    refine .pure hR (key _ _ _ _ _ _ rfl r1) ?_
    rw [if_pos rfl]
    exact .nils
  ·cases hc
theorem ok_arrslice {o:Oper} {t e:TypeId} {x:Operand} {lo hi mx:Option Operand} {x':Opd} {lo' hi' mx':Option Opd} {k0 n:Nat} {v:AV} {H':Hp} (ho:o.op= .slice t x lo hi mx) (ht:P.underlying t=some (.array k0 e)) (hn:tSize P e=some n) (hx:cOpd P x=some x') (h1:cOpdO P lo=some lo') (h2:cOpdO P hi=some hi') (h3:cOpdO P mx=some mx') (hR:Rel (gp P) σ H w) (hT:TR σ nt T a.tmps) (hr:ikRun T H (.arrslice k0 n x' lo' hi' mx')=some (v,H')):Out P o a σ H w v H':=by
 have g0:=opd_ok hR hT hx
 have g1:=opdo_ok hR hT h1
 have g2:=opdo_ok hR hT h2
 have g3:=opdo_ok hR hT h3
 simp only [ikRun] at hr
 generalize x'.ev T=xv at g0 hr
 generalize hxe:a.eval x=xe at g0
 cases g0 <;> simp only [reduceCtorEq] at hr
 rename_i b o2 lc hσ
 cases hb:bounds k0 k0 (evo T lo') (evo T hi') (evo T mx') with
 | none=>rw [hb] at hr;cases hr
 | some r=>
  obtain ⟨l,h,m⟩:=r
  rw [hb] at hr
  simp only [Option.some.injEq,Prod.mk.injEq] at hr
  obtain ⟨rfl,rfl⟩:=hr
  obtain ⟨m',r1,r2,r3,r4,r5,r6⟩:=bounds_ok (P:=P) (w:=w) (isS:=false) (cap':=k0) hb g1 g2 g3 (Nat.le_refl _) (Nat.le_refl _)
  have hm':m'=m:=by
   rw [r2]
   cases hmx:evo T mx' with
   | none=>exact (r6 hmx).symm
   | some y=>rfl
  subst hm'
  refine .pure hR (v':= .slice (some (if m'=l then ⟨lc.blk,lc.off+o2,none⟩ else (⟨lc.blk,lc.off+o2,none⟩:Addr).add (l*n))) (h-l) (m'-l)) ?_ ?_
  ·unfold execOp;rw [ho];simp only [hxe]
   refine run_v ?_
   unfold Instr.sliceAt
   show Sem.run P (bind (underlying t) _) w=_
   rw [Sem.run_bind,run_under ht]
   simp only [Result.andThen_ok]
   show Sem.run P (bind (Instr.sureAddr _) _) w=_
   rw [Sem.run_bind]
   unfold Instr.sureAddr
   simp only [Sem.run_pure,Result.andThen_ok]
   show Sem.run P (bind (Instr.sliceBounds _ _ _ _ _ _) _) w=_
   rw [Sem.run_bind,r1]
   simp only [Result.andThen_ok]
   show Sem.run P (bind (sizeOf e) _) w=_
   rw [Sem.run_bind,run_size hn]
   rfl
  ·by_cases q:m'=l
   ·rw [if_pos q]
    exact .slice _ _ _ _ _ lc _ _ hσ (by simp) (fun hne=>absurd (by omega) hne) (by omega)
   ·rw [if_neg q,add_at]
    exact .slice _ _ _ _ _ lc _ _ hσ (by simp) (fun _=>by omega) (by omega)
theorem takeL_eq: ∀ (l:List Nat) (n:Nat),takeL l n=l.take n
 | l,0=>by cases l <;> rfl
 | [],n+1=>rfl
 | a::l,n+1=>by simp [takeL,takeL_eq l n]
theorem dropL_eq: ∀ (l:List Nat) (n:Nat),dropL l n=l.drop n
 | l,0=>by cases l <;> rfl
 | [],n+1=>rfl
 | a::l,n+1=>by simp [dropL,dropL_eq l n]
theorem ok_substr {o:Oper} {t:TypeId} {x:Operand} {lo hi:Option Operand} {x':Opd} {lo' hi':Option Opd} {v:AV} {H':Hp} (ho:o.op= .slice t x lo hi none) (ht:P.underlying t=some .string) (hx:cOpd P x=some x') (h1:cOpdO P lo=some lo') (h2:cOpdO P hi=some hi') (hR:Rel (gp P) σ H w) (hT:TR σ nt T a.tmps) (hr:ikRun T H (.substr x' lo' hi')=some (v,H')):Out P o a σ H w v H':=by
 have g0:=opd_ok hR hT hx
 have g1:=opdo_ok hR hT h1
 have g2:=opdo_ok hR hT h2
 simp only [ikRun] at hr
 generalize x'.ev T=xv at g0 hr
 generalize hxe:a.eval x=xe at g0
 cases g0 <;> simp only [reduceCtorEq] at hr
 rename_i bs
 have hlen:(bs.data.toList.map (·.toNat)).length=bs.size:=by simp
 rw [hlen] at hr
 cases hb:bounds bs.size bs.size (evo T lo') (evo T hi') none with
 | none=>rw [hb] at hr;cases hr
 | some r=>
  obtain ⟨l,h,m⟩:=r
  rw [hb] at hr
  simp only [Option.some.injEq,Prod.mk.injEq] at hr
  obtain ⟨rfl,rfl⟩:=hr
  obtain ⟨m',r1,r2,r3,r4,r5,r6⟩:=bounds_ok (P:=P) (w:=w) (isS:=false) (cap':=bs.size) hb g1 g2 .none (Nat.le_refl _) (Nat.le_refl _)
  refine .pure hR (v':= .string (bs.extract l h)) ?_ ?_
  ·unfold execOp;rw [ho];simp only [hxe]
   refine run_v ?_
   unfold Instr.sliceAt
   show Sem.run P (bind (underlying t) _) w=_
   rw [Sem.run_bind,run_under ht]
   simp only [Result.andThen_ok]
   unfold Instr.slice
   show Sem.run P (bind (underlying t) _) w=_
   rw [Sem.run_bind,run_under ht]
   simp only [Result.andThen_ok,Option.map_none,Option.isSome_none,Bool.false_eq_true,if_false]
   show Sem.run P (bind (Instr.sliceBounds _ _ _ _ _ _) _) w=_
   rw [Sem.run_bind]
   have:=r1
   rw [this]
   rfl
  ·rw [takeL_eq,dropL_eq]
   have:(List.take (h-l) (List.drop l (bs.data.toList.map (·.toNat))))=(bs.extract l h).data.toList.map (·.toNat):=by
    rw [ByteArray.data_extract,Array.toList_extract,List.extract_eq_take_drop,List.map_take,List.map_drop]
   rw [this]
   exact .str _
theorem VR.lenV {x:AV} {xe:Value} {n:Nat} (h:VR σ x xe) (hl:Eng.lenV x=some n):(Builtin.lenOf xe).run P w= .ok n w:=by
 cases h <;> simp only [Eng.lenV,reduceCtorEq,Option.some.injEq] at hl
 ·rename_i s
  subst hl
  rw [List.length_map]
  rfl
 ·subst hl;rfl
 ·subst hl;rfl
end
section
variable {P:Program} {σ:Sg} {H:Hp} {w w':World} {nt:Nat} {T:Tr AV} {a:Act}
theorem run_call_builtin {o:Oper} {c:Call} {b:Builtin} (ho:o.op= .call c) (hc:c.callee= .builtin b) {r:Result Next} (h:(builtin b c.argTypes o.type (c.args.map fun | .const _=>true | _=>false) (c.args.map a.eval)).run P w=r):(execOp a.eval o).run P w=r:=by
 unfold execOp;rw [ho];simp only
 show Sem.run P (bind (resolve a.eval c o.type) _) w=_
 rw [Sem.run_bind]
 unfold resolve
 rw [hc]
 simp only [Sem.run_pure,Result.andThen_ok]
 unfold invoke
 exact h
theorem argOne {x:Operand} {xv:Value} {c:Call} (ha:c.args= #[x]) (he:a.eval x=xv):c.args.map a.eval= #[xv]:=by rw [ha];simp [he]
theorem arg2 {x y:Operand} {xv yv:Value} {c:Call} (ha:c.args= #[x,y]) (he:a.eval x=xv) (he2:a.eval y=yv):c.args.map a.eval= #[xv,yv]:=by rw [ha];simp [he,he2]
theorem ok_strlen {o:Oper} {c:Call} {t:TypeId} {x:Operand} {y:Opd} {v:AV} {H':Hp} (ho:o.op= .call c) (hc:c.callee= .builtin .len) (ha:c.args= #[x]) (htt:c.argTypes[0]? =some t) (ht:P.underlying t=some .string) (hx:cOpd P x=some y) (hR:Rel (gp P) σ H w) (hT:TR σ nt T a.tmps) (hr:ikRun T H (.strlen y)=some (v,H')):Out P o a σ H w v H':=by
 have h1:=opd_ok hR hT hx
 simp only [ikRun] at hr
 generalize y.ev T=yv at h1 hr
 generalize he:a.eval x=xv at h1
 cases h1 <;> simp only [reduceCtorEq,Option.some.injEq,Prod.mk.injEq] at hr
 obtain ⟨rfl,rfl⟩:=hr
 rename_i s
 rw [List.length_map]
 refine .pure hR (v':= .int .i64 s.size) (run_call_builtin ho hc ?_) (.int _ _)
 rw [argOne ha he]
 refine run_v ?_
 unfold Builtin.len_
 simp only [htt,List.getElem?_toArray,List.getElem?_cons_zero]
 show Sem.run P (bind (underlying t) _) w=_
 rw [Sem.run_bind,run_under ht]
 rfl
theorem ok_len {o:Oper} {c:Call} {t e:TypeId} {x:Operand} {y:Opd} {v:AV} {H':Hp} (ho:o.op= .call c) (hc:c.callee= .builtin .len) (ha:c.args= #[x]) (htt:c.argTypes[0]? =some t) (ht:P.underlying t=some (.slice e)) (hx:cOpd P x=some y) (hR:Rel (gp P) σ H w) (hT:TR σ nt T a.tmps) (hr:ikRun T H (.len y)=some (v,H')):Out P o a σ H w v H':=by
 have h1:=opd_ok hR hT hx
 simp only [ikRun] at hr
 generalize y.ev T=yv at h1 hr
 generalize he:a.eval x=xv at h1
 cases h1 <;> simp only [reduceCtorEq,Option.some.injEq,Prod.mk.injEq] at hr
 all_goals
  obtain ⟨rfl,rfl⟩:=hr
  refine .pure hR (v':= .int .i64 (.ofNat _)) (run_call_builtin ho hc ?_) (.int _ _)
  rw [argOne ha he]
  refine run_v ?_
  unfold Builtin.len_
  simp only [htt,List.getElem?_toArray,List.getElem?_cons_zero]
  show Sem.run P (bind (underlying t) _) w=_
  rw [Sem.run_bind,run_under ht]
  rfl
theorem ok_constlen {o:Oper} {c:Call} {t e:TypeId} {n:Nat} {x:Operand} {y:Opd} {v:AV} {H':Hp} (ho:o.op= .call c) (hc:c.callee= .builtin .len) (ha:c.args= #[x]) (htt:c.argTypes[0]? =some t) (ht:P.underlying t=some (.array n e)∨ ∃ p,P.underlying t=some (.pointer p)∧P.underlying p=some (.array n e)) (hx:cOpd P x=some y) (hR:Rel (gp P) σ H w) (hT:TR σ nt T a.tmps) (hr:ikRun T H (.const n)=some (v,H')):Out P o a σ H w v H':=by
 have h1:=opd_ok hR hT hx
 simp only [ikRun,Option.some.injEq,Prod.mk.injEq] at hr
 obtain ⟨rfl,rfl⟩:=hr
 generalize he:a.eval x=xv at h1
 refine .pure hR (v':= .int .i64 (.ofNat n)) (run_call_builtin ho hc ?_) (.int _ _)
 rw [argOne ha he]
 refine run_v ?_
 unfold Builtin.len_
 simp only [htt,List.getElem?_toArray,List.getElem?_cons_zero]
 show Sem.run P (bind (underlying t) _) w=_
 rcases ht with ht | ⟨p,ht,hp⟩
 ·rw [Sem.run_bind,run_under ht]
  rfl
 ·rw [Sem.run_bind,run_under ht]
  simp only [Result.andThen_ok]
  show Sem.run P (bind (underlying p) _) w=_
  rw [Sem.run_bind,run_under hp]
  rfl
theorem ok_cap {o:Oper} {c:Call} {t e:TypeId} {x:Operand} {y:Opd} {v:AV} {H':Hp} (ho:o.op= .call c) (hc:c.callee= .builtin .cap) (ha:c.args= #[x]) (htt:c.argTypes[0]? =some t) (ht:P.underlying t=some (.slice e)) (hx:cOpd P x=some y) (hR:Rel (gp P) σ H w) (hT:TR σ nt T a.tmps) (hr:ikRun T H (.cap y)=some (v,H')):Out P o a σ H w v H':=by
 have h1:=opd_ok hR hT hx
 simp only [ikRun] at hr
 generalize y.ev T=yv at h1 hr
 generalize he:a.eval x=xv at h1
 have key: ∀ (A:Option Addr) (l n:Nat),xv= .slice A l n→(execOp a.eval o).run P w= .ok (.value (.int .i64 (.ofNat n))) w:=fun A l n e=>by
  subst e
  refine run_call_builtin ho hc ?_
  rw [argOne ha he]
  refine run_v ?_
  unfold Builtin.cap_
  simp only [htt,List.getElem?_toArray,List.getElem?_cons_zero]
  show Sem.run P (bind (underlying t) _) w=_
  rw [Sem.run_bind,run_under ht]
  rfl
 split at hr
 ·cases h1
  simp only [Option.some.injEq,Prod.mk.injEq] at hr
  obtain ⟨rfl,rfl⟩:=hr
  exact .pure hR (key _ _ _ rfl) (.int _ _)
 ·cases h1
  simp only [Option.some.injEq,Prod.mk.injEq] at hr
  obtain ⟨rfl,rfl⟩:=hr
  rename_i hσ ho2 hl hcap
  simp only [if_true] at hcap
  subst hcap
  exact .pure hR (key _ _ _ rfl) (.int _ _)
 ·cases hr
theorem ok_constcap {o:Oper} {c:Call} {t e:TypeId} {n:Nat} {x:Operand} {y:Opd} {v:AV} {H':Hp} (ho:o.op= .call c) (hc:c.callee= .builtin .cap) (ha:c.args= #[x]) (htt:c.argTypes[0]? =some t) (ht:P.underlying t=some (.array n e)) (hx:cOpd P x=some y) (hR:Rel (gp P) σ H w) (hT:TR σ nt T a.tmps) (hr:ikRun T H (.const n)=some (v,H')):Out P o a σ H w v H':=by
 have h1:=opd_ok hR hT hx
 simp only [ikRun,Option.some.injEq,Prod.mk.injEq] at hr
 obtain ⟨rfl,rfl⟩:=hr
 generalize he:a.eval x=xv at h1
 refine .pure hR (v':= .int .i64 (.ofNat n)) (run_call_builtin ho hc ?_) (.int _ _)
 rw [argOne ha he]
 refine run_v ?_
 unfold Builtin.cap_
 simp only [htt,List.getElem?_toArray,List.getElem?_cons_zero]
 show Sem.run P (bind (underlying t) _) w=_
 rw [Sem.run_bind,run_under ht]
 rfl
theorem run_minmax {low:Bool} {x y v:AV} {xe ye:Value} (h:minmax low x y=some v) (hx:VR σ x xe) (hy:VR σ y ye): ∃ v',((if low then Builtin.min2 else Builtin.max2) xe ye).run P w= .ok v' w∧VR σ v v':=by
 unfold minmax at h
 split at h
 ·cases hx;cases hy
  rename_i k x k' y
  obtain rfl:=Option.some.inj h
  cases low
  ·refine ⟨.int k (if y>x then y else x),rfl,?_⟩
   have q:=ltI_eq x y
   by_cases h:x<y
   ·rw [decide_eq_true h] at q;simp only [q];rw [if_pos h];exact .int _ _
   ·rw [decide_eq_false h] at q;simp only [q];rw [if_neg h];exact .int _ _
  ·refine ⟨.int k (if y<x then y else x),rfl,?_⟩
   have q:=ltI_eq y x
   by_cases h:y<x
   ·rw [decide_eq_true h] at q;simp only [q];rw [if_pos h];exact .int _ _
   ·rw [decide_eq_false h] at q;simp only [q];rw [if_neg h];exact .int _ _
 ·cases h
theorem run_minmaxs {low:Bool}: ∀ {l:List AV} {vs:List Value} {x v:AV} {xe:Value},minmaxs low x l=some v→VR σ x xe→VRs σ l vs→ ∃ v',(vs.foldlM (if low then Builtin.min2 else Builtin.max2) xe).run P w= .ok v' w∧VR σ v v'
 | [],_,x,v,xe,h,hx, .nil=>by
  obtain rfl:=Option.some.inj h
  exact ⟨xe,rfl,hx⟩
 | y::l,_,x,v,xe,h,hx, .cons (v:=ye) (vs:=vs) hy ht=>by
  rw [minmaxs] at h
  split at h
  ·rename_i c hc
   obtain ⟨v1,g1,g2⟩:=run_minmax (P:=P) (w:=w) hc hx hy
   obtain ⟨v2,g3,g4⟩:=run_minmaxs (low:=low) h g2 ht
   refine ⟨v2,?_,g4⟩
   rw [List.foldlM_cons]
   show Sem.run P (bind _ _) w=_
   rw [Sem.run_bind,g1]
   exact g3
  ·cases h
theorem ok_mn {o:Oper} {c:Call} {x:Operand} {y:Opd} {r:List Operand} {l:List Opd} {v:AV} {H':Hp} (ho:o.op= .call c) (hc:c.callee= .builtin .min) (ha:c.args.toList=x::r) (hx:cOpd P x=some y) (hl:cOpds P r=some l) (hR:Rel (gp P) σ H w) (hT:TR σ nt T a.tmps) (hr:ikRun T H (.mn y l)=some (v,H')):Out P o a σ H w v H':=by
 have h1:=opd_ok hR hT hx
 have h2:=opds_ok hR hT hl
 simp only [ikRun] at hr
 cases hm:minmaxs true (y.ev T) (evs T l) with
 | none=>rw [hm] at hr;cases hr
 | some u=>
  rw [hm] at hr
  simp only [Option.some.injEq,Prod.mk.injEq] at hr
  obtain ⟨rfl,rfl⟩:=hr
  obtain ⟨v',g1,g2⟩:=run_minmaxs (P:=P) (w:=w) (low:=true) hm h1 h2
  refine .pure hR (v':=v') (run_call_builtin ho hc ?_) g2
  refine run_v ?_
  unfold Builtin.min_
  rw [Array.toList_map,ha]
  exact g1
theorem ok_mx {o:Oper} {c:Call} {x:Operand} {y:Opd} {r:List Operand} {l:List Opd} {v:AV} {H':Hp} (ho:o.op= .call c) (hc:c.callee= .builtin .max) (ha:c.args.toList=x::r) (hx:cOpd P x=some y) (hl:cOpds P r=some l) (hR:Rel (gp P) σ H w) (hT:TR σ nt T a.tmps) (hr:ikRun T H (.mx y l)=some (v,H')):Out P o a σ H w v H':=by
 have h1:=opd_ok hR hT hx
 have h2:=opds_ok hR hT hl
 simp only [ikRun] at hr
 cases hm:minmaxs false (y.ev T) (evs T l) with
 | none=>rw [hm] at hr;cases hr
 | some u=>
  rw [hm] at hr
  simp only [Option.some.injEq,Prod.mk.injEq] at hr
  obtain ⟨rfl,rfl⟩:=hr
  obtain ⟨v',g1,g2⟩:=run_minmaxs (P:=P) (w:=w) (low:=false) hm h1 h2
  refine .pure hR (v':=v') (run_call_builtin ho hc ?_) g2
  refine run_v ?_
  unfold Builtin.max_
  rw [Array.toList_map,ha]
  exact g1
end
section
variable {P:Program} {σ:Sg} {H:Hp} {w:World} {nt:Nat} {T:Tr AV} {a:Act}
theorem bytesV_ok: ∀ l:List UInt8,VRs σ (bytesV (l.map (·.toNat))) (l.map fun b=>Value.int .u8 b.toNat)
 | []=> .nil
 | b::l=> .cons (.int _ _) (bytesV_ok l)
theorem bytesV_sc: ∀ (l:List Nat), ∀ a∈bytesV l,a.sc=true
 | [],a,h=>by cases h
 | b::l,a,h=>by
  cases h with
  | head=>rfl
  | tail _ h=>exact bytesV_sc l a h
theorem bytesV_length: ∀ l:List Nat,(bytesV l).length=l.length
 | []=>rfl
 | _::l=>by simp [bytesV,bytesV_length l]
theorem firsts_ok (hR:Rel (gp P) σ H w) {es n len:Nat} {x:AV} {xe:Value} {cs:List AV} (h:firsts H es n x=some cs) (hx:VR σ x xe) (hl:lenV x=some len) (hn:n≤len):
  ∃ vs,VRs σ cs vs∧(∀ m,(Builtin.firstCells es n xe).run P { w with drawn:=m }= .ok vs.toArray { w with drawn:=m })∧(∀ a∈cs,a.sc=true)∧cs.length=n*es:=by
 cases hx <;> simp only [firsts,lenV,reduceCtorEq,Option.some.injEq] at h hl
 ·rename_i s
  split at h
  case h_2=>cases h
  rename_i hq
  have hq:=Tr.beq_t hq
  subst hq
  obtain rfl:=Option.some.inj h
  refine ⟨((s.data.toList.take n).map fun b=>Value.int .u8 b.toNat),?_,?_,bytesV_sc _,by rw [bytesV_length,takeL_eq,List.length_take,hl];omega⟩
  ·rw [takeL_eq, ←List.map_take]
   exact bytesV_ok _
  ·intro m
   unfold Builtin.firstCells
   show Result.ok _ _=_
   congr 1
   apply Array.toList_inj.1
   rw [ByteArray.data_extract,Array.toList_map,Array.toList_extract,List.extract_eq_take_drop]
   simp
 ·split at h
  ·rename_i hq
   have hq:=Tr.beq_t hq
   subst hq
   obtain rfl:=Option.some.inj h
   exact ⟨[], .nil,fun m=>rfl,fun a ha=>(by cases ha),by simp⟩
  ·cases h
 ·subst hl
  rename_i b o len cap ex l off' cap' hσ hcap ho hlc
  split at h
  ·rename_i hq
   have hq:=Tr.beq_t hq
   subst hq
   obtain rfl:=Option.some.inj h
   refine ⟨[], .nil,fun m=>?_,fun a ha=>(by cases ha),by simp⟩
   unfold Builtin.firstCells
   simp only [Nat.zero_mul]
   rfl
  ·rename_i hq
   have hq:=Tr.beq_f hq
   have hc0:cap'≠0:=by rw [hcap];split <;> omega
   obtain rfl:=ho hc0
   obtain ⟨l',vs,g0,g1,g2,g3,g6⟩:=hR.load h
   rw [hσ] at g0
   obtain rfl:=Option.some.inj g0
   refine ⟨vs,g1,fun m=>?_,g6,by rw [g1.length,g2]⟩
   unfold Builtin.firstCells
   have:=run_loadCells_list (P:=P) { w with drawn:=m } ⟨l.blk,l.off+o,none⟩ vs (fun j v e=>by rw [add_at];exact g3 j v e)
   rwa [g2] at this
theorem strV_ok: ∀ {cs:List AV} {s:List Nat} {vs:List Value},strV cs=some s→VRs σ cs vs→ ∃ bs:List UInt8,s=bs.map (·.toNat)∧vs=(bs.map fun b=>((b.toNat:Nat):Int)).map (Value.int .u8)
 | [],s,_,h, .nil=>by obtain rfl:=Option.some.inj h;exact ⟨[],rfl,rfl⟩
 | x::cs,s,_,h, .cons hx ht=>by
  unfold strV at h
  split at h
  ·rename_i hh;cases hh
  ·rename_i n l hh
   injection hh with h1 h2
   subst h1 h2
   split at h
   ·rename_i hq
    rw [blt_t] at hq
    split at h
    ·rename_i r hr
     obtain rfl:=Option.some.inj h
     cases hx
     obtain ⟨bs,rfl,rfl⟩:=strV_ok hr ht
     have hn:(UInt8.ofNat n).toNat=n:=by rw [UInt8.toNat_ofNat'];omega
     exact ⟨UInt8.ofNat n::bs,by simp [hn],by simp [hn]⟩
    ·cases h
   ·cases h
  ·cases h
theorem fold_push: ∀ (bs:List UInt8) (s:ByteArray),((bs.map fun b=>((b.toNat:Nat):Int)).foldl (fun r n=>r.push (UInt8.ofNat n.toNat)) s).data.toList=s.data.toList++bs
 | [],s=>by simp
 | b::bs,s=>by
  rw [List.map_cons,List.foldl_cons,fold_push bs]
  simp [ByteArray.push]
theorem ok_toStr {o:Oper} {s d e:TypeId} {x:Operand} {y:Opd} {v:AV} {H':Hp} (ho:o.op= .convert s d x) (hs:P.underlying s=some (.slice e)) (hd:P.underlying d=some .string) (he:P.underlying e=some (.int .u8)) (hx:cOpd P x=some y) (hR:Rel (gp P) σ H w) (hT:TR σ nt T a.tmps) (hr:ikRun T H (.toStr y)=some (v,H')):Out P o a σ H w v H':=by
 have h1:=opd_ok hR hT hx
 simp only [ikRun] at hr
 generalize y.ev T=yv at h1 hr
 generalize hxe:a.eval x=xe at h1
 have key: ∀ (A:Option Addr) (l c:Nat) (v':Value),xe= .slice A l c→(Conv.bytesToString (.slice A l c)).run P w= .ok v' w→(execOp a.eval o).run P w= .ok (.value v') w:=fun A l c v' e1 h=>by
  unfold execOp;rw [ho];simp only [hxe]
  subst e1
  refine run_v ?_
  rw [run_convert_bytes_string w s d e A l c hs he hd]
  exact h
 split at hr
 ·simp only [Option.some.injEq,Prod.mk.injEq] at hr
  obtain ⟨rfl,rfl⟩:=hr
  cases h1
  exact .pure hR (key _ _ _ (.string .empty) rfl rfl) (.str .empty)
 ·rename_i b o2 len c ex
  cases hf:firsts H 1 len (.slice b o2 len c ex) with
  | none=>rw [hf] at hr;cases hr
  | some cs=>
   rw [hf] at hr
   simp only at hr
   cases hst:strV cs with
   | none=>rw [hst] at hr;cases hr
   | some str=>
    rw [hst] at hr
    simp only [Option.some.injEq,Prod.mk.injEq] at hr
    obtain ⟨rfl,rfl⟩:=hr
    obtain ⟨vs,g1,g2,g3,_⟩:=firsts_ok hR hf h1 rfl (Nat.le_refl _)
    have g2:=g2 w.drawn
    cases h1
    rename_i l off' cap' hσ ho2 hlc hcap
    obtain ⟨bs,rfl,rfl⟩:=strV_ok hst g1
    unfold Builtin.firstCells at g2
    simp only [Nat.mul_one] at g2
    refine .pure hR (key _ _ _ _ rfl (run_bytesToString w _ len _ _ g2)) ?_
    have:=VR.str (σ:=σ) ((bs.map fun b=>((b.toNat:Nat):Int)).foldl (fun r n=>r.push (UInt8.ofNat n.toNat)) ByteArray.empty)
    rw [fold_push] at this
    simpa using this
 ·cases hr
theorem ok_copy {o:Oper} {c:Call} {t e:TypeId} {n:Nat} {x z:Operand} {x' z':Opd} {v:AV} {H':Hp} (ho:o.op= .call c) (hc:c.callee= .builtin .copy) (ha:c.args= #[x,z]) (htt:c.argTypes[0]? =some t) (ht:P.underlying t=some (.slice e)) (hn:tSize P e=some n) (hx:cOpd P x=some x') (hz:cOpd P z=some z') (hR:Rel (gp P) σ H w) (hT:TR σ nt T a.tmps) (hr:ikRun T H (.copy n x' z')=some (v,H')):Out P o a σ H w v H':=by
 have h1:=opd_ok hR hT hx
 have h2:=opd_ok hR hT hz
 simp only [ikRun] at hr
 generalize x'.ev T=xv at h1 hr
 generalize z'.ev T=zv at h2 hr
 generalize hxe:a.eval x=xe at h1
 generalize hze:a.eval z=ze at h2
 cases hlx:lenV xv with
 | none=>rw [hlx] at hr;cases hr
 | some d=>
  cases hlz:lenV zv with
  | none=>rw [hlx,hlz] at hr;cases hr
  | some m=>
   rw [hlx,hlz] at hr
   simp only at hr
   cases hf:firsts H n (minN m d) zv with
   | none=>rw [hf] at hr;cases hr
   | some cs=>
    rw [hf] at hr
    simp only at hr
    rw [minN_eq] at hf hr
    obtain ⟨vs,g1,g2,g3,g4⟩:=firsts_ok hR hf h2 hlz (Nat.min_le_left _ _)
    have g2:(Builtin.firstCells n (min m d) ze).run P w= .ok vs.toArray w:=g2 w.drawn
    have hlen:=h2.lenV (P:=P) (w:=w) hlz
    have key: ∀ (A:Option Addr) (cap:Nat) (w':World),xe= .slice A d cap→(∀ ad,A=some ad→(storeCells ad vs).run P w= .ok () w')→(A=none→w'=w)→(execOp a.eval o).run P w= .ok (.value (.int .i64 (.ofNat (min m d)))) w':=fun A cap w' e1 hst hno=>by
     refine run_call_builtin ho hc ?_
     rw [arg2 ha hxe hze]
     refine run_v ?_
     subst e1
     unfold Builtin.copy_
     simp only [htt,List.getElem?_toArray,List.getElem?_cons_zero,List.getElem?_cons_succ]
     show Sem.run P (bind (underlying t) _) w=_
     rw [Sem.run_bind,run_under ht]
     simp only [Result.andThen_ok]
     show Sem.run P (bind (Builtin.lenOf ze) _) w=_
     rw [Sem.run_bind,hlen]
     simp only [Result.andThen_ok]
     show Sem.run P (bind (sizeOf e) _) w=_
     rw [Sem.run_bind,run_size hn]
     simp only [Result.andThen_ok]
     show Sem.run P (bind (Builtin.firstCells n (min m d) ze) _) w=_
     rw [Sem.run_bind,g2]
     simp only [Result.andThen_ok]
     cases A with
     | none=>
      rw [hno rfl]
      rfl
     | some ad=>
      show Sem.run P (bind (storeCells ad vs) _) w=_
      rw [Sem.run_bind,hst ad rfl]
      rfl
    split at hr
    ·rename_i b o2 len cap ex
     simp only [lenV,Option.some.injEq] at hlx
     subst hlx
     cases hs:H.store b o2 cs with
     | none=>rw [hs] at hr;cases hr
     | some H2=>
      rw [hs] at hr
      simp only [Option.some.injEq,Prod.mk.injEq] at hr
      obtain ⟨rfl,rfl⟩:=hr
      cases h1
      rename_i l off' cap' hσ ho2 hlc hcap
      by_cases hz0:cap'=0
      ·have hl0:len=0:=by rw [hcap] at hz0;split at hz0 <;> omega
       subst hl0
       have hcs:cs=[]:=by
        have:min m 0=0:=by omega
        rw [this] at hf
        cases h2 <;> simp [firsts,takeL,bytesV,Nat.beq] at hf <;> first | exact hf.symm | exact hf | (split at hf <;> first | (exact (Option.some.inj hf).symm) | cases hf)
       subst hcs
       cases g1
       obtain ⟨w',q1,q2,q3⟩:=hR.store_at P hs hσ (vals:=[]) .nil
       have:w'=w:=by injection q1 with _ h;exact h.symm
       subst this
       exact ⟨σ,_,w',_,key _ _ w' rfl (fun ad _=>rfl) (fun h=>by cases h), .inl rfl, .int _ _,q2,q3⟩
      ·obtain rfl:=ho2 hz0
       obtain ⟨w',q1,q2,q3⟩:=hR.store_at P hs hσ g1
       exact ⟨σ,_,w',_,key _ _ w' rfl (fun ad h=>by obtain rfl:=Option.some.inj h;exact q1) (fun h=>by cases h), .inl rfl, .int _ _,q2,q3⟩
    ·simp only [lenV,Option.some.injEq] at hlx
     subst hlx
     simp only [Option.some.injEq,Prod.mk.injEq] at hr
     obtain ⟨rfl,rfl⟩:=hr
     cases h1
     exact .pure hR (key _ _ w rfl (fun ad h=>by cases h) (fun _=>rfl)) (.int _ _)
    ·cases hr
theorem repV_length (z:List AV): ∀ n,(repV z n).length=n*z.length
 | 0=>by simp [repV]
 | n+1=>by rw [repV,List.length_append,repV_length z n,Nat.add_mul,Nat.one_mul,Nat.add_comm]
theorem repV_sc {z:List AV} (h: ∀ a∈z,a.sc=true): ∀ n, ∀ a∈repV z n,a.sc=true
 | 0,a,ha=>by cases ha
 | n+1,a,ha=>by
  rw [repV,List.mem_append] at ha
  rcases ha with ha | ha
  ·exact h a ha
  ·exact repV_sc h n a ha
theorem zeroCells_succ (z:Array Value) (n:Nat):(Builtin.zeroCells z (n+1)).toList=z.toList++(Builtin.zeroCells z n).toList:=by
 unfold Builtin.zeroCells
 apply List.ext_getElem?
 intro i
 simp only [Array.toList_map,Array.toList_range,List.getElem?_map]
 by_cases h:i<z.size
 ·rw [List.getElem?_append_left (by simpa using h),List.getElem?_range (by rw [Nat.add_mul];omega)]
  simp [Nat.mod_eq_of_lt h,h]
 ·rw [List.getElem?_append_right (by simpa using h)]
  simp only [Array.length_toList,List.getElem?_map]
  by_cases h2:i<(n+1)*z.size
  ·rw [List.getElem?_range h2,List.getElem?_range (by rw [Nat.add_mul] at h2;omega)]
   simp only [Option.map_some]
   rw [show i%z.size=(i-z.size)%z.size by
    conv=>lhs;rw [show i=(i-z.size)+z.size by omega]
    rw [Nat.add_mod_right]]
  ·rw [List.getElem?_eq_none (by simpa using h2),List.getElem?_eq_none (by rw [Nat.add_mul] at h2;simp;omega)]
theorem repV_ok {z:List AV} {zs:Array Value} (h:VRs σ z zs.toList): ∀ n,VRs σ (repV z n) (Builtin.zeroCells zs n).toList
 | 0=>by simp [repV,Builtin.zeroCells];exact .nil
 | n+1=>by rw [repV,zeroCells_succ];exact h.append (repV_ok h n)
theorem ok_clear {o:Oper} {c:Call} {t e:TypeId} {x:Operand} {x':Opd} {z:Value} {zl:List AV} {v:AV} {H':Hp} (ho:o.op= .call c) (hc:c.callee= .builtin .clear) (ha:c.args= #[x]) (htt:c.argTypes[0]? =some t) (ht:P.underlying t=some (.slice e)) (hz:tZero P e=some z) (hzl:cScs z.cells.toList=some zl) (hx:cOpd P x=some x') (hR:Rel (gp P) σ H w) (hT:TR σ nt T a.tmps) (hr:ikRun T H (.clear zl x')=some (v,H')):Out P o a σ H w v H':=by
 have h1:=opd_ok hR hT hx
 simp only [ikRun] at hr
 generalize x'.ev T=xv at h1 hr
 generalize hxe:a.eval x=xe at h1
 split at hr
 ·simp only [Option.some.injEq,Prod.mk.injEq] at hr
  obtain ⟨rfl,rfl⟩:=hr
  cases h1
  refine .pure hR (v':=undef) (run_call_builtin ho hc ?_) VR.undef
  rw [argOne ha hxe]
  refine run_v ?_
  unfold Builtin.clear_
  simp only [htt,List.getElem?_toArray,List.getElem?_cons_zero]
  show Sem.run P (bind (underlying t) _) w=_
  rw [Sem.run_bind,run_under ht]
  rfl
 ·rename_i b o2 len cap ex
  split at hr
  ·rename_i hq
   have hq:=Tr.beq_t hq
   subst hq
   simp only [Option.some.injEq,Prod.mk.injEq] at hr
   obtain ⟨rfl,rfl⟩:=hr
   cases h1
   refine .pure hR (v':=undef) (run_call_builtin ho hc ?_) VR.undef
   rw [argOne ha hxe]
   refine run_v ?_
   unfold Builtin.clear_
   simp only [htt,List.getElem?_toArray,List.getElem?_cons_zero]
   show Sem.run P (bind (underlying t) _) w=_
   rw [Sem.run_bind,run_under ht]
   rfl
  ·rename_i hq
   have hq:=Tr.beq_f hq
   cases hs:H.store b o2 (repV zl len) with
   | none=>rw [hs] at hr;cases hr
   | some H2=>
    rw [hs] at hr
    simp only [Option.some.injEq,Prod.mk.injEq] at hr
    obtain ⟨rfl,rfl⟩:=hr
    cases h1
    rename_i l off' cap' hσ ho2 hlc hcap
    obtain rfl:=ho2 (by rw [hcap];split <;> omega)
    obtain ⟨w',q1,q2,q3⟩:=hR.store_at P hs hσ (repV_ok (cScs_ok hzl) len)
    refine ⟨σ,undef,w',_,run_call_builtin ho hc ?_, .inl rfl,VR.undef,q2,q3⟩
    rw [argOne ha hxe]
    refine run_v ?_
    unfold Builtin.clear_
    simp only [htt,List.getElem?_toArray,List.getElem?_cons_zero]
    show Sem.run P (bind (underlying t) _) w=_
    rw [Sem.run_bind,run_under ht]
    simp only [Result.andThen_ok]
    cases len with
    | zero=>exact absurd rfl hq
    | succ len=>
     show Sem.run P (bind (zeroValue e) _) w=_
     rw [Sem.run_bind,run_zero hz]
     simp only [Result.andThen_ok]
     show Sem.run P (bind (storeCells _ _) _) w=_
     rw [Sem.run_bind,q1]
     rfl
 ·cases hr
end
end Go.Proofs.YtgfcgkbbmcgjmaaGreatDoor.Eng
