/- The engine, part Ec: an interpreter of the program's elaborated code over a heap of its own, and that what it answers the machine answers. -/
import Derived.Laws.MakeOwn
import Derived.Test.YtgfcgkbbmcgjmaaGreatDoorDEb
namespace Go.Proofs.YtgfcgkbbmcgjmaaGreatDoor.Eng
set_option linter.unusedVariables false
set_option linter.unusedSimpArgs false
section
variable {P:Program} {σ:Sg} {H:Hp} {w:World} {nt:Nat} {T:Tr AV} {a:Act}
theorem fold_cells (off:Nat): ∀ (l:List Value) (k:Nat) (cs:Array Value),((l.zipIdx k).foldl (fun cs (x:Value × Nat)=>cs.setIfInBounds (off+x.2) x.1) cs).size=cs.size∧
  ∀ i,((l.zipIdx k).foldl (fun cs (x:Value × Nat)=>cs.setIfInBounds (off+x.2) x.1) cs)[i]? =if off+k≤i∧i<off+k+l.length∧i<cs.size then l[i-(off+k)]? else cs[i]?
 | [],k,cs=>⟨rfl,fun i=>by rw [if_neg (by simp only [List.length_nil];omega)];rfl⟩
 | v::l,k,cs=>by
  rw [List.zipIdx_cons,List.foldl_cons]
  obtain ⟨h1,h2⟩:=fold_cells off l (k+1) (cs.setIfInBounds (off+k) v)
  refine ⟨by rw [h1];simp,fun i=>?_⟩
  rw [h2 i]
  by_cases q:i=off+k
  ·subst q
   rw [if_neg (by omega)]
   by_cases q2:off+k<cs.size
   ·rw [if_pos ⟨Nat.le_refl _,by simp,q2⟩,Nat.sub_self]
    simp [Array.getElem?_setIfInBounds_self,q2]
   ·rw [if_neg (by omega)]
    simp [Array.getElem?_setIfInBounds_self,q2]
  ·rw [Array.getElem?_setIfInBounds_ne (fun e=>q e.symm)]
   by_cases q2:off+(k+1)≤i∧i<off+(k+1)+l.length∧i<cs.size
   ·rw [if_pos (by simpa using q2),if_pos (by simp only [List.length_cons];omega),show i-(off+k)=(i-(off+(k+1)))+1 by omega];simp
   ·rw [if_neg (by simpa using q2),if_neg (by simp only [List.length_cons];omega)]
inductive VRp (σ:Sg) (place:Nat→Option (Nat × Nat)):List (Nat × Nat × AV)→List (Nat × Value)→Prop where
 | nil:VRp σ place [] []
 | cons {i off n:Nat} {x:AV} {v:Value} {l:List (Nat × Nat × AV)} {r:List (Nat × Value)} (hp:place i=some (off,n)) (h:VR σ x v) (t:VRp σ place l r):VRp σ place ((off,n,x)::l) ((i,v)::r)
theorem parts_ok (hR:Rel (gp P) σ H w) (hT:TR σ nt T a.tmps) {place:Nat→Option (Nat × Nat)}: ∀ {ps:List (Nat × Operand)} {qs:List (Nat × Nat × Opd)},cParts P place ps=some qs→VRp σ place (evp T qs) (ps.map fun (i,x)=>(i,a.eval x))
 | [],_,h=>by obtain rfl:=Option.some.inj h;exact .nil
 | (i,x)::ps,qs,h=>by
  rw [cParts] at h
  split at h
  ·rename_i off n y hp hy
   split at h
   ·rename_i r hr
    obtain rfl:=Option.some.inj h
    exact .cons hp (opd_ok hR hT hy) (parts_ok hR hT hr)
   ·cases h
  ·cases h
theorem fill_ok {place:Nat→Option (Nat × Nat)}: ∀ {ps:List (Nat × Nat × AV)} {rs:List (Nat × Value)} {cells cs:List AV} {vs:Array Value},VRp σ place ps rs→fillP cells ps=some cs→VRs σ cells vs.toList→ ∃ vs',Instr.fill place vs rs=some vs'∧VRs σ cs vs'.toList
 | _,_,cells,cs,vs, .nil,h,hv=>by obtain rfl:=Option.some.inj h;exact ⟨vs,rfl,hv⟩
 | _,_,cells,cs,vs, .cons (i:=i) (off:=off) (n:=n) (x:=x) (v:=v) hp hx ht,h,hv=>by
  rw [fillP] at h
  split at h
  ·rename_i hq
   rw [Bool.and_eq_true] at hq
   have hq1:=Tr.beq_t hq.1
   have hn0:n≠0:=by
    have:=hq.2
    cases e:Nat.beq n 0 with
    | true=>rw [e] at this;cases this
    | false=>exact Tr.beq_f e
   split at h
   ·rename_i c1 hov
    have hcl:=hx.cells
    have hlen:=hcl.length
    have hvl:=hv.length
    have hfit:=over_fits _ _ _ _ hov (by intro e;rw [e] at hq1;exact hn0 hq1.symm)
    obtain ⟨g1,g2⟩:=over_get _ _ _ _ hov
    obtain ⟨f1,f2⟩:=fold_cells off v.cells.toList 0 vs
    have hsz:v.cells.size=n:=by rw [←hq1,hlen];simp
    have hvs:vs.size=cells.length:=by rw [hvl];simp
    obtain ⟨vs',r1,r2⟩:=fill_ok ht h (vs:=(v.cells.toList.zipIdx 0).foldl (fun cs (x:Value × Nat)=>cs.setIfInBounds (off+x.2) x.1) vs) (VRs.of_get (by rw [g1];simp [f1,hvs]) fun j b hb=>by
     rw [g2 j] at hb
     rw [Array.getElem?_toList,f2 j]
     by_cases q:off≤j∧j<off+x.cells.length
     ·rw [if_pos q] at hb
      rw [if_pos (by rw [hvs];simp only [Array.length_toList];omega)]
      obtain ⟨u,e,hu⟩:=hcl.get _ _ hb
      exact ⟨u,e,hu⟩
     ·rw [if_neg q] at hb
      rw [if_neg (by simp only [Array.length_toList];omega)]
      obtain ⟨u,e,hu⟩:=hv.get _ _ hb
      exact ⟨u,by simpa using e,hu⟩)
    refine ⟨vs',?_,r2⟩
    rw [Instr.fill,hp]
    simp only
    rw [if_neg (by rw [hsz,hvs];simp;omega)]
    rw [←r1]
    congr 1
    rw [←Array.foldl_toList,Array.toList_zipIdx]
   ·cases h
  ·cases h
theorem run_mapM_list {α β:Type} (f:α→Sem β) (g:α→β): ∀ (l:List α) (acc:Array β),(∀ x∈l,(f x).run P w= .ok (g x) w)→(l.mapM f).run P w= .ok (l.map g) w
 | [],_,_=>rfl
 | x::l,acc,h=>by
  rw [List.mapM_cons]
  show Sem.run P (bind (f x) _) w=_
  rw [Sem.run_bind,h x (by simp)]
  simp only [Result.andThen_ok]
  show Sem.run P (bind (l.mapM f) _) w=_
  rw [Sem.run_bind,run_mapM_list f g l acc (fun y hy=>h y (by simp [hy]))]
  rfl
end
theorem Fr.drew {σ σ':Sg} {H H':Hp} {w w':World} (h:Fr σ H w σ' H' w') (n:Nat):Fr σ H w σ' H' { w' with drawn:=n }:=⟨h.ext,h.os,h.tape,h.output,h.size,h.keep,h.own,h.nx,h.dom,h.ro⟩
section
variable {P:Program} {σ:Sg} {H:Hp} {w:World} {nt:Nat} {T:Tr AV} {a:Act}
theorem ok_buildS {o:Oper} {t:TypeId} {ps:Array (Nat × Operand)} {fs:Array Field} {z:Value} {zl:List AV} {qs:List (Nat × Nat × Opd)} {v:AV} {H':Hp} (ho:o.op= .build t ps) (hz:tZero P t=some z) (hzl:cScs z.cells.toList=some zl) (ht:P.underlying t=some (.struct fs)) (hall:(fs.toList.all fun f=>(tSize P f.type).isSome)=true)
  (hq:cParts P (fun (i:Nat)=>match fs[i]? with | some f=>(match tSize P f.type with | some n=>some (f.offset,n) | none=>none) | none=>none) ps.toList=some qs) (hR:Rel (gp P) σ H w) (hT:TR σ nt T a.tmps) (hr:ikRun T H (.build zl qs)=some (v,H')):Out P o a σ H w v H':=by
 have h1:=parts_ok hR hT hq
 simp only [ikRun] at hr
 cases hf:fillP zl (evp T qs) with
 | none=>rw [hf] at hr;cases hr
 | some cs=>
  rw [hf] at hr
  simp only [Option.some.injEq,Prod.mk.injEq] at hr
  obtain ⟨rfl,rfl⟩:=hr
  have hm:(fs.mapM fun (f:Field)=>(do pure (f.offset, ←sizeOf f.type):Sem (Nat × Nat))).run P w= .ok (fs.map fun (f:Field)=>(f.offset,(tSize P f.type).getD 0)) w:=by
   rw [Array.mapM_eq_mapM_toList]
   rw [Sem.run_map,run_mapM_list _ (fun (f:Field)=>(f.offset,(tSize P f.type).getD 0)) _ #[] (fun f hm=>by
    obtain ⟨n,hn⟩:=Option.isSome_iff_exists.1 (List.all_eq_true.1 hall f hm)
    show Sem.run P (bind (sizeOf f.type) _) w=_
    rw [Sem.run_bind,run_size hn,hn]
    rfl)]
   simp only [Result.andThen_ok]
   congr 1
   apply Array.toList_inj.1
   simp
  have hpl:(fun (i:Nat)=>(fs.map fun (f:Field)=>(f.offset,(tSize P f.type).getD 0))[i]?)=(fun (i:Nat)=>match fs[i]? with | some f=>(match tSize P f.type with | some n=>some (f.offset,n) | none=>none) | none=>none):=by
   funext i
   rw [Array.getElem?_map]
   cases e:fs[i]? with
   | none=>rfl
   | some f=>
    obtain ⟨n,hn⟩:=Option.isSome_iff_exists.1 (List.all_eq_true.1 hall f (by
     have:=Array.mem_of_getElem? e
     exact Array.mem_def.1 this))
    simp [hn]
  obtain ⟨vs',g1,g2⟩:=fill_ok h1 hf (cScs_ok (σ:=σ) hzl)
  refine .pure hR (v':= .agg vs') ?_ (.agg _ _ g2)
  unfold execOp;rw [ho];simp only
  refine run_v ?_
  unfold Instr.build
  show Sem.run P (bind (zeroValue t) _) w=_
  rw [Sem.run_bind,run_zero hz]
  simp only [Result.andThen_ok]
  show Sem.run P (bind (underlying t) _) w=_
  rw [Sem.run_bind,run_under ht]
  simp only [Result.andThen_ok]
  show Sem.run P (bind (fs.mapM fun (f:Field)=>(do pure (f.offset, ←sizeOf f.type):Sem (Nat × Nat))) _) w=_
  rw [Sem.run_bind,hm]
  simp only [Result.andThen_ok]
  rw [hpl,Array.toList_map]
  rw [g1]
  rfl
theorem ok_buildA {o:Oper} {t e:TypeId} {ps:Array (Nat × Operand)} {k0 n:Nat} {z:Value} {zl:List AV} {qs:List (Nat × Nat × Opd)} {v:AV} {H':Hp} (ho:o.op= .build t ps) (hz:tZero P t=some z) (hzl:cScs z.cells.toList=some zl) (ht:P.underlying t=some (.array k0 e)) (hn:tSize P e=some n)
  (hq:cParts P (fun i=>some (i*n,n)) ps.toList=some qs) (hR:Rel (gp P) σ H w) (hT:TR σ nt T a.tmps) (hr:ikRun T H (.build zl qs)=some (v,H')):Out P o a σ H w v H':=by
 have h1:=parts_ok hR hT hq
 simp only [ikRun] at hr
 cases hf:fillP zl (evp T qs) with
 | none=>rw [hf] at hr;cases hr
 | some cs=>
  rw [hf] at hr
  simp only [Option.some.injEq,Prod.mk.injEq] at hr
  obtain ⟨rfl,rfl⟩:=hr
  obtain ⟨vs',g1,g2⟩:=fill_ok h1 hf (cScs_ok (σ:=σ) hzl)
  refine .pure hR (v':= .agg vs') ?_ (.agg _ _ g2)
  unfold execOp;rw [ho];simp only
  refine run_v ?_
  unfold Instr.build
  show Sem.run P (bind (zeroValue t) _) w=_
  rw [Sem.run_bind,run_zero hz]
  simp only [Result.andThen_ok]
  show Sem.run P (bind (underlying t) _) w=_
  rw [Sem.run_bind,run_under ht]
  simp only [Result.andThen_ok]
  show Sem.run P (bind (sizeOf e) _) w=_
  rw [Sem.run_bind,run_size hn]
  simp only [Result.andThen_ok]
  rw [Array.toList_map]
  rw [g1]
  rfl
def MkOut (P:Program) (o:Oper) (a:Act) (σ:Sg) (H:Hp) (w:World) (d:Hd) (cs:List AV) (es:Nat):Prop:=
 ∃ v' w' room ob,(execOp a.eval o).run P w= .ok (.value v') w'∧w'={ w with heap:=w.heap.push ob,drawn:=w'.drawn }∧
  (∀ σ' i,σ' i=some ⟨w.heap.size,0,room⟩→VR σ' (d.at_ i) v')∧
  (∀ i n,σ i=none→i<n→H.nx≤n→Rel (gp P) (up σ i ⟨w.heap.size,0,room⟩) ⟨H.m.set i (some ⟨cs,es,true⟩),n⟩ w')
theorem MkOut.out {o:Oper} {d:Hd} {cs:List AV} {es:Nat} (hR:Rel (gp P) σ H w) (h:MkOut P o a σ H w d cs es):Out P o a σ H w (d.at_ H.nx) (H.new cs es):=by
 obtain ⟨v',w',room,ob,h1,h2,h3,h4⟩:=h
 refine ⟨up σ H.nx ⟨w.heap.size,0,room⟩,v',w',_,h1, .inl rfl,h3 _ _ (up_same _ _),h4 _ _ hR.fresh (Nat.lt_succ_self _) (Nat.le_succ _),?_⟩
 rw [h2]
 exact (Fr.new_at (w:=w) hR.fresh (Nat.le_succ _) (Nat.le_refl _) cs es room ob).drew w'.drawn
theorem mk_row (hR:Rel (gp P) σ H w) {cs:List AV} {es room:Nat} {vs:Array Value} (ty:TypeId) (fr:Nat × Nat) (hs: ∀ x∈cs,x.sc=true) (hsz:cs.length+room*sz es≤vs.size) (hv: ∀ (j:Nat) (x:AV),cs[j]? =some x→ ∃ v,vs[j]? =some v∧VR σ x v) (hfr: ∀ j,j<vs.size→ ¬ (fr.1≤j∧j<fr.2)) (hfe:sz es≠1→ ∀ j, ¬ (fr.1≤j∧j<fr.2)) (hty: ∀ t,es=tagN+t→ty=t∧vs.size=cs.length) (hone:es=esU→(gp P).one ty) (m:Nat) (i n:Nat) (hi:σ i=none) (hn:i<n) (hn2:H.nx≤n):
  Rel (gp P) (up σ i ⟨w.heap.size,0,room⟩) ⟨H.m.set i (some ⟨cs,es,true⟩),n⟩ { w with heap:=w.heap.push (.cells vs ty fr),drawn:=m }:=
 (hR.new_at hs ty hsz hv fr hfr hfe hty hone i n hi hn hn2).drew m
theorem one_of {e:TypeId} (h:tSize P e=some 1):P.cellsOf e=1:=by
 unfold tSize at h;unfold Program.cellsOf;rw [h];rfl
theorem tag_ne (t:Nat):tagN+t≠esU:=by unfold esU tagN;omega
theorem fr0 {n:Nat}: ∀ j,j<n→ ¬ (((0,0):Nat × Nat).1≤j∧j<((0,0):Nat × Nat).2):=fun j _ h=>by simp at h
theorem mk_box {o:Oper} {e:TypeId} {n:Nat} {x:Operand} {y:Opd} {d:Hd} {cs:List AV} {es:Nat} (ho:o.op= .box e x) (hx:cOpd P x=some y) (hR:Rel (gp P) σ H w) (hT:TR σ nt T a.tmps) (hr:ikMk T (.box n e y)=some (d,cs,es)):MkOut P o a σ H w d cs es:=by
 have h1:=opd_ok hR hT hx
 simp only [ikMk] at hr
 split at hr
 ·rename_i hq
  rw [Bool.and_eq_true] at hq
  simp only [Option.some.injEq,Prod.mk.injEq] at hr
  obtain ⟨rfl,rfl,rfl⟩:=hr
  have hc:=h1.cells
  refine ⟨.pointer (some ⟨w.heap.size,0,none⟩),{ w with heap:=w.heap.push (.cells (a.eval x).cells e) },0,_,?_,rfl,fun σ' i h=> .ptr i 0 _ h,fun i n hi hn hn2=>?_⟩
  ·unfold execOp;rw [ho];rfl
  ·exact mk_row hR e (0,0) (scAll_mem hq.2) (by rw [hc.length];simp) (fun j b hb=>by obtain ⟨u,e1,hu⟩:=hc.get j b hb;exact ⟨u,by simpa using e1,hu⟩) fr0 (fun _ j h=>by simp at h) (fun t ht=>⟨Nat.add_left_cancel ht,by rw [hc.length];simp⟩) (fun q=>absurd q (tag_ne _)) w.drawn i n hi hn hn2
 ·cases hr
theorem mk_alloc {o:Oper} {e:TypeId} {z:Value} {y:AV} {n:Nat} {d:Hd} {cs:List AV} {es:Nat} (ho:o.op= .alloc e) (hz:tZero P e=some z) (hy:cVal z=some y) (hR:Rel (gp P) σ H w) (hr:ikMk T (.box n e (.c y))=some (d,cs,es)):MkOut P o a σ H w d cs es:=by
 have h1:VR σ y z:=cVal_ok hy
 simp only [ikMk,Opd.ev] at hr
 split at hr
 ·rename_i hq
  rw [Bool.and_eq_true] at hq
  simp only [Option.some.injEq,Prod.mk.injEq] at hr
  obtain ⟨rfl,rfl,rfl⟩:=hr
  have hc:=h1.cells
  refine ⟨.pointer (some ⟨w.heap.size,0,none⟩),{ w with heap:=w.heap.push (.cells z.cells e) },0,_,?_,rfl,fun σ' i h=> .ptr i 0 _ h,fun i n hi hn hn2=>?_⟩
  ·unfold execOp;rw [ho];simp only
   refine run_v ?_
   unfold Instr.alloc
   show Sem.run P (bind (zeroValue e) _) w=_
   rw [Sem.run_bind,run_zero hz]
   rfl
  ·exact mk_row hR e (0,0) (scAll_mem hq.2) (by rw [hc.length];simp) (fun j b hb=>by obtain ⟨u,e1,hu⟩:=hc.get j b hb;exact ⟨u,by simpa using e1,hu⟩) fr0 (fun _ j h=>by simp at h) (fun t ht=>⟨Nat.add_left_cancel ht,by rw [hc.length];simp⟩) (fun q=>absurd q (tag_ne _)) w.drawn i n hi hn hn2
 ·cases hr
theorem zcells_ok {z:List AV} {zs:Array Value} (h:VRs σ z zs.toList) (h0:0<z.length) (n:Nat):VRs σ (zcells z n) ((Array.range n).map (fun i=>zs[i%zs.size]!)).toList:=by
 have hl:z.length=zs.size:=by rw [h.length];simp
 refine VRs.of_get (by simp [zcells]) fun j b hb=>?_
 unfold zcells at hb
 rw [List.getElem?_map] at hb
 by_cases hj:j<n
 ·rw [List.getElem?_range hj] at hb
  simp only [Option.map_some,Option.some.injEq] at hb
  have hm:j%z.length<z.length:=Nat.mod_lt _ h0
  obtain ⟨u,e,hu⟩:=h.get (j%z.length) _ (List.getElem?_eq_getElem hm)
  refine ⟨u,?_,?_⟩
  ·rw [Array.toList_map,Array.toList_range,List.getElem?_map,List.getElem?_range hj]
   simp only [Option.map_some,Option.some.injEq]
   rw [←hl]
   have hm2:j%z.length<zs.size:=by omega
   rw [getElem!_pos zs _ hm2]
   simp at e
   obtain ⟨_,e⟩:=Array.getElem?_eq_some_iff.1 e
   exact e
  ·rw [←hb,List.getD_eq_getElem?_getD,List.getElem?_eq_getElem hm];exact hu
 ·rw [List.getElem?_eq_none (by simpa using hj)] at hb
  cases hb
theorem mk_buildSlice {o:Oper} {t e:TypeId} {len n:Nat} {ps:Array (Nat × Operand)} {z:Value} {zl:List AV} {qs:List (Nat × Nat × Opd)} {d:Hd} {cs:List AV} {es:Nat} (ho:o.op= .buildSlice t len ps) (ht:P.underlying t=some (.slice e)) (hn:tSize P e=some n) (hz:tZero P e=some z) (hzl:cScs z.cells.toList=some zl) (hlen:len*n≤4096) (hzn:zl.length=n) (hn0:0<n)
  (hq:cParts P (fun i=>some (i*n,n)) ps.toList=some qs) (hR:Rel (gp P) σ H w) (hT:TR σ nt T a.tmps) (hr:ikMk T (.buildSlice len n (zcells zl (len*n)) qs)=some (d,cs,es)):MkOut P o a σ H w d cs es:=by
 have h1:=parts_ok hR hT hq
 simp only [ikMk] at hr
 cases hf:fillP (zcells zl (len*n)) (evp T qs) with
 | none=>rw [hf] at hr;cases hr
 | some c1=>
  rw [hf] at hr
  simp only at hr
  split at hr
  ·rename_i hsc
   simp only [Option.some.injEq,Prod.mk.injEq] at hr
   obtain ⟨rfl,rfl,rfl⟩:=hr
   have hzz:=cScs_ok (σ:=σ) hzl
   obtain ⟨vs',g1,g2⟩:=fill_ok h1 hf (zcells_ok hzz (by omega) (len*n))
   refine ⟨.slice (some ⟨w.heap.size,0,none⟩) len len,{ w with heap:=w.heap.push (.cells vs' e) },0,_,?_,rfl,fun σ' i h=> .slice i 0 len len true _ 0 len h (by simp) (fun _=>rfl) (Nat.le_refl _),fun i n hi hn hn2=>?_⟩
   ·unfold execOp;rw [ho];simp only
    refine run_v ?_
    unfold Instr.buildSlice
    show Sem.run P (bind (underlying t) _) w=_
    rw [Sem.run_bind,run_under ht]
    simp only [Result.andThen_ok]
    show Sem.run P (bind (sizeOf e) _) w=_
    rw [Sem.run_bind,run_size hn]
    simp only [Result.andThen_ok]
    rw [if_neg (by omega)]
    have hfin: ∀ zz:Array Value,((Array.range (len*n)).map (fun i=>zz[i%zz.size]!))=((Array.range (len*n)).map (fun i=>z.cells[i%z.cells.size]!))→Sem.run P (do
      let some cells:=Instr.fill (fun i=>some (i*n,n)) ((Array.range (len*n)).map (fun i=>zz[i%zz.size]!)) (ps.map fun x=>(x.1,a.eval x.2)).toList
       | stuck "buildSlice: a part of the wrong size"
      pure (Value.slice (some (←newRow e cells)) len len):Sem Value) w= .ok (Value.slice (some ⟨w.heap.size,0,none⟩) len len) { w with heap:=w.heap.push (.cells vs' e) }:=fun zz ez=>by
     rw [ez,Array.toList_map]
     rw [g1]
     rfl
    split
    ·rename_i h0
     show Sem.run P (bind (pure #[]) _) w=_
     rw [Sem.run_bind]
     simp only [Sem.run_pure,Result.andThen_ok]
     exact hfin #[] (by rw [h0];simp)
    ·show Sem.run P (bind (zeroValue e) _) w=_
     rw [Sem.run_bind,run_zero hz]
     simp only [Result.andThen_ok]
     show Sem.run P (bind (pure z.cells) _) w=_
     rw [Sem.run_bind]
     simp only [Sem.run_pure,Result.andThen_ok]
     exact hfin z.cells rfl
   ·exact mk_row hR e (0,0) (scAll_mem (okNew_sc hsc)) (by rw [g2.length];simp) (fun j b hb=>by obtain ⟨u,e1,hu⟩:=g2.get j b hb;exact ⟨u,by simpa using e1,hu⟩) fr0 (fun _ j h=>by simp at h) (fun t ht=>by have:=okNew_tag hsc;omega) (fun q=>absurd q (Nat.ne_of_lt (okNew_lt hsc))) w.drawn i n hi hn hn2
  ·cases hr
end
section
variable {P:Program} {σ:Sg} {H:Hp} {w:World} {nt:Nat} {T:Tr AV} {a:Act}
theorem mk_toBytes {o:Oper} {s d0 e:TypeId} {x:Operand} {y:Opd} {d:Hd} {cs:List AV} {es:Nat} (ho:o.op= .convert s d0 x) (hs:P.underlying s=some .string) (hd:P.underlying d0=some (.slice e)) (he:P.underlying e=some (.int .u8)) (hz1:tSize P e=some 1) (hx:cOpd P x=some y) (hR:Rel (gp P) σ H w) (hT:TR σ nt T a.tmps) (hr:ikMk T (.toBytes y)=some (d,cs,es)):MkOut P o a σ H w d cs es:=by
 have h1:=opd_ok hR hT hx
 simp only [ikMk] at hr
 generalize y.ev T=yv at h1 hr
 generalize hxe:a.eval x=xe at h1
 cases h1 <;> simp only [reduceCtorEq,Option.some.injEq,Prod.mk.injEq] at hr
 obtain ⟨rfl,rfl,rfl⟩:=hr
 rename_i bs
 have hlen:(bs.data.toList.map (·.toNat)).length=bs.size:=by simp
 rw [hlen]
 obtain ⟨c,hc⟩: ∃ c,c=Question.cut (.appendCap bs.size 0 e) (w.tape w.drawn (.appendCap bs.size 0 e)):=⟨_,rfl⟩
 have hcge:bs.size≤c:=by rw [hc];exact Nat.le_add_right _ _
 obtain ⟨vs,hvs⟩: ∃ vs:Array Value,vs=(bs.data.map fun b=>Value.int .u8 b.toNat)++Array.replicate (c-bs.size) (.int .u8 0):=⟨_,rfl⟩
 have hsz:vs.size=c:=by rw [hvs];simp;have:bs.data.size=bs.size:=rfl;omega
 refine ⟨.slice (some ⟨w.heap.size,0,none⟩) bs.size c,{ w with heap:=w.heap.push (.cells vs e (vs.size,vs.size+1)),drawn:=w.drawn+1 },c-bs.size,_,?_,rfl,fun σ' i h=> .slice i 0 bs.size bs.size false _ 0 c h (by simp;omega) (fun _=>rfl) (Nat.le_refl _),fun i n hi hn hn2=>?_⟩
 ·unfold execOp;rw [ho];simp only [hxe]
  refine run_v ?_
  unfold convert
  show Sem.run P (bind (underlying s) _) w=_
  rw [Sem.run_bind,run_under hs]
  simp only [Result.andThen_ok]
  show Sem.run P (bind (underlying d0) _) w=_
  rw [Sem.run_bind,run_under hd]
  simp only [Result.andThen_ok]
  show Sem.run P (bind (underlying e) _) w=_
  rw [Sem.run_bind,run_under he]
  simp only [Result.andThen_ok]
  unfold Conv.stringToBytes
  show Sem.run P (bind (choose _) _) w=_
  rw [Sem.run_bind]
  have hch:(choose (.appendCap bs.size 0 e)).run P w= .ok c { w with drawn:=w.drawn+1 }:=by
   rw [hc];rfl
  rw [hch]
  simp only [Result.andThen_ok]
  rw [←hvs]
  show Sem.run P (bind (newRow e vs) _) _=_
  rw [Sem.run_bind]
  have hnew:(newRow e vs).run P { w with drawn:=w.drawn+1 }= .ok ⟨w.heap.size,0,none⟩ { w with heap:=w.heap.push (.cells vs e),drawn:=w.drawn+1 }:=rfl
  rw [hnew]
  simp only [Result.andThen_ok]
  show Sem.run P (bind (markStringish _) _) _=_
  rw [Sem.run_bind]
  have hmark:(markStringish ⟨w.heap.size,0,none⟩).run P { w with heap:=w.heap.push (.cells vs e),drawn:=w.drawn+1 }= .ok () { w with heap:=w.heap.push (.cells vs e (vs.size,vs.size+1)),drawn:=w.drawn+1 }:=by
   unfold markStringish shape
   show Sem.run P (bind (Sem.shape w.heap.size Sem.pure) _) _=_
   rw [Sem.run_bind]
   have hsh:World.shape? { w with heap:=w.heap.push (.cells vs e),drawn:=w.drawn+1 } w.heap.size=some (e,vs.size):=by
    unfold World.shape?
    simp
   simp only [Sem.run,hsh,Result.andThen_ok]
   unfold freeze
   simp only [Sem.run]
   congr 1
   unfold World.freeze
   rw [if_neg (by decide)]
   simp only
   congr 1
   apply Array.ext_getElem?
   intro k
   rw [Array.getElem?_modify,Array.getElem?_push,Array.getElem?_push]
   by_cases hk:k=w.heap.size
   ·subst hk;simp
   ·rw [if_neg (fun q=>hk q.symm),if_neg hk,if_neg hk]
  rw [hmark]
  rfl
 ·refine mk_row hR e (vs.size,vs.size+1) (bytesV_sc _) ?_ ?_ (fun j hj h=>by simp at h;omega) (fun h=>absurd rfl h) (fun t ht=>by unfold tagN at ht;omega) (fun q=>by cases q) (w.drawn+1) i n hi hn hn2
  ·rw [bytesV_length,hlen,hsz,show sz 1=1 by decide];omega
  ·intro j b hb
   obtain ⟨u,e1,hu⟩:=(bytesV_ok (σ:=σ) bs.data.toList).get j b hb
   refine ⟨u,?_,hu⟩
   have hj:j<bs.data.size:=by
    have:=(List.getElem?_eq_some_iff.1 e1).1
    simpa using this
   rw [hvs,Array.getElem?_append_left (by simpa using hj)]
   rw [←e1]
   simp
theorem repV_range {z:List AV} {zs:Array Value} (h:VRs σ z zs.toList) (n:Nat):VRs σ (repV z n) ((Array.range (n*zs.size)).map (fun i=>zs[i%zs.size]!)).toList:=by
 have:=repV_ok h n
 unfold Builtin.zeroCells at this
 exact this
theorem mk_makeSlice {o:Oper} {t e:TypeId} {n bs:Nat} {l c:Operand} {l' c':Opd} {z:Value} {zl:List AV} {d:Hd} {cs:List AV} {es:Nat} (ho:o.op= .makeSlice t l c) (ht:P.underlying t=some (.slice e)) (hn:tSize P e=some n) (hb:tBytes P e=some bs) (hz:tZero P e=some z) (hzl:cScs z.cells.toList=some zl) (hzn:zl.length=n)
  (hl:cOpd P l=some l') (hc:cOpd P c=some c') (hR:Rel (gp P) σ H w) (hT:TR σ nt T a.tmps) (hr:ikMk T (.mkslice n bs zl l' c')=some (d,cs,es)):MkOut P o a σ H w d cs es:=by
 have h1:=opd_ok hR hT hl
 have h2:=opd_ok hR hT hc
 simp only [ikMk] at hr
 generalize l'.ev T=lv at h1 hr
 generalize c'.ev T=cv at h2 hr
 generalize hle:a.eval l=le at h1
 generalize hce:a.eval c=ce at h2
 split at hr
 ·rename_i k1 ln k2 cp
  cases h1;cases h2
  split at hr
  ·rename_i hq
   rw [Bool.and_eq_true,Bool.and_eq_true,Bool.and_eq_true,Nat.ble_eq,Nat.ble_eq,Nat.ble_eq] at hq
   obtain ⟨q1,q2,q3,q4⟩:=hq
   simp only [Option.some.injEq,Prod.mk.injEq] at hr
   obtain ⟨rfl,rfl,rfl⟩:=hr
   have hzz:=cScs_ok (σ:=σ) hzl
   have hzs:z.cells.size=n:=by have:=hzz.length;simpa [hzn] using this.symm
   have q3':cp≤70368744177664:=q3
   have q2':cp*bs≤70368744177664:=q2
   have hn0:=hn
   unfold tSize at hn
   unfold tBytes at hb
   unfold tZero at hz
   cases hi:P.info? e with
   | none=>rw [hi] at hn;cases hn
   | some ie=>
    rw [hi] at hn hb hz
    have hn:ie.size=n:=Option.some.inj hn
    have hb:ie.bytes=bs:=Option.some.inj hb
    have hz:ie.zero=some z:=hz
    have hg:=repV_range hzz cp
    have hrun:=run_make (P:=P) w t e ie z ht hi hz k1 k2 (Int.ofNat ln) (Int.ofNat cp) (Int.natCast_nonneg _) (Int.ofNat_le.2 q1) (by
     rw [hb]
     have:((bs:Int)*(Int.ofNat cp))=((cp*bs:Nat):Int):=by rw [Nat.mul_comm];simp
     rw [this]
     omega) (by show ((cp:Nat):Int)≤_;omega)
    refine ⟨.slice (some ⟨w.heap.size,0,none⟩) ln cp,{ w with heap:=w.heap.push (.cells (madeCells z.cells (cp*ie.size)) e) },0,_,?_,rfl,fun σ' i h=> .slice i 0 ln cp true _ 0 cp h (by simp) (fun _=>rfl) q1,fun i m hi hm hm2=>?_⟩
    ·unfold execOp;rw [ho];simp only [hle,hce]
     exact run_v hrun
    ·have hmc:madeCells z.cells (cp*ie.size)=(Array.range (cp*z.cells.size)).map (fun i=>z.cells[i%z.cells.size]!):=by
      rw [show ie.size=z.cells.size from hn.trans hzs.symm];rfl
     rw [hmc]
     exact mk_row hR e (0,0) (repV_sc (cScs_sc hzl) cp) (by rw [hg.length];simp) (fun j b hb=>by obtain ⟨u,e1,hu⟩:=hg.get j b hb;exact ⟨u,by rw [←e1,Array.getElem?_toList],hu⟩) fr0 (fun _ j h=>by simp at h) (fun t ht=>by have:=okNew_tag q4;omega) (fun q=>absurd q (Nat.ne_of_lt (okNew_lt q4))) w.drawn i m hi hm hm2
  ·cases hr
 ·cases hr
end
section
variable {P:Program} {w w':World}
structure AppIn (P:Program) (argTypes:Array TypeId) (t u e es bs:Nat) (z:Value):Prop where
 ht0:argTypes[0]? =some t
 hu0:argTypes[1]? =some u
 ht:P.underlying t=some (.slice e)
 hn:tSize P e=some es
 hb:tBytes P e=some bs
 hz:tZero P e=some z
 hzs:z.cells.size=es
 hb0:bs≠0
theorem ask_ok (k:Nat):(askRoom k).run P w= .ok () w:=by
 unfold askRoom
 split <;> rfl
theorem run_append_in {argTypes:Array TypeId} {ty t u e es bs n sLen sCap:Nat} {z:Value} {d:TypeDesc} (h:AppIn P argTypes t u e es bs z) (hu:P.underlying u=some d) (hd: ∀ k,d≠ .int k) {base:Option Addr} {x:Value} {nw:List Value} (hx:(Builtin.lenOf x).run P w= .ok n w) (hnw:(Builtin.firstCells es n x).run P w= .ok nw.toArray w)
  (hfit:sLen+n≤sCap) (hst: ∀ ad,base=some ad→(storeCells (ad.add (sLen*es)) nw).run P w= .ok () w') (hno:base=none→w'=w):
  (Builtin.append_ argTypes ty #[.slice base sLen sCap,x]).run P w= .ok (.slice base (sLen+n) sCap) w':=by
 unfold Builtin.append_
 simp only [h.ht0,h.hu0,List.getElem?_toArray,List.getElem?_cons_zero,List.getElem?_cons_succ]
 show Sem.run P (bind (underlying t) _) w=_
 rw [Sem.run_bind,run_under h.ht]
 simp only [Result.andThen_ok]
 show Sem.run P (bind (sizeOf e) _) w=_
 rw [Sem.run_bind,run_size h.hn]
 simp only [Result.andThen_ok]
 show Sem.run P (bind (underlying u) _) w=_
 rw [Sem.run_bind,run_under hu]
 simp only [Result.andThen_ok]
 show Sem.run P (bind (pure false) _) w=_
 rw [Sem.run_bind]
 simp only [Sem.run_pure,Result.andThen_ok,Bool.false_eq_true,if_false,Bool.not_false,if_true]
 show Sem.run P (bind (Builtin.lenOf x) _) w=_
 rw [Sem.run_bind,hx]
 simp only [Result.andThen_ok]
 rw [if_pos hfit]
 show Sem.run P (bind (Builtin.firstCells es n x) _) w=_
 rw [Sem.run_bind,hnw]
 simp only [Result.andThen_ok]
 cases base with
 | none=>rw [hno rfl];rfl
 | some ad=>
  show Sem.run P (bind (storeCells _ _) _) w=_
  rw [Sem.run_bind,hst ad rfl]
  rfl
theorem run_append_grow {argTypes:Array TypeId} {ty t u e es bs n sLen sCap:Nat} {z:Value} {d:TypeDesc} (h:AppIn P argTypes t u e es bs z) (hu:P.underlying u=some d) (hd: ∀ k,d≠ .int k) {base:Option Addr} {x:Value} {old nw:List Value} (hx:(Builtin.lenOf x).run P w= .ok n w)
  (hnw: ∀ m,(Builtin.firstCells es n x).run P { w with drawn:=m }= .ok nw.toArray { w with drawn:=m }) (hold: ∀ m,(Builtin.firstCells es sLen (.slice base sLen sCap)).run P { w with drawn:=m }= .ok old.toArray { w with drawn:=m })
  (hfit:sCap<sLen+n) (hroom:(sLen+n)*bs≤room):
  ∃ c,sLen+n≤c∧(Builtin.append_ argTypes ty #[.slice base sLen sCap,x]).run P w= .ok (.slice (some ⟨w.heap.size,0,none⟩) (sLen+n) c)
   { w with heap:=w.heap.push (.cells (old.toArray++nw.toArray++Builtin.zeroCells z.cells (c-(sLen+n))) e),drawn:=w.drawn+1 }:=by
 have hroom':(sLen+n)*bs≤70368744177664:=hroom
 refine ⟨Question.cut (.appendCap (sLen+n) sCap e) (w.tape w.drawn (.appendCap (sLen+n) sCap e)),Nat.le_add_right _ _,?_⟩
 generalize hc:Question.cut (.appendCap (sLen+n) sCap e) (w.tape w.drawn (.appendCap (sLen+n) sCap e))=c
 obtain ⟨ie,hie,hieb⟩:=run_bytes (P:=P) (w:=w) h.hb
 have hie2: ∀ w,(typeInfo e).run P w= .ok ie w:=by
  intro w2
  have hb:=h.hb
  unfold tBytes at hb
  cases hi:P.info? e with
  | none=>rw [hi] at hb;cases hb
  | some i2=>
   have e1:=run_info (P:=P) (w:=w) hi
   rw [hie] at e1
   injection e1 with e1 _
   subst e1
   exact run_info hi
 unfold Builtin.append_
 simp only [h.ht0,h.hu0,List.getElem?_toArray,List.getElem?_cons_zero,List.getElem?_cons_succ]
 show Sem.run P (bind (underlying t) _) w=_
 rw [Sem.run_bind,run_under h.ht]
 simp only [Result.andThen_ok]
 show Sem.run P (bind (sizeOf e) _) w=_
 rw [Sem.run_bind,run_size h.hn]
 simp only [Result.andThen_ok]
 show Sem.run P (bind (underlying u) _) w=_
 rw [Sem.run_bind,run_under hu]
 simp only [Result.andThen_ok]
 show Sem.run P (bind (pure false) _) w=_
 rw [Sem.run_bind]
 simp only [Sem.run_pure,Result.andThen_ok,Bool.false_eq_true,if_false,Bool.not_false,if_true]
 show Sem.run P (bind (Builtin.lenOf x) _) w=_
 rw [Sem.run_bind,hx]
 simp only [Result.andThen_ok]
 rw [if_neg (by omega)]
 show Sem.run P (bind (typeInfo e) _) w=_
 rw [Sem.run_bind,hie]
 simp only [Result.andThen_ok]
 rw [if_neg (fun q=>by
  rcases q.2 with f | f
  ·exact f
  ·rw [hieb] at f;exact h.hb0 f)]
 show Sem.run P (bind (typeInfo e) _) w=_
 rw [Sem.run_bind,hie]
 simp only [Result.andThen_ok]
 rw [if_neg (by rw [hieb];have:=growslice_fits (bytes:=bs) hfit (by omega);omega)]
 show Sem.run P (bind (choose _) _) w=_
 rw [Sem.run_bind]
 have hch:(choose (.appendCap (sLen+n) sCap e)).run P w= .ok c { w with drawn:=w.drawn+1 }:=by
  rw [←hc];rfl
 rw [hch]
 simp only [Result.andThen_ok]
 show Sem.run P (bind (typeInfo e) _) _=_
 rw [Sem.run_bind,hie2]
 simp only [Result.andThen_ok]
 show Sem.run P (bind (askRoom _) _) _=_
 rw [Sem.run_bind,ask_ok]
 simp only [Result.andThen_ok]
 show Sem.run P (bind (Builtin.firstCells _ _ _) _) _=_
 rw [Sem.run_bind,hold]
 simp only [Result.andThen_ok]
 show Sem.run P (bind (Builtin.firstCells _ _ _) _) _=_
 rw [Sem.run_bind,hnw]
 simp only [Result.andThen_ok]
 show Sem.run P (bind (zeroValue e) _) _=_
 rw [Sem.run_bind,run_zero h.hz]
 rfl
theorem run_appendN_in {argTypes:Array TypeId} {ty t u e es bs n sLen sCap:Nat} {z:Value} {ku k:IntKind} (h:AppIn P argTypes t u e es bs z) (hu:P.underlying u=some (.int ku)) (hes:es≠0) {base:Option Addr}
  (hn1:n≤room) (hn2:n*bs≤room) (hfit:sLen+n≤sCap) (hst: ∀ ad,base=some ad→(storeCells (ad.add (sLen*es)) (Builtin.zeroCells z.cells n).toList).run P w= .ok () w') (hno:base=none→w'=w):
  (Builtin.append_ argTypes ty #[.slice base sLen sCap, .int k (n:Int)]).run P w= .ok (.slice base (sLen+n) sCap) w':=by
 have hn1':n≤70368744177664:=hn1
 have hn2':n*bs≤70368744177664:=hn2
 have hwn:IntKind.i64.wrap (n:Int)=(n:Int):=wrap_small .i64 n (by show n<9223372036854775808;omega)
 obtain ⟨ie,hie,hieb⟩:=run_bytes (P:=P) (w:=w) h.hb
 unfold Builtin.append_
 simp only [h.ht0,h.hu0,List.getElem?_toArray,List.getElem?_cons_zero,List.getElem?_cons_succ]
 show Sem.run P (bind (underlying t) _) w=_
 rw [Sem.run_bind,run_under h.ht]
 simp only [Result.andThen_ok]
 show Sem.run P (bind (sizeOf e) _) w=_
 rw [Sem.run_bind,run_size h.hn]
 simp only [Result.andThen_ok]
 show Sem.run P (bind (underlying u) _) w=_
 rw [Sem.run_bind,run_under hu]
 simp only [Result.andThen_ok]
 show Sem.run P (bind (pure true) _) w=_
 rw [Sem.run_bind]
 simp only [Sem.run_pure,Result.andThen_ok,if_true,Bool.not_true,Bool.false_eq_true,if_false]
 show Sem.run P (bind (asInt (.int k (n:Int))) _) w=_
 rw [Sem.run_bind]
 have hai:(asInt (.int k (n:Int))).run P w= .ok (n:Int) w:=rfl
 rw [hai]
 simp only [Result.andThen_ok,hwn]
 rw [if_neg (by omega)]
 show Sem.run P (bind (typeInfo e) _) w=_
 rw [Sem.run_bind,hie]
 simp only [Result.andThen_ok]
 rw [if_neg (by
  rw [hieb]
  have:((n:Int)*(bs:Int))=((n*bs:Nat):Int):=by simp
  rw [this];omega)]
 show Sem.run P (bind (pure (n:Int).toNat) _) w=_
 rw [Sem.run_bind]
 simp only [Sem.run_pure,Result.andThen_ok,Int.toNat_natCast]
 rw [if_pos hfit]
 have hz0:(if n*es=0 then (pure #[]:Sem (Array Value)) else do pure (Builtin.zeroCells (←zeroValue e).cells n)).run P w= .ok (Builtin.zeroCells z.cells n) w:=by
  split
  ·rename_i q
   have:n=0:=by
    rcases Nat.mul_eq_zero.1 q with q | q
    ·exact q
    ·exact absurd q hes
   subst this
   simp [Builtin.zeroCells]
  ·show Sem.run P (bind (zeroValue e) _) w=_
   rw [Sem.run_bind,run_zero h.hz];rfl
 show Sem.run P (bind (if n*es=0 then (pure #[]:Sem (Array Value)) else do pure (Builtin.zeroCells (←zeroValue e).cells n)) _) w=_
 rw [Sem.run_bind,hz0]
 simp only [Result.andThen_ok]
 cases base with
 | none=>rw [hno rfl];rfl
 | some ad=>
  show Sem.run P (bind (storeCells _ _) _) w=_
  rw [Sem.run_bind,hst ad rfl]
  rfl
theorem run_appendN_grow {argTypes:Array TypeId} {ty t u e es bs n sLen sCap:Nat} {z:Value} {ku k:IntKind} (h:AppIn P argTypes t u e es bs z) (hu:P.underlying u=some (.int ku)) (hes:es≠0) {base:Option Addr} {old:List Value}
  (hn1:n≤room) (hn2:n*bs≤room) (hold: ∀ m,(Builtin.firstCells es sLen (.slice base sLen sCap)).run P { w with drawn:=m }= .ok old.toArray { w with drawn:=m })
  (hfit:sCap<sLen+n) (hroom:(sLen+n)*bs≤room):
  ∃ c,sLen+n≤c∧(Builtin.append_ argTypes ty #[.slice base sLen sCap, .int k (n:Int)]).run P w= .ok (.slice (some ⟨w.heap.size,0,none⟩) (sLen+n) c)
   { w with heap:=w.heap.push (.cells (old.toArray++Builtin.zeroCells z.cells n++Builtin.zeroCells z.cells (c-(sLen+n))) e),drawn:=w.drawn+1 }:=by
 have hroom':(sLen+n)*bs≤70368744177664:=hroom
 have hn1':n≤70368744177664:=hn1
 have hn2':n*bs≤70368744177664:=hn2
 have hwn:IntKind.i64.wrap (n:Int)=(n:Int):=wrap_small .i64 n (by show n<9223372036854775808;omega)
 refine ⟨Question.cut (.appendCap (sLen+n) sCap e) (w.tape w.drawn (.appendCap (sLen+n) sCap e)),Nat.le_add_right _ _,?_⟩
 generalize hc:Question.cut (.appendCap (sLen+n) sCap e) (w.tape w.drawn (.appendCap (sLen+n) sCap e))=c
 obtain ⟨ie,hie,hieb⟩:=run_bytes (P:=P) (w:=w) h.hb
 have hie2: ∀ w,(typeInfo e).run P w= .ok ie w:=by
  intro w2
  have hb:=h.hb
  unfold tBytes at hb
  cases hi:P.info? e with
  | none=>rw [hi] at hb;cases hb
  | some i2=>
   have e1:=run_info (P:=P) (w:=w) hi
   rw [hie] at e1
   injection e1 with e1 _
   subst e1
   exact run_info hi
 unfold Builtin.append_
 simp only [h.ht0,h.hu0,List.getElem?_toArray,List.getElem?_cons_zero,List.getElem?_cons_succ]
 show Sem.run P (bind (underlying t) _) w=_
 rw [Sem.run_bind,run_under h.ht]
 simp only [Result.andThen_ok]
 show Sem.run P (bind (sizeOf e) _) w=_
 rw [Sem.run_bind,run_size h.hn]
 simp only [Result.andThen_ok]
 show Sem.run P (bind (underlying u) _) w=_
 rw [Sem.run_bind,run_under hu]
 simp only [Result.andThen_ok]
 show Sem.run P (bind (pure true) _) w=_
 rw [Sem.run_bind]
 simp only [Sem.run_pure,Result.andThen_ok,if_true,Bool.not_true,Bool.false_eq_true,if_false]
 show Sem.run P (bind (asInt (.int k (n:Int))) _) w=_
 rw [Sem.run_bind]
 have hai:(asInt (.int k (n:Int))).run P w= .ok (n:Int) w:=rfl
 rw [hai]
 simp only [Result.andThen_ok,hwn]
 rw [if_neg (by omega)]
 show Sem.run P (bind (typeInfo e) _) w=_
 rw [Sem.run_bind,hie]
 simp only [Result.andThen_ok]
 rw [if_neg (by
  rw [hieb]
  have:((n:Int)*(bs:Int))=((n*bs:Nat):Int):=by simp
  rw [this];omega)]
 show Sem.run P (bind (pure (n:Int).toNat) _) w=_
 rw [Sem.run_bind]
 simp only [Sem.run_pure,Result.andThen_ok,Int.toNat_natCast]
 rw [if_neg (by omega)]
 show Sem.run P (bind (typeInfo e) _) w=_
 rw [Sem.run_bind,hie]
 simp only [Result.andThen_ok]
 rw [if_neg (fun q=>by
  have h3:IntKind.i64.max=9223372036854775807:=by decide
  have h4:sLen+n≤(sLen+n)*bs:=Nat.le_mul_of_pos_right _ (Nat.pos_of_ne_zero h.hb0)
  rw [h3] at q
  omega)]
 show Sem.run P (bind (typeInfo e) _) w=_
 rw [Sem.run_bind,hie]
 simp only [Result.andThen_ok]
 rw [if_neg (by rw [hieb];have:=growslice_fits (bytes:=bs) hfit (by omega);omega)]
 show Sem.run P (bind (choose _) _) w=_
 rw [Sem.run_bind]
 have hch:(choose (.appendCap (sLen+n) sCap e)).run P w= .ok c { w with drawn:=w.drawn+1 }:=by
  rw [←hc];rfl
 rw [hch]
 simp only [Result.andThen_ok]
 show Sem.run P (bind (typeInfo e) _) _=_
 rw [Sem.run_bind,hie2]
 simp only [Result.andThen_ok]
 show Sem.run P (bind (askRoom _) _) _=_
 rw [Sem.run_bind,ask_ok]
 simp only [Result.andThen_ok]
 show Sem.run P (bind (Builtin.firstCells _ _ _) _) _=_
 rw [Sem.run_bind,hold]
 simp only [Result.andThen_ok]
 have hz0: ∀ w,(if n*es=0 then (pure #[]:Sem (Array Value)) else do pure (Builtin.zeroCells (←zeroValue e).cells n)).run P w= .ok (Builtin.zeroCells z.cells n) w:=by
  intro w
  split
  ·rename_i q
   have:n=0:=by
    rcases Nat.mul_eq_zero.1 q with q | q
    ·exact q
    ·exact absurd q hes
   subst this
   simp [Builtin.zeroCells]
  ·show Sem.run P (bind (zeroValue e) _) w=_
   rw [Sem.run_bind,run_zero h.hz];rfl
 show Sem.run P (bind (if n*es=0 then (pure #[]:Sem (Array Value)) else do pure (Builtin.zeroCells (←zeroValue e).cells n)) _) _=_
 rw [Sem.run_bind,hz0]
 simp only [Result.andThen_ok]
 show Sem.run P (bind (zeroValue e) _) _=_
 rw [Sem.run_bind,run_zero h.hz]
 rfl
end
section
variable {G:Gp} {σ:Sg} {H:Hp} {w w':World}
theorem Rel.move (h:Rel G σ H w) {b:Nat} {bl:Blk} {l:Loc} (hb:H.m.get b=some bl) (hrw:bl.rw=true) (hσ:σ b=some l) {cs':Array Value} {ty:TypeId} {fr:Nat × Nat} (hw':w'.heap[l.blk]? =some (.cells cs' ty fr)) (hk: ∀ k,k≠l.blk→w'.heap[k]? =w.heap[k]?) (hsz:w'.heap.size=w.heap.size) (h1:w'.os=w.os) (h2:w'.tape=w.tape) (h3:w'.output=w.output)
  {cells:List AV} {es off room:Nat} (hfit:off+cells.length+room*sz es≤cs'.size) (hv: ∀ (j:Nat) (a:AV),cells[j]? =some a→a.sc=true→ ∃ v,cs'[off+j]? =some v∧VR σ a v) (hf: ∀ j,j<cs'.size→ ¬ (fr.1≤j∧j<fr.2)) (hfe:sz es≠1→ ∀ j, ¬ (fr.1≤j∧j<fr.2)) (hes: ∀ t,es≠tagN+t) (hone:es=esU→G.one ty):
  Rel G (up σ H.nx ⟨l.blk,off,room⟩) ((H.kill b).new cells es) w'∧Fr σ H w (up σ H.nx ⟨l.blk,off,room⟩) ((H.kill b).new cells es) w':=by
 have e:=up_ext h.fresh ⟨l.blk,off,room⟩
 have hget: ∀ j,((H.kill b).new cells es).m.get j=if j=H.nx then some ⟨cells,es,true⟩ else if j=b then none else H.m.get j:=fun j=>by
  show ((H.m.set b none).set H.nx _).get j=_
  rw [Tr.get_set,Tr.get_set]
 have hold: ∀ j bj,j≠H.nx→((H.kill b).new cells es).m.get j=some bj→j≠b∧H.m.get j=some bj:=fun j bj hj hg=>by
  rw [hget,if_neg hj] at hg
  split at hg
  ·cases hg
  ·rename_i q;exact ⟨q,hg⟩
 have haway: ∀ j bj lj,j≠b→H.m.get j=some bj→σ j=some lj→lj.blk≠l.blk:=fun j bj lj hj hg hl q=>hj (h.inj b j bl bj l lj hb hg hσ hl q.symm hrw).symm
 refine ⟨⟨fun j lj hj=>?_,Nat.le_succ_of_le h.nx,fun g hg=>?_,fun j bj hj=>?_,fun j k bj bk lj lk hj hk2 g1 g2 g3 g4=>?_⟩,e,h1,h2,h3,by omega,fun k hk1 hn=>hk k fun q=>hn ⟨b,bl,l,hb,hrw,hσ,q.symm⟩,?_,Nat.le_succ _,fun j hj=>up_ne _ (by omega),fun j bj hj hr=>?_⟩
 ·show j<H.nx+1
  unfold up at hj
  split at hj
  ·omega
  ·have:=h.lt j lj hj;omega
 ·obtain ⟨r,hr⟩:=h.gl g hg
  exact ⟨r,e _ _ hr⟩
 ·by_cases q:j=H.nx
  ·subst q
   rw [hget,if_pos rfl] at hj
   obtain rfl:=Option.some.inj hj
   refine ⟨_,cs',ty,fr,up_same _ _,hw',hfit,fun k a ha hk=>?_,fun _=>hf,fun _=>hfe,fun t ht=>absurd ht (hes t),fun _=>hone⟩
   obtain ⟨v,g1,g2⟩:=hv k a ha hk
   exact ⟨v,g1,g2.mono e⟩
  ·obtain ⟨q2,hj⟩:=hold j bj q hj
   obtain ⟨lj,c,t,f,g1,g2,g3,g4,g5,g6⟩:=h.blk j bj hj
   exact ⟨lj,c,t,f,e _ _ g1,by rw [hk _ (haway j bj lj q2 hj g1)];exact g2,g3,fun k a ha hk=>by obtain ⟨v,e2,hr⟩:=g4 k a ha hk;exact ⟨v,e2,hr.mono e⟩,g5,g6⟩
 ·by_cases qj:j=H.nx <;> by_cases qk:k=H.nx
  ·rw [qj,qk]
  ·subst qj
   obtain ⟨q2,hk2⟩:=hold k bk qk hk2
   rw [up_same] at g1;rw [up_ne _ qk] at g2
   obtain rfl:=Option.some.inj g1
   exact absurd g3.symm (haway k bk lk q2 hk2 g2)
  ·subst qk
   obtain ⟨q2,hj⟩:=hold j bj qj hj
   rw [up_same] at g2;rw [up_ne _ qj] at g1
   obtain rfl:=Option.some.inj g2
   exact absurd g3 (haway j bj lj q2 hj g1)
  ·obtain ⟨_,hj⟩:=hold j bj qj hj
   obtain ⟨_,hk2⟩:=hold k bk qk hk2
   rw [up_ne _ qj] at g1;rw [up_ne _ qk] at g2
   exact h.inj j k bj bk lj lk hj hk2 g1 g2 g3 g4
 ·rintro k ⟨j,bj,lj,g1,g2,g3,g4⟩
  by_cases qj:j=H.nx
  ·subst qj
   rw [up_same] at g3
   obtain rfl:=Option.some.inj g3
   exact .inr ⟨b,bl,l,hb,hrw,hσ,g4⟩
  ·obtain ⟨_,g1⟩:=hold j bj qj g1
   rw [up_ne _ qj] at g3
   exact .inr ⟨j,bj,lj,g1,g2,g3,g4⟩
 ·by_cases qj:j=H.nx
  ·subst qj
   rw [hget,if_pos rfl] at hj
   obtain rfl:=Option.some.inj hj
   cases hr
  ·exact (hold j bj qj hj).2
end
section
variable {P:Program} {σ:Sg} {H:Hp} {w:World} {nt:Nat} {T:Tr AV} {a:Act}
theorem zsize (z:Array Value) (n:Nat):(Builtin.zeroCells z n).size=n*z.size:=by simp [Builtin.zeroCells]
theorem append_core (hR:Rel (gp P) σ H w) {es bs n:Nat} {s:AV} {se:Value} {new:List AV} {vs:List Value} {zc:Array Value} {e:TypeId} (hs:VR σ s se) (hnew:VRs σ new vs) (hnl:new.length=n*es) (hz:zc.size=es) (hone:es=1→bs=1→(gp P).one e) {X:Result Value} {v:AV} {H':Hp} (ha:append es bs H s new n=some (v,H'))
  (hin: ∀ base sLen sCap w',se= .slice base sLen sCap→sLen+n≤sCap→(∀ ad,base=some ad→(storeCells (ad.add (sLen*es)) vs).run P w= .ok () w')→(base=none→w'=w)→X= .ok (.slice base (sLen+n) sCap) w')
  (hgrow: ∀ base sLen sCap (old:List Value),se= .slice base sLen sCap→(∀ m,(Builtin.firstCells es sLen se).run P { w with drawn:=m }= .ok old.toArray { w with drawn:=m })→sCap<sLen+n→(sLen+n)*bs≤room→ ∃ c,sLen+n≤c∧X= .ok (.slice (some ⟨w.heap.size,0,none⟩) (sLen+n) c) { w with heap:=w.heap.push (.cells (old.toArray++vs.toArray++Builtin.zeroCells zc (c-(sLen+n))) e),drawn:=w.drawn+1 }):
  ∃ σ' v' w',X= .ok v' w'∧VR σ' v v'∧Rel (gp P) σ' H' w'∧Fr σ H w σ' H' w':=by
 have hvl:=hnew.length
 have grown: ∀ (e':Nat),EsA es e'→(e'=esU→es=1∧bs=1)→ ∀ (H0:Hp) (old:List AV) (oldv:List Value) (base:Option Addr) (sLen sCap:Nat),Rel (gp P) σ H0 w→H0.nx=H.nx→Fr σ H w σ H0 w→se= .slice base sLen sCap→VRs σ old oldv→old.length=sLen*es→(∀ a∈old,a.sc=true)→okNew es new=true→(∀ m,(Builtin.firstCells es sLen se).run P { w with drawn:=m }= .ok oldv.toArray { w with drawn:=m })→sCap<sLen+n→(sLen+n)*bs≤room→
   ∃ σ' v' w',X= .ok v' w'∧VR σ' (.slice H.nx 0 (sLen+n) (sLen+n) false) v'∧Rel (gp P) σ' (H0.new (old++new) e') w'∧Fr σ H w σ' (H0.new (old++new) e') w':=by
  intro e' hE hU H0 old oldv base sLen sCap hR0 hnx hFr0 e1 ho hol hos hok hold hfit hroom
  have hns:=scAll_mem (okNew_sc hok)
  obtain ⟨c,hc,hX⟩:=hgrow base sLen sCap oldv e1 hold hfit hroom
  have hol2:=ho.length
  have hnone:σ H0.nx=none:=hR0.fresh
  refine ⟨up σ H0.nx ⟨w.heap.size,0,c-(sLen+n)⟩,_,_,hX,?_,?_,?_⟩
  ·rw [←hnx]
   exact .slice _ 0 _ _ false _ 0 c (up_same _ _) (by simp;omega) (fun _=>rfl) (Nat.le_refl _)
  ·refine (hR0.new_at (es:=e') (room:=c-(sLen+n)) ?_ e ?_ ?_ (0,0) fr0 (fun _ j h=>by simp at h) (fun t ht=>absurd ht (hE.ne (okNew_lt hok))) (fun q=>hone (hU q).1 (hU q).2) H0.nx (H0.nx+1) hnone (Nat.lt_succ_self _) (Nat.le_succ _)).drew _
   ·intro a ha
    rw [List.mem_append] at ha
    rcases ha with ha | ha
    ·exact hos a ha
    ·exact hns a ha
   ·simp only [List.length_append,Array.size_append,zsize,List.size_toArray,hz,hE.sz (okNew_lt hok)]
    omega
   ·intro j x hx
    obtain ⟨u,g1,g2⟩:=(ho.append hnew).get j x hx
    refine ⟨u,?_,g2⟩
    have hj:=(List.getElem?_eq_some_iff.1 g1).1
    rw [Array.getElem?_append_left (by simp at hj ⊢; omega)]
    rw [←g1]
    simp
  ·exact hFr0.trans ((Fr.new_at (w:=w) hnone (Nat.le_succ _) (Nat.le_refl _) _ e' _ _).drew _)
 unfold append at ha
 split at ha
 ·-- nil
  cases hs
  split at ha
  ·rename_i hq
   have:=Tr.beq_t hq
   subst this
   simp only [Option.some.injEq,Prod.mk.injEq] at ha
   obtain ⟨rfl,rfl⟩:=ha
   exact ⟨σ,_,w,hin none 0 0 w rfl (Nat.le_refl _) (fun ad h=>by cases h) (fun _=>rfl), .nils,hR,Fr.refl _ _ _⟩
  ·rename_i hq
   have hn0:=Tr.beq_f hq
   split at ha
   ·rename_i hq2
    rw [Bool.and_eq_true,Nat.ble_eq] at hq2
    simp only [Option.some.injEq,Prod.mk.injEq] at ha
    obtain ⟨rfl,rfl⟩:=ha
    have:=grown _ (EsA.row es bs) (rowE_U (okNew_lt hq2.2)) H [] [] none 0 0 hR rfl (Fr.refl _ _ _) rfl .nil (by simp) (fun a ha=>by cases ha) hq2.2 (fun m=>rfl) (by omega) (by simpa using hq2.1)
    simpa using this
   ·cases ha
 ·-- a slice
  rename_i b o len cap ex
  split at ha
  ·rename_i hq
   rw [Nat.ble_eq] at hq
   split at ha
   ·rename_i H2 hst
    simp only [Option.some.injEq,Prod.mk.injEq] at ha
    obtain ⟨rfl,rfl⟩:=ha
    cases hs
    rename_i l off' cap' hσ hoff hlc hcap
    have hcc:cap≤cap':=by rw [hcap];split <;> omega
    obtain ⟨w',g1,g2,g3⟩:=hR.store_at P hst hσ hnew
    refine ⟨σ,_,w',hin _ len cap' w' rfl (by omega) (fun ad h=>?_) (fun h=>by cases h), .slice _ _ _ _ _ l off' cap' hσ hcap hoff hq,g2,g3⟩
    obtain rfl:=Option.some.inj h
    by_cases h0:cap'=0
    ·have:vs=[]:=by
      apply List.length_eq_zero_iff.1
      rw [←hvl,hnl,show n=0 by omega,Nat.zero_mul]
     subst this
     exact g1
    ·rw [hoff h0,add_at,Nat.add_assoc]
     exact g1
   ·cases ha
  ·rename_i hq
   have hq:cap<len+n:=by
    rcases Nat.lt_or_ge cap (len+n) with h | h
    ·exact h
    ·rw [Nat.ble_eq_true_of_le h] at hq;cases hq
   split at ha
   ·cases ha
   ·rename_i hq2
    rw [Bool.and_eq_true,Nat.ble_eq] at hq2
    have hns:=scAll_mem (okNew_sc hq2.2)
    split at ha
    ·cases ha
    ·rename_i old hold
     obtain ⟨oldv,f1,f2,f3,f4⟩:=firsts_ok hR hold hs rfl (Nat.le_refl _)
     have hol:=f4
     cases hs
     rename_i l off' cap' hσ hoff hlc hcap
     split at ha
     ·-- exact
      simp only [Option.some.injEq,Prod.mk.injEq] at ha
      obtain ⟨rfl,rfl⟩:=ha
      simp only [if_true] at hcap
      exact grown _ (EsA.row es bs) (rowE_U (okNew_lt hq2.2)) H old oldv _ len cap' hR rfl (Fr.refl _ _ _) rfl f1 hol f3 hq2.2 f2 (by omega) hq2.1
     ·split at ha
      ·cases ha
      ·rename_i bl hbl
       split at ha
       ·rename_i hq3
        rw [Bool.and_eq_true,Bool.and_eq_true] at hq3
        obtain ⟨r1,r2,r3⟩:=hq3
        have r2:=fitE_iff.1 r2
        have rs:=r2.sz (okNew_lt hq2.2)
        have r3:=Tr.beq_t r3
        simp only [Option.some.injEq,Prod.mk.injEq] at ha
        obtain ⟨rfl,rfl⟩:=ha
        simp only [Bool.false_eq_true,if_false] at hcap
        by_cases hroom:len+n≤cap'
        ·-- in the room behind
         obtain ⟨l2,vc,ty,fr,hσ2,hw,hfit,hc,hf,hsc⟩:=hR.blk b bl hbl
         rw [hσ] at hσ2
         obtain rfl:=Option.some.inj hσ2
         have hoff:=hoff (by omega)
         have hcs:=Nat.add_mul cap l.room es
         have hnes:=Nat.add_mul len n es
         have hle:(len+n)*es≤cap'*es:=Nat.mul_le_mul_right _ hroom
         rw [hcap] at hle
         have hvs: ∀ v∈vs, ∀ c,v≠ .agg c∧v≠ .tuple c:=by
          intro v hm c
          obtain ⟨i,hi,e2⟩:=List.getElem_of_mem hm
          have hi2:i<new.length:=by omega
          obtain ⟨v',e3,hr⟩:=hnew.get i _ (List.getElem?_eq_getElem hi2)
          rw [List.getElem?_eq_getElem hi,e2] at e3
          obtain rfl:=Option.some.inj e3
          exact hr.sc (hns _ (List.getElem_mem hi2)) c
         obtain ⟨w',cs',hrun,hw',hsz,hcs',hk,hsize,h1,h2,h3⟩:=store_row P l.blk (l.off+o+len*es) ty fr vs 0 w vc hw (fun _=>by rw [rs] at hfit;omega) (hf r1) hvs
         obtain ⟨m1,m2⟩:=hR.move hbl r1 hσ (w':=w') hw' hk hsize h1 h2 h3 (cells:=old++new) (es:=goE es bs bl.es) (off:=l.off+o) (room:=cap'-(len+n)) (by
           rw [List.length_append,hsz]
           have hsub:(cap'-(len+n))*es=cap'*es-(len+n)*es:=Nat.sub_mul _ _ _
           rw [rs] at hfit
           rw [(EsA.go es bs bl.es).sz (okNew_lt hq2.2),hsub,hcap]
           omega) (by
           intro j x hx hsx
           rw [hcs']
           by_cases q:j<old.length
           ·rw [List.getElem?_append_left q] at hx
            rw [if_neg (by omega)]
            have hlen0:len≠0:=by rintro rfl;simp at hol;simp [hol] at q
            have hld:H.load b o (len*es)=some old:=by
             unfold firsts at hold
             simp only at hold
             split at hold
             ·rename_i q0;exact absurd (Tr.beq_t q0) hlen0
             ·exact hold
            obtain ⟨bl2,e1,e2,e3⟩:=Hp.load_eq hld
            rw [hbl] at e1
            obtain rfl:=Option.some.inj e1
            rw [e2,List.getElem?_take] at hx
            split at hx
            ·rw [List.getElem?_drop] at hx
             obtain ⟨u,k1,k2⟩:=hc _ _ hx hsx
             exact ⟨u,by rw [Nat.add_assoc];exact k1,k2⟩
            ·cases hx
           ·rw [List.getElem?_append_right (by omega)] at hx
            obtain ⟨u,k1,k2⟩:=hnew.get _ _ hx
            have:=(List.getElem?_eq_some_iff.1 k1).1
            rw [if_pos (by omega)]
            exact ⟨u,by rw [show l.off+o+j-(l.off+o+len*es+0)=j-old.length by omega];exact k1,k2⟩) (by rw [hsz];exact hf r1) (by rw [(EsA.go es bs bl.es).sz (okNew_lt hq2.2), ←rs];exact hsc.1 r1) (fun t=>(EsA.go es bs bl.es).ne (okNew_lt hq2.2)) (fun q=>hsc.2.2 r1 (goE_U (okNew_lt hq2.2) q).2.2)
         refine ⟨_,_,w',hin _ len cap' w' rfl hroom (fun ad h=>?_) (fun h=>by cases h),?_,m1,m2⟩
         ·obtain rfl:=Option.some.inj h
          rw [hoff,add_at]
          exact hrun
         ·exact .slice _ 0 _ _ false ⟨l.blk,l.off+o,cap'-(len+n)⟩ off' cap' (up_same _ _) (by simp;omega) (fun _=>by simpa using hoff) (Nat.le_refl _)
        ·have hkf:=Fr.kill σ H w b
         exact grown _ (EsA.go es bs bl.es) (fun q=>⟨(goE_U (okNew_lt hq2.2) q).1,(goE_U (okNew_lt hq2.2) q).2.1⟩) (H.kill b) old oldv _ len cap' (hR.kill b) rfl hkf rfl f1 hol f3 hq2.2 f2 (by omega) hq2.1
       ·cases ha
 ·cases ha
end
section
variable {P:Program} {σ:Sg} {H:Hp} {w:World} {nt:Nat} {T:Tr AV} {a:Act}
theorem u8T_eq {d:TypeDesc} (h:u8T d=true):d= .int .u8:=by
 cases d with
 | int k=>cases k <;> first | rfl | cases h
 | _=>cases h
theorem bsU_one {e:TypeId} {bs:Nat} (h:tSize P e=some 1) (q:bsU P e bs=1):(gp P).one e:=by
 refine ⟨?_,one_of h⟩
 unfold bsU at q
 split at q
 ·rename_i hu
  unfold isU8 at hu
  split at hu
  ·cases hu
  ·rename_i d hd
   rw [hd,u8T_eq hu]
 ·split at q
  ·cases q
  ·rename_i hb
   rw [q] at hb
   cases hb
theorem bsU_ge (P:Program) (e:TypeId) (bs:Nat):bs≤bsU P e bs:=by
 unfold bsU
 split
 ·exact Nat.le_refl _
 ·split
  ·rename_i h;rw [Tr.beq_t h];decide
  ·exact Nat.le_refl _
theorem bsU_room {e:TypeId} {n bs:Nat} (h:n*bsU P e bs≤Eng.room):n*bs≤Eng.room:=Nat.le_trans (Nat.mul_le_mul_left _ (bsU_ge P e bs)) h
theorem ok_append {o:Oper} {c:Call} {t u e:TypeId} {es bs:Nat} {z:Value} {d:TypeDesc} {x y:Operand} {x' y':Opd} {v:AV} {H':Hp} (ho:o.op= .call c) (hc:c.callee= .builtin .append) (ha:c.args= #[x,y]) (hin:AppIn P c.argTypes t u e es bs z) (hu:P.underlying u=some d) (hd: ∀ k,d≠ .int k) (hx:cOpd P x=some x') (hy:cOpd P y=some y')
  (hR:Rel (gp P) σ H w) (hT:TR σ nt T a.tmps) (hr:ikRun T H (.append es (bsU P e bs) x' y')=some (v,H')):Out P o a σ H w v H':=by
 have h1:=opd_ok hR hT hx
 have h2:=opd_ok hR hT hy
 simp only [ikRun] at hr
 generalize x'.ev T=xv at h1 hr
 generalize y'.ev T=yv at h2 hr
 generalize hxe:a.eval x=xe at h1
 generalize hye:a.eval y=ye at h2
 cases hl:lenV yv with
 | none=>rw [hl] at hr;cases hr
 | some n=>
  rw [hl] at hr
  simp only at hr
  cases hf:firsts H es n yv with
  | none=>rw [hf] at hr;cases hr
  | some new=>
   rw [hf] at hr
   simp only at hr
   obtain ⟨vs,f1,f2,f3,f4⟩:=firsts_ok hR hf h2 hl (Nat.le_refl _)
   have hlen:=h2.lenV (P:=P) (w:=w) hl
   have f2w:(Builtin.firstCells es n ye).run P w= .ok vs.toArray w:=f2 w.drawn
   have hnl:new.length=n*es:=f4
   obtain ⟨σ',v',w',g1,g2,g3,g4⟩:=append_core (X:=(Builtin.append_ c.argTypes o.type #[xe,ye]).run P w) (zc:=z.cells) (e:=e) hR h1 f1 hnl hin.hzs (fun q1 q2=>bsU_one (q1 ▸ hin.hn) q2) hr
    (fun base sLen sCap w' e1 hfit hst hno=>by subst e1;exact run_append_in hin hu hd hlen f2w hfit hst hno)
    (fun base sLen sCap old e1 hold hfit hroom=>by subst e1;exact run_append_grow hin hu hd hlen f2 hold hfit (bsU_room hroom))
   refine ⟨σ',v',w',_,run_call_builtin ho hc ?_, .inl rfl,g2,g3,g4⟩
   rw [arg2 ha hxe hye]
   exact run_v g1
theorem ok_appendN {o:Oper} {c:Call} {t u e:TypeId} {es bs:Nat} {z:Value} {zl:List AV} {ku:IntKind} {x y:Operand} {x' y':Opd} {v:AV} {H':Hp} (ho:o.op= .call c) (hc:c.callee= .builtin .append) (ha:c.args= #[x,y]) (hin:AppIn P c.argTypes t u e es bs z) (hu:P.underlying u=some (.int ku)) (hzl:cScs z.cells.toList=some zl) (hes:es≠0) (hx:cOpd P x=some x') (hy:cOpd P y=some y')
  (hR:Rel (gp P) σ H w) (hT:TR σ nt T a.tmps) (hr:ikRun T H (.appendN es (bsU P e bs) zl x' y')=some (v,H')):Out P o a σ H w v H':=by
 have h1:=opd_ok hR hT hx
 have h2:=opd_ok hR hT hy
 simp only [ikRun] at hr
 generalize x'.ev T=xv at h1 hr
 generalize y'.ev T=yv at h2 hr
 generalize hxe:a.eval x=xe at h1
 generalize hye:a.eval y=ye at h2
 split at hr
 ·rename_i k n
  cases h2
  split at hr
  ·rename_i hq
   rw [Bool.and_eq_true,Nat.ble_eq,Nat.ble_eq] at hq
   have hzz:=cScs_ok (σ:=σ) hzl
   have hzs:zl.length=es:=by rw [hzz.length];simpa using hin.hzs
   obtain ⟨σ',v',w',g1,g2,g3,g4⟩:=append_core (X:=(Builtin.append_ c.argTypes o.type #[xe, .int k (Int.ofNat n)]).run P w) (zc:=z.cells) (e:=e) hR h1 (repV_ok hzz n) (by rw [repV_length,hzs]) hin.hzs (fun q1 q2=>bsU_one (q1 ▸ hin.hn) q2) hr
    (fun base sLen sCap w' e1 hfit hst hno=>by subst e1;exact run_appendN_in hin hu hes hq.1 (bsU_room hq.2) hfit hst hno)
    (fun base sLen sCap old e1 hold hfit hroom=>by subst e1;exact run_appendN_grow hin hu hes hq.1 (bsU_room hq.2) hold hfit (bsU_room hroom))
   refine ⟨σ',v',w',_,run_call_builtin ho hc ?_, .inl rfl,g2,g3,g4⟩
   rw [arg2 ha hxe hye]
   exact run_v g1
  ·cases hr
 ·cases hr
end
section
variable {P:Program} {σ:Sg} {H:Hp} {w:World} {nt:Nat} {T:Tr AV} {a:Act}
theorem map_some {α β:Type} {x:Option α} {f:α→β} {b:β} (h:x.map f=some b): ∃ a,x=some a∧f a=b:=Option.map_eq_some_iff.1 h
theorem bind2_some {α β γ:Type} {x:Option α} {y:Option β} {f:α→β→Option γ} {c:γ} (h:bind2 x y f=some c): ∃ a b,x=some a∧y=some b∧f a b=some c:=by
 unfold bind2 at h
 split at h
 ·exact ⟨_,_,rfl,rfl,h⟩
 ·cases h
theorem bind3_some {α β γ δ:Type} {x:Option α} {y:Option β} {z:Option γ} {f:α→β→γ→Option δ} {c:δ} (h:bind3 x y z f=some c): ∃ a b d,x=some a∧y=some b∧z=some d∧f a b d=some c:=by
 unfold bind3 at h
 split at h
 ·exact ⟨_,_,_,rfl,rfl,rfl,h⟩
 ·cases h
theorem mk_of {k:IK} {v:AV} {H':Hp} (hr:(match ikMk T k with | some (d,cs,es)=>some (d.at_ H.nx,H.new cs es) | none=>none)=some (v,H')): ∃ d cs es,ikMk T k=some (d,cs,es)∧v=d.at_ H.nx∧H'=H.new cs es:=by
 split at hr
 ·rename_i d cs es e
  simp only [Option.some.injEq,Prod.mk.injEq] at hr
  exact ⟨d,cs,es,e,hr.1.symm,hr.2.symm⟩
 ·cases hr
theorem bad_run {v:AV} {H':Hp} (hr:ikRun T H .bad=some (v,H')):False:=by simp [ikRun] at hr
theorem bad_mk {r:Hd × List AV × Nat} (hr:ikMk T .bad=some r):False:=by simp [ikMk] at hr
theorem args_one {P:Program}: ∀ {l:List Operand} {x:Opd},cOpds P l=some [x]→ ∃ y,l=[y]∧cOpd P y=some x
 | [],_,h=>by simp [cOpds] at h
 | [y],x,h=>by
  rw [cOpds] at h
  split at h
  ·rename_i b hb
   simp only [cOpds,Option.some.injEq,List.cons.injEq,and_true] at h
   exact ⟨y,rfl,by rw [hb,h]⟩
  ·cases h
 | y::z::l,x,h=>by
  rw [cOpds] at h
  split at h
  ·split at h
   ·rename_i r hr
    rw [cOpds] at hr
    split at hr
    ·split at hr
     ·obtain rfl:=Option.some.inj hr
      simp at h
     ·cases hr
    ·cases hr
   ·cases h
  ·cases h
theorem args_cons {P:Program}: ∀ {l:List Operand} {x:Opd} {r:List Opd},cOpds P l=some (x::r)→ ∃ y s,l=y::s∧cOpd P y=some x∧cOpds P s=some r
 | [],_,_,h=>by simp [cOpds] at h
 | y::l,x,r,h=>by
  rw [cOpds] at h
  split at h
  ·rename_i b hb
   split at h
   ·rename_i r2 hr
    simp only [Option.some.injEq,List.cons.injEq] at h
    obtain ⟨rfl,rfl⟩:=h
    exact ⟨y,l,rfl,hb,hr⟩
   ·cases h
  ·cases h
theorem args_two {P:Program} {l:List Operand} {x y:Opd} (h:cOpds P l=some [x,y]): ∃ u v,l=[u,v]∧cOpd P u=some x∧cOpd P v=some y:=by
 obtain ⟨u,s,rfl,h1,h2⟩:=args_cons h
 obtain ⟨v,rfl,h3⟩:=args_one h2
 exact ⟨u,v,rfl,h1,h3⟩
theorem toL {α:Type} {x:Array α} {l:List α} (h:x.toList=l):x=l.toArray:=by rw [←h]
theorem get0 {α:Type} {x:Array α} {t:α} {l:List α} (h:x.toList=t::l):x[0]? =some t:=by rw [toL h];simp
theorem get1 {α:Type} {x:Array α} {t u:α} {l:List α} (h:x.toList=t::u::l):x[1]? =some u:=by rw [toL h];simp
theorem ccall_run {o:Oper} {c:Call} {k:IK} {v:AV} {H':Hp} (ho:o.op= .call c) (hk:cCall P c o.type=some k) (hR:Rel (gp P) σ H w) (hT:TR σ nt T a.tmps) (hr:ikRun T H k=some (v,H')):Out P o a σ H w v H':=by
 unfold cCall at hk
 split at hk
 ·split at hk
  ·obtain rfl:=Option.some.inj hk;simp [ikRun] at hr
  ·cases hk
 ·obtain ⟨_,_,_,_,hk⟩:=bind2_some hk
  obtain rfl:=Option.some.inj hk;simp [ikRun] at hr
 ·obtain rfl:=Option.some.inj hk;exact (bad_run hr).elim
 ·rename_i b hc
  split at hk
  ·rename_i l ts hl
   split at hk
   ·-- append
    rename_i x y t u tl hts
    obtain ⟨xo,yo,ha,hx,hy⟩:=args_two hl
    have ha:=toL ha
    have h0:=get0 hts
    have h1:=get1 hts
    split at hk
    ·rename_i e ht
     split at hk
     ·rename_i es bs ku hes hbs hu
      split at hk
      ·rename_i z hz
       split at hk
       ·rename_i zl hzl
        split at hk
        ·rename_i hq
         obtain rfl:=Option.some.inj hk
         have hzs:z.cells.size=es:=by
          have:=(cScs_ok (σ:=σ) hzl).length
          rw [hq.1] at this;simpa using this.symm
         exact ok_appendN ho hc ha ⟨h0,h1,ht,hes,hbs,hz,hzs,hq.2.1⟩ hu hzl hq.2.2 hx hy hR hT hr
        ·cases hk
       ·cases hk
      ·cases hk
     ·rename_i es bs d hd hes hbs hu
      split at hk
      ·rename_i z hz
       split at hk
       ·cases hk
       ·rename_i hq
        obtain rfl:=Option.some.inj hk
        have hq1:bs≠0:=fun h=>hq (.inl h)
        have hq2:z.cells.size=es:=Decidable.of_not_not fun h=>hq (.inr h)
        exact ok_append ho hc ha ⟨h0,h1,ht,hes,hbs,hz,hq2,hq1⟩ hu (fun k q=>hd k (by rw [q])) hx hy hR hT hr
      ·cases hk
     ·cases hk
    ·cases hk
   ·-- len
    rename_i x t tl hts
    obtain ⟨xo,ha,hx⟩:=args_one hl
    have ha:=toL ha
    have h0:=get0 hts
    split at hk
    ·rename_i ht;obtain rfl:=Option.some.inj hk;exact ok_strlen ho hc ha h0 ht hx hR hT hr
    ·rename_i ht;obtain rfl:=Option.some.inj hk;exact ok_len ho hc ha h0 ht hx hR hT hr
    ·rename_i ht;obtain rfl:=Option.some.inj hk;exact ok_constlen ho hc ha h0 (.inl ht) hx hR hT hr
    ·rename_i p ht
     split at hk
     ·rename_i hp;obtain rfl:=Option.some.inj hk;exact ok_constlen ho hc ha h0 (.inr ⟨_,ht,hp⟩) hx hR hT hr
     ·cases hk
    ·obtain rfl:=Option.some.inj hk;exact (bad_run hr).elim
   ·-- cap
    rename_i x t tl hts
    obtain ⟨xo,ha,hx⟩:=args_one hl
    have ha:=toL ha
    have h0:=get0 hts
    split at hk
    ·rename_i ht;obtain rfl:=Option.some.inj hk;exact ok_cap ho hc ha h0 ht hx hR hT hr
    ·rename_i ht;obtain rfl:=Option.some.inj hk;exact ok_constcap ho hc ha h0 ht hx hR hT hr
    ·obtain rfl:=Option.some.inj hk;exact (bad_run hr).elim
   ·-- copy
    rename_i x y t tl hts
    obtain ⟨xo,yo,ha,hx,hy⟩:=args_two hl
    have ha:=toL ha
    have h0:=get0 hts
    split at hk
    ·rename_i e ht
     split at hk
     ·rename_i es hes;obtain rfl:=Option.some.inj hk;exact ok_copy ho hc ha h0 ht hes hx hy hR hT hr
     ·cases hk
    ·cases hk
   ·-- clear
    rename_i x t tl hts
    obtain ⟨xo,ha,hx⟩:=args_one hl
    have ha:=toL ha
    have h0:=get0 hts
    split at hk
    ·rename_i e ht
     split at hk
     ·rename_i z hz
      split at hk
      ·rename_i zl hzl;obtain rfl:=Option.some.inj hk;exact ok_clear ho hc ha h0 ht hz hzl hx hR hT hr
      ·cases hk
     ·cases hk
    ·obtain rfl:=Option.some.inj hk;exact (bad_run hr).elim
   ·rename_i x r
    obtain ⟨y,s,ha,hx,hs⟩:=args_cons hl
    obtain rfl:=Option.some.inj hk;exact ok_mn ho hc ha hx hs hR hT hr
   ·rename_i x r
    obtain ⟨y,s,ha,hx,hs⟩:=args_cons hl
    obtain rfl:=Option.some.inj hk;exact ok_mx ho hc ha hx hs hR hT hr
   ·obtain rfl:=Option.some.inj hk;exact (bad_run hr).elim
  ·obtain rfl:=Option.some.inj hk;exact (bad_run hr).elim
end
section
variable {P:Program} {σ:Sg} {H:Hp} {w:World} {nt:Nat} {T:Tr AV} {a:Act}
def noMk (k:IK):Prop:=match k with | .box .. | .buildSlice .. | .mkslice .. | .toBytes .. =>False | _=>True
def isMk (k:IK):Prop:=match k with | .box .. | .buildSlice .. | .mkslice .. | .toBytes .. =>True | _=>False
theorem nomk {k:IK} {r:Hd × List AV × Nat} (hr:ikMk T k=some r) (hk:noMk k):False:=by
 cases k <;> first | exact hk | simp [ikMk] at hr
theorem ccall_nomk {c:Call} {t:TypeId} {k:IK} (hk:cCall P c t=some k):noMk k:=by
 unfold cCall at hk
 repeat' (first | split at hk | (obtain rfl:=Option.some.inj hk;trivial) | (cases hk;done) | (obtain ⟨_,_,_,_,hk⟩:=bind2_some hk))
theorem ck_mk {o:Oper} {k:IK} {d:Hd} {cs:List AV} {es:Nat} (hk:cK P o=some k) (hR:Rel (gp P) σ H w) (hT:TR σ nt T a.tmps) (hr:ikMk T k=some (d,cs,es)):MkOut P o a σ H w d cs es:=by
 unfold cK at hk
 split at hk
 ·obtain ⟨_,_,rfl⟩:=map_some hk;exact (nomk hr trivial).elim
 ·obtain ⟨_,_,rfl⟩:=map_some hk;exact (nomk hr trivial).elim
 ·obtain ⟨_,_,_,_,_,_,hk⟩:=bind3_some hk;obtain rfl:=Option.some.inj hk;exact (nomk hr trivial).elim
 ·-- alloc
  rename_i e ho
  split at hk
  ·rename_i z hz
   split at hk
   ·rename_i y hy;obtain rfl:=Option.some.inj hk;exact mk_alloc ho hz hy hR hr
   ·obtain rfl:=Option.some.inj hk;exact (bad_mk hr).elim
  ·obtain rfl:=Option.some.inj hk;exact (bad_mk hr).elim
 ·-- box
  rename_i e x ho
  obtain ⟨n,y,hn,hx,hk⟩:=bind2_some hk
  obtain rfl:=Option.some.inj hk
  exact mk_box ho hx hR hT hr
 ·-- build
  split at hk
  ·split at hk
   ·split at hk
    ·split at hk
     ·cases hk
     ·obtain ⟨_,_,rfl⟩:=map_some hk;exact (nomk hr trivial).elim
    ·split at hk
     ·obtain ⟨_,_,rfl⟩:=map_some hk;exact (nomk hr trivial).elim
     ·cases hk
    ·cases hk
   ·obtain rfl:=Option.some.inj hk;exact (bad_mk hr).elim
  ·obtain rfl:=Option.some.inj hk;exact (bad_mk hr).elim
 ·-- buildSlice
  rename_i t len ps ho
  split at hk
  ·rename_i e ht
   split at hk
   ·rename_i n z hn hz
    split at hk
    ·rename_i zl hzl
     split at hk
     ·rename_i hq
      obtain ⟨qs,hqs,rfl⟩:=map_some hk
      exact mk_buildSlice ho ht hn hz hzl hq.1 hq.2.1 hq.2.2 hqs hR hT hr
     ·cases hk
    ·obtain rfl:=Option.some.inj hk;exact (bad_mk hr).elim
   ·cases hk
  ·cases hk
 ·obtain ⟨_,_,_,_,_,_,hk⟩:=bind3_some hk;obtain rfl:=Option.some.inj hk;exact (nomk hr trivial).elim
 ·obtain ⟨_,_,_,_,_,_,hk⟩:=bind3_some hk;obtain rfl:=Option.some.inj hk;exact (nomk hr trivial).elim
 ·obtain ⟨_,_,rfl⟩:=map_some hk;exact (nomk hr trivial).elim
 ·-- binOp
  repeat' (first | split at hk | (obtain rfl:=Option.some.inj hk;exact (nomk hr trivial).elim) | (cases hk;done))
 ·obtain ⟨_,_,rfl⟩:=map_some hk;exact (nomk hr trivial).elim
 ·-- convert
  rename_i s d0 x ho
  split at hk
  ·obtain rfl:=Option.some.inj hk;exact (nomk hr trivial).elim
  ·obtain rfl:=Option.some.inj hk;exact (nomk hr trivial).elim
  ·rename_i e y hs hd hx
   split at hk
   ·rename_i he;obtain rfl:=Option.some.inj hk;unfold toB at hr;split at hr; · rename_i h1;exact mk_toBytes ho hs hd he h1 hx hR hT hr
    ·exact (bad_mk hr).elim
   ·obtain rfl:=Option.some.inj hk;exact (bad_mk hr).elim
  ·split at hk
   ·obtain rfl:=Option.some.inj hk;exact (nomk hr trivial).elim
   ·obtain rfl:=Option.some.inj hk;exact (bad_mk hr).elim
  ·obtain rfl:=Option.some.inj hk;exact (bad_mk hr).elim
 ·obtain ⟨_,_,_,_,hk⟩:=bind2_some hk;obtain rfl:=Option.some.inj hk;exact (nomk hr trivial).elim
 ·-- makeSlice
  rename_i t l c ho
  split at hk
  ·rename_i e ht
   split at hk
   ·rename_i n bs z hn hb hz
    split at hk
    ·rename_i zl hzl
     split at hk
     ·rename_i hq
      obtain ⟨l',c',hl,hc,hk⟩:=bind2_some hk
      obtain rfl:=Option.some.inj hk
      exact mk_makeSlice ho ht hn hb hz hzl hq hl hc hR hT hr
     ·cases hk
    ·obtain rfl:=Option.some.inj hk;exact (bad_mk hr).elim
   ·cases hk
  ·cases hk
 ·-- slice
  repeat' (first | split at hk | (obtain rfl:=Option.some.inj hk;exact (nomk hr trivial).elim) | (cases hk;done))
 ·-- fieldAddr
  split at hk
  ·split at hk
   ·split at hk
    ·obtain rfl:=Option.some.inj hk;exact (bad_mk hr).elim
    ·split at hk
     ·obtain ⟨_,_,rfl⟩:=map_some hk;exact (nomk hr trivial).elim
     ·cases hk
   ·cases hk
  ·cases hk
 ·split at hk
  ·split at hk
   ·obtain ⟨_,_,_,_,_,_,hk⟩:=bind3_some hk;obtain rfl:=Option.some.inj hk;exact (nomk hr trivial).elim
   ·cases hk
  ·cases hk
 ·split at hk
  ·obtain ⟨_,_,_,_,_,_,hk⟩:=bind3_some hk;obtain rfl:=Option.some.inj hk;exact (nomk hr trivial).elim
  ·obtain ⟨_,_,_,_,_,_,hk⟩:=bind3_some hk;obtain rfl:=Option.some.inj hk;exact (nomk hr trivial).elim
  ·cases hk
 ·split at hk
  ·obtain ⟨_,_,_,_,hk⟩:=bind2_some hk;obtain rfl:=Option.some.inj hk;exact (nomk hr trivial).elim
  ·split at hk
   ·obtain rfl:=Option.some.inj hk;exact (nomk hr trivial).elim
   ·cases hk
  ·cases hk
 ·obtain ⟨_,_,rfl⟩:=map_some hk;exact (nomk hr trivial).elim
 ·exact (nomk hr (ccall_nomk hk)).elim
 ·obtain rfl:=Option.some.inj hk;exact (bad_mk hr).elim
theorem mkrun {k:IK} {v:AV} {H':Hp} (hk:isMk k) (hr:ikRun T H k=some (v,H')): ∃ d cs es,ikMk T k=some (d,cs,es)∧v=d.at_ H.nx∧H'=H.new cs es:=by
 cases k <;> first | exact hk.elim | (simp only [ikRun] at hr;exact mk_of hr)
theorem mk_run_out {o:Oper} {k:IK} {v:AV} {H':Hp} (hk0:cK P o=some k) (hk:isMk k) (hR:Rel (gp P) σ H w) (hT:TR σ nt T a.tmps) (hr:ikRun T H k=some (v,H')):Out P o a σ H w v H':=by
 obtain ⟨d,cs,es,h1,rfl,rfl⟩:=mkrun hk hr
 exact (ck_mk hk0 hR hT h1).out hR
theorem ck_run {o:Oper} {k:IK} {v:AV} {H':Hp} (hk:cK P o=some k) (hR:Rel (gp P) σ H w) (hT:TR σ nt T a.tmps) (hr:ikRun T H k=some (v,H')):Out P o a σ H w v H':=by
 have hk0:=hk
 unfold cK at hk
 split at hk
 ·rename_i x ho;obtain ⟨y,hx,rfl⟩:=map_some hk;exact ok_move (.inl ho) hx hR hT hr
 ·rename_i x ho;obtain ⟨y,hx,rfl⟩:=map_some hk;exact ok_move (.inr ho) hx hR hT hr
 ·rename_i c x y ho;obtain ⟨_,_,_,h1,h2,h3,hk⟩:=bind3_some hk;obtain rfl:=Option.some.inj hk;exact ok_pick ho h1 h2 h3 hR hT hr
 ·split at hk
  ·split at hk
   ·obtain rfl:=Option.some.inj hk;exact mk_run_out hk0 trivial hR hT hr
   ·obtain rfl:=Option.some.inj hk;exact (bad_run hr).elim
  ·obtain rfl:=Option.some.inj hk;exact (bad_run hr).elim
 ·obtain ⟨_,_,_,_,hk⟩:=bind2_some hk;obtain rfl:=Option.some.inj hk;exact mk_run_out hk0 trivial hR hT hr
 ·-- build
  rename_i t ps ho
  split at hk
  ·rename_i z hz
   split at hk
   ·rename_i zl hzl
    split at hk
    ·rename_i fs ht
     split at hk
     ·cases hk
     ·rename_i hall
      obtain ⟨qs,hq,rfl⟩:=map_some hk
      exact ok_buildS ho hz hzl ht (by cases e:(fs.toList.all fun f=>(tSize P f.type).isSome) with | true=>rfl | false=>exact absurd e hall) hq hR hT hr
    ·rename_i k0 e ht
     split at hk
     ·rename_i n hn
      obtain ⟨qs,hq,rfl⟩:=map_some hk
      exact ok_buildA ho hz hzl ht hn hq hR hT hr
     ·cases hk
    ·cases hk
   ·obtain rfl:=Option.some.inj hk;exact (bad_run hr).elim
  ·obtain rfl:=Option.some.inj hk;exact (bad_run hr).elim
 ·split at hk
  ·split at hk
   ·split at hk
    ·split at hk
     ·obtain ⟨qs,hqs,rfl⟩:=map_some hk;exact mk_run_out hk0 trivial hR hT hr
     ·cases hk
    ·obtain rfl:=Option.some.inj hk;exact (bad_run hr).elim
   ·cases hk
  ·cases hk
 ·rename_i t x ho;obtain ⟨_,_,_,h1,h2,h3,hk⟩:=bind3_some hk;obtain rfl:=Option.some.inj hk;exact ok_load ho h1 h2 h3 hR hT hr
 ·rename_i t x y ho;obtain ⟨_,_,_,h1,h2,h3,hk⟩:=bind3_some hk;obtain rfl:=Option.some.inj hk;exact ok_store ho h1 h2 h3 hR hT hr
 ·rename_i x ho;obtain ⟨y,hx,rfl⟩:=map_some hk;exact ok_nilc ho hx hR hT hr
 ·-- binOp
  rename_i op t x y ty ho
  split at hk
  ·rename_i x' y' hx hy
   split at hk
   ·obtain rfl:=Option.some.inj hk;exact ok_bin ho hx hy hR hT hr
   ·obtain rfl:=Option.some.inj hk;exact ok_bin ho hx hy hR hT hr
   ·rename_i ht
    split at hk
    ·obtain rfl:=Option.some.inj hk;exact ok_eqv (c:= .bool) (neg:=false) ho rfl ht rfl hx hy hR hT hr
    ·obtain rfl:=Option.some.inj hk;exact ok_eqv (c:= .bool) (neg:=true) ho rfl ht rfl hx hy hR hT hr
    ·obtain rfl:=Option.some.inj hk;exact (bad_run hr).elim
   ·rename_i ht
    split at hk
    ·obtain rfl:=Option.some.inj hk;exact ok_eqv (c:= .ptr) (neg:=false) ho rfl ht ⟨_,rfl⟩ hx hy hR hT hr
    ·obtain rfl:=Option.some.inj hk;exact ok_eqv (c:= .ptr) (neg:=true) ho rfl ht ⟨_,rfl⟩ hx hy hR hT hr
    ·obtain rfl:=Option.some.inj hk;exact (bad_run hr).elim
   ·rename_i ht
    split at hk
    ·obtain rfl:=Option.some.inj hk;exact ok_eqv (c:= .slice) (neg:=false) ho rfl ht ⟨_,rfl⟩ hx hy hR hT hr
    ·obtain rfl:=Option.some.inj hk;exact ok_eqv (c:= .slice) (neg:=true) ho rfl ht ⟨_,rfl⟩ hx hy hR hT hr
    ·obtain rfl:=Option.some.inj hk;exact (bad_run hr).elim
   ·rename_i ht
    split at hk
    ·rename_i hs hg hz
     split at hk
     ·obtain rfl:=Option.some.inj hk;exact ok_eqvS (neg:=false) ho rfl ht hs hg hz hx hy hR hT hr
     ·obtain rfl:=Option.some.inj hk;exact ok_eqvS (neg:=true) ho rfl ht hs hg hz hx hy hR hT hr
     ·obtain rfl:=Option.some.inj hk;exact (bad_run hr).elim
    ·obtain rfl:=Option.some.inj hk;exact (bad_run hr).elim
   ·rename_i ht
    split at hk
    ·obtain rfl:=Option.some.inj hk;exact ok_eqv (c:= .func) (neg:=false) ho rfl ht ⟨_,_,_,rfl⟩ hx hy hR hT hr
    ·obtain rfl:=Option.some.inj hk;exact ok_eqv (c:= .func) (neg:=true) ho rfl ht ⟨_,_,_,rfl⟩ hx hy hR hT hr
    ·obtain rfl:=Option.some.inj hk;exact (bad_run hr).elim
   ·obtain rfl:=Option.some.inj hk;exact (bad_run hr).elim
   ·cases hk
  ·obtain rfl:=Option.some.inj hk;exact (bad_run hr).elim
 ·rename_i op t x ho;obtain ⟨y,hx,rfl⟩:=map_some hk;exact ok_un ho hx hR hT hr
 ·-- convert
  rename_i s d0 x ho
  split at hk
  ·rename_i k1 k2 y hs hd hx;obtain rfl:=Option.some.inj hk;exact ok_toInt ho hs hd hx hR hT hr
  ·rename_i y hs hd hx;obtain rfl:=Option.some.inj hk;exact ok_strstr ho hs hd hx hR hT hr
  ·split at hk
   ·obtain rfl:=Option.some.inj hk
    unfold toB at hr hk0
    split at hr
    ·rename_i h1
     rw [if_pos h1] at hk0
     exact mk_run_out hk0 trivial hR hT hr
    ·exact (bad_run hr).elim
   ·obtain rfl:=Option.some.inj hk;exact (bad_run hr).elim
  ·rename_i e y hs hd hx
   split at hk
   ·rename_i he;obtain rfl:=Option.some.inj hk;exact ok_toStr ho hs hd he hx hR hT hr
   ·obtain rfl:=Option.some.inj hk;exact (bad_run hr).elim
  ·obtain rfl:=Option.some.inj hk;exact (bad_run hr).elim
 ·rename_i f first caps ho;obtain ⟨_,_,h1,h2,hk⟩:=bind2_some hk;obtain rfl:=Option.some.inj hk;exact ok_mkfun ho h1 h2 hR hT hr
 ·split at hk
  ·split at hk
   ·split at hk
    ·split at hk
     ·obtain ⟨_,_,_,_,hk⟩:=bind2_some hk;obtain rfl:=Option.some.inj hk;exact mk_run_out hk0 trivial hR hT hr
     ·cases hk
    ·obtain rfl:=Option.some.inj hk;exact (bad_run hr).elim
   ·cases hk
  ·cases hk
 ·-- slice
  rename_i t x lo hi mx ho
  split at hk
  ·rename_i x' lo' hi' mx' hx h1 h2 h3
   split at hk
   ·rename_i ht
    split at hk
    ·rename_i hmx
     obtain rfl:=Option.some.inj hk
     have hmx0:mx'=none:=by cases mx' <;> first | rfl | cases hmx
     have hmx1:mx=none:=by
      cases mx with
      | none=>rfl
      | some q=>
       simp only [cOpdO] at h3
       split at h3
       ·rw [hmx0] at h3;cases h3
       ·cases h3
     subst hmx1
     exact ok_substr ho ht hx h1 h2 hR hT hr
    ·cases hk
   ·rename_i e ht
    split at hk
    ·rename_i n hn;obtain rfl:=Option.some.inj hk;exact ok_slice ho ht hn hx h1 h2 h3 hR hT hr
    ·cases hk
   ·rename_i k0 e ht
    split at hk
    ·rename_i n hn;obtain rfl:=Option.some.inj hk;exact ok_arrslice ho ht hn hx h1 h2 h3 hR hT hr
    ·cases hk
   ·obtain rfl:=Option.some.inj hk;exact (bad_run hr).elim
  ·cases hk
 ·-- fieldAddr
  rename_i t x f ho
  split at hk
  ·rename_i fs ht
   split at hk
   ·rename_i fd hf
    split at hk
    ·obtain rfl:=Option.some.inj hk;exact (bad_run hr).elim
    ·rename_i hne
     split at hk
     ·rename_i n hn
      obtain ⟨y,hx,rfl⟩:=map_some hk
      exact ok_faddr ho ht hf hn (fun q=>hne (by rw [hn,q])) hx hR hT hr
     ·cases hk
   ·cases hk
  ·cases hk
 ·rename_i t x f ho
  split at hk
  ·rename_i fs ht
   split at hk
   ·rename_i fd hf
    obtain ⟨_,_,_,h1,h2,h3,hk⟩:=bind3_some hk
    obtain rfl:=Option.some.inj hk
    exact ok_field ho ht hf h1 h2 h3 hR hT hr
   ·cases hk
  ·cases hk
 ·rename_i t x i ho
  split at hk
  ·rename_i e ht
   obtain ⟨_,_,_,h1,h2,h3,hk⟩:=bind3_some hk
   obtain rfl:=Option.some.inj hk
   exact ok_iaddr ho ht h1 h2 h3 hR hT hr
  ·rename_i k0 e ht
   obtain ⟨_,_,_,h1,h2,h3,hk⟩:=bind3_some hk
   obtain rfl:=Option.some.inj hk
   exact ok_arraddr ho ht h1 h2 h3 hR hT hr
  ·cases hk
 ·rename_i t x i ho
  split at hk
  ·rename_i ht
   obtain ⟨_,_,h1,h2,hk⟩:=bind2_some hk
   obtain rfl:=Option.some.inj hk
   exact ok_strix ho ht h1 h2 hR hT hr
  ·rename_i k0 e ht
   split at hk
   ·rename_i n g x' i' h1 h2 h3 h4
    obtain rfl:=Option.some.inj hk
    exact ok_arrix ho ht h1 h2 h3 h4 hR hT hr
   ·cases hk
  ·cases hk
 ·rename_i x i ho;obtain ⟨y,hx,rfl⟩:=map_some hk;exact ok_ext ho hx hR hT hr
 ·rename_i c ho;exact ccall_run ho hk hR hT hr
 ·obtain rfl:=Option.some.inj hk;exact (bad_run hr).elim
end
end Go.Proofs.YtgfcgkbbmcgjmaaGreatDoor.Eng
