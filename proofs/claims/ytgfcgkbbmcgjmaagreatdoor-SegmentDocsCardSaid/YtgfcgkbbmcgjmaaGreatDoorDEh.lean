/- The engine, part Eh: what is said of code, and that it comes true. -/
import Derived.Test.YtgfcgkbbmcgjmaaGreatDoorDEg
import Derived.ChangeArms
import GoSem.ClaimWide
namespace Go.Proofs.YtgfcgkbbmcgjmaaGreatDoor.Eng
set_option linter.unusedVariables false
set_option linter.unusedSimpArgs false
section
variable {P:Program} {G:Gp} {σ:Sg} {H:Hp} {w:World}
def AllFz (H:Hp):Prop:= ∀ i bl,H.m.get i=some bl→bl.rw=false
theorem Rel.arg (h:Rel G σ H w) (hfz:AllFz H) {row:List AV} {blk off:Nat} {cs:Array Value} {ty:TypeId} {fr:Nat × Nat} (hb:w.heap[blk]? =some (.cells cs ty fr)) (hf:off+row.length≤cs.size)
  (hv: ∀ (j:Nat) (a:AV),row[j]? =some a→ ∃ v,cs[off+j]? =some v∧ ∀ σ,VR σ a v):Rel G (Eng.up σ H.nx ⟨blk,off,0⟩) ⟨H.m.set H.nx (some ⟨row,0,false⟩),H.nx+1⟩ w:=by
 have e:=up_ext h.fresh ⟨blk,off,0⟩
 refine ⟨fun i l hi=>?_,Nat.le_succ_of_le h.nx,fun g hg=>?_,fun i bl hi=>?_,fun i j bi bj li lj hi hj h1 h2 h3 h4=>?_⟩
 ·show i<H.nx+1
  unfold Eng.up at hi
  split at hi
  ·omega
  ·have:=h.lt i l hi;omega
 ·obtain ⟨r,hr⟩:=h.gl g hg
  exact ⟨r,e _ _ hr⟩
 ·simp only [Tr.get_set] at hi
  by_cases q:i=H.nx
  ·subst q
   rw [if_pos rfl] at hi
   obtain rfl:=Option.some.inj hi
   refine ⟨⟨blk,off,0⟩,cs,ty,fr,up_same _ _,hb,by simp only [Nat.zero_mul];omega,fun j a ha _=>?_,fun q=>(by cases q),fun q=>(by cases q),fun t ht=>(by simp only [tagN] at ht;omega),fun q=>(by cases q)⟩
   obtain ⟨v,g1,g2⟩:=hv j a ha
   exact ⟨v,g1,g2 _⟩
  ·rw [if_neg q] at hi
   obtain ⟨l,c,t,f,g1,g2,g3,g4,g5⟩:=h.blk i bl hi
   exact ⟨l,c,t,f,e _ _ g1,g2,g3,fun j a ha hs=>by obtain ⟨v,k1,k2⟩:=g4 j a ha hs;exact ⟨v,k1,k2.mono e⟩,g5⟩
 ·simp only [Tr.get_set] at hi
  by_cases q:i=H.nx
  ·rw [if_pos q] at hi
   obtain rfl:=Option.some.inj hi
   cases h4
  ·rw [if_neg q] at hi
   have:=hfz i bi hi
   rw [this] at h4
   cases h4
theorem fr_keeps {σ':Sg} {H':Hp} {w':World} (hfz:AllFz H) (hf:Fr σ H w σ' H' w'):w'.os=w.os∧w'.tape=w.tape∧w'.output=w.output∧w.heap.size≤w'.heap.size∧ ∀ k,k<w.heap.size→w'.heap[k]? =w.heap[k]? :=
 ⟨hf.os,hf.tape,hf.output,hf.size,fun k hk=>hf.keep k hk fun ⟨i,bl,l,h1,h2,_⟩=>by rw [hfz i bl h1] at h2;cases h2⟩
theorem allfz_set (h:AllFz H) (i n:Nat) (row:List AV):AllFz ⟨H.m.set i (some ⟨row,0,false⟩),n⟩:=fun j bl hj=>by
 simp only [Tr.get_set] at hj
 split at hj
 ·obtain rfl:=Option.some.inj hj;rfl
 ·exact h j bl hj
theorem startH_fz (G:Nat) (L:List (Nat × List AV)):AllFz (startH G L):=fun i bl h=>by
 obtain ⟨l,_,rfl⟩:=start_get L i bl h
 rfl
theorem shape_cells {w:World} {b:Nat} {x:TypeId × Nat} (h:w.shape? b=some x): ∃ cs fr,w.heap[b]? =some (.cells cs x.1 fr)∧cs.size=x.2:=by
 unfold World.shape? at h
 split at h
 ·rename_i cs ty fr he
  obtain rfl:=Option.some.inj h
  exact ⟨cs,fr,he,rfl⟩
 ·cases h
theorem cells_at {w:World} {b o n base:Nat} {c:List Value} (h:w.cells? base ⟨b,o,none⟩ n=some c):c.length=n∧ ∀ j,j<n→w.cell? ⟨b,o+j,none⟩=c[j]? :=by
 obtain ⟨_,h2,h3⟩:=World.cells?_some h
 refine ⟨h2,fun j hj=>?_⟩
 have:=h3 j hj
 rw [add_at] at this
 exact this
section
variable {D:Type} {enc:TypeId × Value→D} {α:Type}
theorem arg_slice (cv:α→List AV) (Pr:α→Prop) {t e:TypeId} {es base:Nat} (ht:P.underlying t=some (.slice e)) (hc:P.cellsOf e=es) (h0:0<es) (hcv: ∀ x,(cv x).length=es∧scAll (cv x)=true)
  (open1: ∀ n (c:List Value) (y:DataW D × List MemPlace),DataW.trod enc P w 0 (fun _=>true) true n e c=some y→ ∃ x,Pr x∧ ∀ σ,VRs σ (cv x) c)
  {v:Value} {d:DataW D} {p:List MemPlace} (h:DataW.Trod enc P w 0 (fun _=>true) true t v d p) (hok:Value.okWide P w .any base t v) (hR:Rel G σ H w) (hfz:AllFz H) (hO:Ok H):
  ∃ (σ':Sg) (H':Hp) (a:AV) (xs:List α),Rel G σ' H' w∧AllFz H'∧Ok H'∧Ext σ σ'∧Mo H H'∧VR σ' a v∧Sl H' es a (xs.map cv) true∧(∀ x∈xs,Pr x)∧xs.length≤maxLen:=by
 obtain ⟨fuel,h⟩:=h
 have hv1:v.cells.toList=[v]:=by
  unfold Value.okWide at hok
  rw [ht] at hok
  simp only at hok
  unfold Cell.okWide at hok
  rw [ht] at hok
  cases v <;> first | rfl | (simp [Cell.ok,ht] at hok)
 rw [hv1] at h
 rcases DataW.trod_slice ht h with ⟨hn,_⟩ | ⟨ad,len,cap,elems,rest,n,hn,hv,_,_,hl,hm,hlen,hel,hsp,_⟩
 ·obtain rfl:v= .slice none 0 0:=by simpa using hn
  exact ⟨σ,H, .nils,[],hR,hfz,hO,Ext.refl _,Mo.refl _, .nils,Sl.nil,fun _ h=>(by cases h),Nat.zero_le _⟩
 ·obtain rfl:v= .slice (some ad) len cap:=by simpa using hv
  have hhas:w.has P .any base ad e cap:=by
   unfold Value.okWide at hok
   rw [ht] at hok
   simp only at hok
   unfold Cell.okWide at hok
   rw [ht] at hok
   simp only [Cell.ok,ht] at hok
   exact hok.2.2
  obtain ⟨_,hspot,rw_,cells,hsh,_⟩:=hhas
  obtain ⟨blk,off,spot⟩:=ad
  simp only at hspot hsh
  subst hspot
  obtain ⟨cs,fr,hb,hsz⟩:=shape_cells hsh
  -- every element up to the capacity lies there
  have there: ∀ i,i<cap→off+(i+1)*es≤cs.size:=fun i hi=>by
   have key: ∃ c,w.cells? 0 ((⟨blk,off,none⟩:Addr).add (i*P.cellsOf e)) (P.cellsOf e)=some c:=by
    by_cases hil:i<len
    ·have:=hel i hil
     rw [List.getElem?_eq_getElem (by omega)] at this
     obtain ⟨c,hcc,_⟩:=Option.bind_eq_some_iff.1 this
     exact ⟨c,hcc⟩
    ·obtain ⟨r1,r2⟩:=hsp rfl
     have:=r2 (i-len) (by omega)
     rw [List.getElem?_eq_getElem (by omega),show len+(i-len)=i by omega] at this
     obtain ⟨c,hcc,_⟩:=Option.bind_eq_some_iff.1 this
     exact ⟨c,hcc⟩
   obtain ⟨c,hcc⟩:=key
   rw [add_at,hc] at hcc
   obtain ⟨c1,c2⟩:=cells_at hcc
   have:=c2 (es-1) (by omega)
   rw [List.getElem?_eq_getElem (by omega),cell_at hb] at this
   have:=(Array.getElem?_eq_some_iff.1 this).1
   rw [Nat.add_mul,Nat.one_mul]
   omega
  have each: ∀ i:Fin len, ∃ x,Pr x∧ ∀ (j:Nat) (a:AV),(cv x)[j]? =some a→ ∃ u,cs[off+(i.1*es+j)]? =some u∧ ∀ σ,VR σ a u:=fun i=>by
   have:=hel i.1 i.2
   rw [List.getElem?_eq_getElem (by omega)] at this
   obtain ⟨c,hcc,hy⟩:=Option.bind_eq_some_iff.1 this
   obtain ⟨x,hx,hvr⟩:=open1 n c _ hy
   rw [add_at,hc] at hcc
   obtain ⟨c1,c2⟩:=cells_at hcc
   refine ⟨x,hx,fun j a ha=>?_⟩
   have hj:j<es:=by have:=(List.getElem?_eq_some_iff.1 ha).1;rw [(hcv x).1] at this;exact this
   refine ⟨c[j]'(by omega),?_,fun σ=>?_⟩
   ·have:=c2 j hj
    rw [cell_at hb,List.getElem?_eq_getElem (by omega)] at this
    rw [←Nat.add_assoc]
    exact this
   ·obtain ⟨u,g1,g2⟩:=(hvr σ).get j a ha
    rw [List.getElem?_eq_getElem (by omega)] at g1
    obtain rfl:=Option.some.inj g1
    exact g2
  obtain ⟨xs,hxs⟩: ∃ xs:List α,xs=List.ofFn fun i=>Classical.choose (each i):=⟨_,rfl⟩
  have hxl:xs.length=len:=by rw [hxs];simp
  have hrw:Rw es (xs.map cv):=fun y hy=>by
   obtain ⟨x,_,rfl⟩:=List.mem_map.1 hy
   exact hcv x
  have hfl:(xs.map cv).flatten.length=len*es:=by rw [flat_len hrw,List.length_map,hxl]
  obtain ⟨off',hoff⟩: ∃ off',off'=if cap=0 then 0 else off:=⟨_,rfl⟩
  have hfit:off'+(xs.map cv).flatten.length≤cs.size:=by
   rw [hfl,hoff]
   by_cases hq:cap=0
   ·have:len=0:=by omega
    rw [if_pos hq,this]
    simp
   ·rw [if_neg hq]
    by_cases hq2:len=0
    ·have:=there 0 (by omega)
     rw [hq2]
     omega
    ·have:=there (len-1) (by omega)
     rw [show len-1+1=len by omega] at this
     exact this
  have hval: ∀ (j:Nat) (a:AV),(xs.map cv).flatten[j]? =some a→ ∃ u,cs[off'+j]? =some u∧ ∀ σ,VR σ a u:=fun j a ha=>by
   have hj:=(List.getElem?_eq_some_iff.1 ha).1
   rw [hfl] at hj
   have hi:j / es<len:=Nat.div_lt_of_lt_mul (by rw [Nat.mul_comm];exact hj)
   have hlen0:0<len:=Nat.lt_of_le_of_lt (Nat.zero_le _) hi
   have hcap: ¬ cap=0:=by omega
   rw [if_neg hcap] at hoff
   have hdm:j / es*es+j%es=j:=by rw [Nat.mul_comm];exact Nat.div_add_mod j es
   have hjm:j-j / es*es=j%es:=by
    generalize j / es*es=q at hdm
    generalize j%es=r at hdm
    omega
   have hx:xs[j / es]'(by omega)=Classical.choose (each ⟨j / es,hi⟩):=by
    simp only [hxs,List.getElem_ofFn]
   have hsp:=Classical.choose_spec (each ⟨j / es,hi⟩)
   rw [←hx] at hsp
   have ha2:(cv (xs[j / es]'(by omega)))[j%es]? =some a:=by
    have hi2:j / es<(xs.map cv).length:=by rw [List.length_map,hxl];exact hi
    have e1:=flat_split hi2
    rw [e1,List.getElem?_append_right (by rw [flat_len (hrw.take _),List.length_take,Nat.min_eq_left (Nat.le_of_lt hi2)];exact Nat.div_mul_le_self j es),flat_len (hrw.take _),List.length_take,Nat.min_eq_left (Nat.le_of_lt hi2),List.getElem?_append_left (by rw [List.getElem_map,(hcv _).1,hjm];exact Nat.mod_lt j h0),List.getElem_map,hjm] at ha
    exact ha
   obtain ⟨u,g1,g2⟩:=hsp.2 (j%es) a ha2
   simp only at g1
   rw [hdm] at g1
   rw [hoff]
   exact ⟨u,g1,g2⟩
  refine ⟨_,_, .slice H.nx 0 len cap true,xs,hR.arg hfz hb hfit hval,allfz_set hfz _ _ _,fun i hi=>?_,up_ext hR.fresh _,⟨Nat.le_succ _,fun i hi hn=>?_,fun i bl hi _=>?_⟩,?_,⟨hrw, .inr ⟨H.nx,0,cap,true,_,by rw [List.length_map,hxl],by rw [List.length_map,hxl];exact hl,Tr.get_set_same _ _ _,⟨[],by simp [dropN]⟩,fun _=>rfl⟩⟩,fun x hx=>?_,by omega⟩
  ·have hi:H.nx+1≤i:=hi
   simp only [Tr.get_set]
   rw [if_neg (by omega)]
   exact hO i (by omega)
  ·simp only [Tr.get_set]
   rw [if_neg (by omega)]
   exact hn
  ·simp only [Tr.get_set]
   rw [if_neg (fun q=>by rw [q,hO _ (Nat.le_refl _)] at hi;cases hi)]
   exact hi
  ·exact .slice H.nx 0 len cap true ⟨blk,off',0⟩ off cap (up_same _ _) (by simp) (fun hq=>by rw [hoff,if_neg hq];rfl) hl
  ·rw [hxs] at hx
   obtain ⟨i,rfl⟩:=List.mem_ofFn.1 hx
   exact (Classical.choose_spec (each i)).1
def strN (s:ByteArray):List Nat:=s.data.toList.map (·.toNat)
theorem strN_lt (s:ByteArray): ∀ b∈strN s,b<256:=fun b hb=>by
 obtain ⟨u,_,rfl⟩:=List.mem_map.1 hb
 exact u.toNat_lt
theorem strN_len (s:ByteArray):(strN s).length=s.size:=by simp [strN]
theorem open_str1 {e:TypeId} (he:P.underlying e=some .string) (n:Nat) (c:List Value) (y:DataW D × List MemPlace) (h:DataW.trod enc P w 0 (fun _=>true) true n e c=some y): ∃ x:List Nat,((∀ b∈x,b<256)∧x.length≤maxLen)∧ ∀ σ,VRs σ [AV.str x] c:=by
 obtain ⟨s,rfl,_,h2⟩:=DataW.trod_string he h
 exact ⟨strN s,⟨strN_lt s,by rw [strN_len];exact h2⟩,fun σ=> .cons (.str s) .nil⟩
end
end
end Go.Proofs.YtgfcgkbbmcgjmaaGreatDoor.Eng
