/- The engine, part Ev: what is said of code, and that it comes true. -/
import Derived.Test.YtgfcgkbbmcgjmaaGreatDoorDEe
import Derived.Lib.Bytealg
import Derived.Lib.UnsafeStr
namespace Go.Proofs.YtgfcgkbbmcgjmaaGreatDoor.Eng
set_option linter.unusedVariables false
set_option linter.unusedSimpArgs false
section
variable {P:Program}
def flatV:AV→Bool
 | .bool _=>true
 | .int _ _=>true
 | .str _=>true
 | _=>false
theorem VR.flat {σ σ':Sg} {a:AV} {v:Value} (h:VR σ a v) (hf:flatV a=true):VR σ' a v:=by
 cases h <;> first | (constructor;done) | cases hf
theorem start_rel2 {w:World} {G:Gp} {L:List (Nat × List AV)} (h: ∀ x∈L,x.1<G.n∧ ∃ cs t fr,w.heap[x.1]? =some (Obj.cells cs t fr)∧x.2.length≤cs.size∧ ∀ (j:Nat) (a:AV),x.2[j]? =some a→ ∃ v,cs[j]? =some v∧VR (startS G.n) a v):Rel G (startS G.n) (startH G.n L) w:=by
 refine ⟨fun i l e=>?_,Nat.le_refl _,fun g hg=>⟨0,if_pos hg⟩,fun i bl e=>?_,fun i j bi bj li lj hi hj h1 h2 h3 h4=>?_⟩
 ·unfold startS at e
  split at e
  ·assumption
  ·cases e
 ·obtain ⟨l,hm,rfl⟩:=start_get L i bl e
  obtain ⟨hg,cs,t,fr,hw,hl,hv⟩:=h _ hm
  refine ⟨⟨i,0,0⟩,cs,t,fr,if_pos hg,hw,?_,fun j a ha _=>?_,fun q=>(by cases q),fun q=>(by cases q),fun t ht=>(by simp only [tagN] at ht;omega),fun q=>(by cases q)⟩
  ·simp only at hl ⊢
   omega
  ·obtain ⟨v,g1,g2⟩:=hv j a ha
   exact ⟨v,by simpa using g1,g2⟩
 ·obtain ⟨l,_,rfl⟩:=start_get L i bi hi
  cases h4
theorem closed_ok {L:List (Nat × List AV)} {f:Nat} {call:Ans} {H1:Hp} (hflat:(L.all fun p=>p.2.all flatV&&Nat.blt p.1 P.globals.size)=true) (hcall:CallOK P call) (hrun:call f [] (startH P.globals.size L)=some (.bool true,H1))
  (args:List AV) (H:Hp) (v:AV) (H':Hp) (h:closedA L args H=some (v,H')) (σ:Sg) (w:World) (vs:Array Value) (hR:Rel (gp P) σ H w) (hv:VRs σ args vs.toList):CallR P f vs w (End P σ H w v H'):=by
 unfold closedA at h
 match args,h,hv with
 | [],h,hv=>
  simp only at h
  split at h
  ·rename_i hL
   cases h
   have hvs:vs= #[]:=Array.ext' (by cases hq:vs.toList with | nil=>rfl | cons a l=>rw [hq] at hv;cases hv)
   subst hvs
   have hrel:Rel (gp P) (startS P.globals.size) (startH P.globals.size L) w:=by
    refine start_rel2 fun x hx=>?_
    have hf:=List.all_eq_true.1 hflat x hx
    rw [Bool.and_eq_true] at hf
    have hg:x.1<P.globals.size:=by have:=hf.2;rwa [Nat.blt_eq] at this
    obtain ⟨es,rw_,he⟩:=hL x hx
    obtain ⟨r,hr⟩:=hR.gl x.1 hg
    obtain ⟨l,cs,ty,fr,g1,g2,g3,g4,_⟩:=hR.blk x.1 _ he
    rw [hr] at g1
    cases g1
    refine ⟨hg,cs,ty,fr,g2,by simp only at g3;omega,fun j a ha=>?_⟩
    have hfa:=List.all_eq_true.1 hf.1 a (List.mem_of_getElem? ha)
    have hsc:a.sc=true:=by cases a <;> first | rfl | cases hfa
    obtain ⟨v,e1,e2⟩:=g4 j a ha hsc
    exact ⟨v,by simpa using e1,e2.flat hfa⟩
   have fin: ∀ e w',End P (startS P.globals.size) (startH P.globals.size L) w (.bool true) H1 e w'→End P σ H w (.bool true) H e w':=by
    rintro e w' ⟨σ',v',rfl,hv',_,hf⟩
    cases hv'
    obtain ⟨k1,k2,k3,k4,k5⟩:=start_keeps hf
    refine ⟨σ,_,rfl, .bool true,⟨hR.lt,hR.nx,hR.gl,fun i bl e=>?_,hR.inj⟩,⟨Ext.refl _,k1,k2,k3,k4,fun k hk _=>k5 k hk,fun k h=> .inr h,Nat.le_refl _,fun _ _=>rfl,fun _ _ h _=>h⟩⟩
    obtain ⟨l,cs,ty,fr,g1,g2,rest⟩:=hR.blk i bl e
    exact ⟨l,cs,ty,fr,g1,(k5 l.blk (Array.getElem?_eq_some_iff.1 g2).1).trans g2,rest⟩
   rcases hcall f [] _ _ _ hrun (startS P.globals.size) w #[] hrel .nil with ⟨he,hc⟩ | ⟨v,w',h1,h2⟩
   ·exact .inl ⟨he,hc.mono (fun e w' hE=>fin e w' hE)⟩
   ·exact .inr ⟨v,w',h1,fin _ _ h2⟩
  ·cases h
 | _::_,h,hv=>cases h
theorem ix_eqN: ∀ (l:List UInt8) (c:Nat),c<256→Lib.indexByte l c.toUInt8=ixN (l.map (·.toNat)) c
 | [],_,_=>rfl
 | b::l,c,hc=>by
  have ih:=ix_eqN l c hc
  have hge:=Lib.indexByte_ge l c.toUInt8
  unfold Lib.indexByte
  simp only [List.map_cons,ixN]
  have hcn:c.toUInt8.toNat=c:=by simp [Nat.mod_eq_of_lt hc]
  by_cases h:b=c.toUInt8
  ·have h2:b.toNat=c:=by rw [h,hcn]
   rw [show (b == c.toUInt8)=true by simp [h],h2,Nat.beq_refl]
   rfl
  ·have h2:b.toNat≠c:=fun e=>h (UInt8.toNat_inj.1 (by rw [e,hcn]))
   have he:Nat.beq b.toNat c=false:=by
    cases hq:Nat.beq b.toNat c with
    | true=>exact absurd (Nat.eq_of_beq_eq_true hq) h2
    | false=>rfl
   rw [show (b == c.toUInt8)=false by simp [h],he]
   simp only [Bool.false_eq_true,if_false]
   rw [←ih]
   generalize Lib.indexByte l c.toUInt8=r at hge
   cases r with
   | ofNat n=>rw [if_neg (by simp)];rfl
   | negSucc n=>
    have:n=0:=by omega
    subst this
    rfl
theorem VRs.two_inv {σ:Sg} {a b:AV} {l:List Value} (h:VRs σ [a,b] l): ∃ x y,l=[x,y]∧VR σ a x∧VR σ b y:=by
 cases h with
 | cons h t=>cases t with
  | cons h2 t2=>cases t2;exact ⟨_,_,rfl,h,h2⟩
theorem ixb_ok {f:Nat} (hx: ∀ (a:ByteArray) (c:Int) (w:World),(callFunc f #[.string a, .int .u8 c]).run P w= .ok (.value (.int .i64 (Lib.indexByte a.data.toList c.toNat.toUInt8))) w)
  (args:List AV) (H:Hp) (v:AV) (H':Hp) (h:ixbA args H=some (v,H')) (σ:Sg) (w:World) (vs:Array Value) (hR:Rel (gp P) σ H w) (hv:VRs σ args vs.toList):CallR P f vs w (End P σ H w v H'):=by
 unfold ixbA at h
 split at h
 ·rename_i s c
  split at h
  ·rename_i hc
   rw [Nat.blt_eq] at hc
   cases h
   obtain ⟨x,y,e,h1,h2⟩:=hv.two_inv
   have hvs:vs= #[x,y]:=Array.ext' e
   subst hvs
   generalize hx1:AV.str _=a1 at h1
   cases h1 <;> cases hx1
   generalize hx2:AV.int _ _=a2 at h2
   cases h2 <;> cases hx2
   rename_i s1
   refine .inr ⟨_,w,hx s1 (.ofNat c) w,σ,_,rfl,?_,hR,Fr.refl _ _ _⟩
   rw [show (Int.ofNat c).toNat=c from rfl,ix_eqN _ c hc]
   exact .int _ _
  ·cases h
 ·cases h
end
section
variable {P:Program} {σ:Sg} {H:Hp} {w:World}
theorem copy_ok {f T:Nat} (he:Ent P f)
  (hused: ∀ (b:Nat) (w:World),w.cell? ⟨b,0,none⟩=some (.pointer (some ⟨b,0,none⟩))→Calls P f #[.pointer (some ⟨b,0,none⟩)] w fun e w'=>e= .returned (.tuple #[])∧w'=w)
  (hfresh: ∀ (b:Nat) (w:World),w.cell? ⟨b,0,none⟩=some (.pointer none)→w.shape? b=some (T,2)→w.frozen? ⟨b,0,none⟩=false→Calls P f #[.pointer (some ⟨b,0,none⟩)] w fun e w'=>e= .returned (.tuple #[])∧w'=w.setCell ⟨b,0,none⟩ (.pointer (some ⟨b,0,none⟩)))
  (args:List AV) (H:Hp) (v:AV) (H':Hp) (h:copyCheckA T args H=some (v,H')) (σ:Sg) (w:World) (vs:Array Value) (hR:Rel (gp P) σ H w) (hv:VRs σ args vs.toList):CallR P f vs w (End P σ H w v H'):=by
 unfold copyCheckA at h
 split at h
 ·rename_i b
  obtain ⟨x,hx,hxv⟩:=hv.one_inv
  have hvs:vs= #[x]:=Array.ext' hx
  subst hvs
  cases hxv with
  | ptr _ _ l hσ=>
   split at h
   ·rename_i bl hb
    split at h
    ·rename_i hq
     rw [Bool.and_eq_true,Bool.and_eq_true] at hq
     obtain ⟨q1,q2,hz⟩:=hq
     have hz:=Tr.beq_t hz
     have q2:=Tr.beq_t q2
     obtain ⟨l',cs,ty,fr,g1,g2,g3,g4,g5,g6,g7,g8⟩:=hR.blk b bl hb
     rw [hσ] at g1
     obtain rfl:=Option.some.inj g1
     obtain ⟨rfl,k2,k3⟩:=g7 T q2
     rw [k2,Nat.zero_add]
     split at h
     ·rename_i hl
      split at h
      ·rename_i H2 hst
       simp only [Option.some.injEq,Prod.mk.injEq] at h
       obtain ⟨rfl,rfl⟩:=h
       obtain ⟨l2,vv,r1,r2,r3,r4,_⟩:=hR.load hl
       rw [hσ] at r1
       obtain rfl:=Option.some.inj r1
       obtain ⟨y,rfl,hy⟩:=r2.one_inv
       cases hy
       have hc:=r4 0 _ rfl
       rw [k2] at hc
       refine .inl ⟨he _ _,(hfresh l.blk w hc (by rw [shape_at g2,k3,hz]) (froz_at g2 (g5 q1 0 (by omega)))).mono ?_⟩
       rintro e w' ⟨rfl,rfl⟩
       obtain ⟨w2,s1,s2,s3⟩:=hR.store_at P hst hσ (vals:=[.pointer (some ⟨l.blk,0,none⟩)]) (.cons (by have:=VR.ptr (σ:=σ) b 0 l hσ;rwa [k2] at this) .nil)
       have hw2:w2=w.setCell ⟨l.blk,0,none⟩ (.pointer (some ⟨l.blk,0,none⟩)):=by
        have e1:w.cell? ⟨l.blk,0,none⟩=some (.pointer none):=hc
        have e2:=froz_at g2 (g5 q1 0 (by omega))
        have:(storeCells ⟨l.blk,l.off+0,none⟩ [.pointer (some ⟨l.blk,0,none⟩)]).run P w= .ok () (w.setCell ⟨l.blk,0,none⟩ (.pointer (some ⟨l.blk,0,none⟩))):=by
         rw [k2]
         show Sem.run P (bind (Go.store ((⟨l.blk,0,none⟩:Addr).add 0) _) fun _=>storeCells _ [] 1) w=_
         rw [Sem.run_bind,add_at]
         unfold Go.store
         simp only [Sem.run,e1,e2]
         rfl
        rw [this] at s1
        simp only [Result.ok.injEq,true_and] at s1
        exact s1.symm
       rw [←hw2]
       exact ⟨σ,_,rfl,VR.undef,s2,s3⟩
      ·cases h
     ·rename_i c o hl
      split at h
      ·rename_i hq2
       rw [Bool.and_eq_true] at hq2
       obtain ⟨c1,c2⟩:=hq2
       obtain rfl:=Tr.beq_t c1
       obtain rfl:=Tr.beq_t c2
       simp only [Option.some.injEq,Prod.mk.injEq] at h
       obtain ⟨rfl,rfl⟩:=h
       obtain ⟨l2,vv,r1,r2,r3,r4,_⟩:=hR.load hl
       rw [hσ] at r1
       obtain rfl:=Option.some.inj r1
       obtain ⟨y,rfl,hy⟩:=r2.one_inv
       have hc:=r4 0 _ rfl
       cases hy with
       | ptr _ _ l3 hσ3=>
        rw [hσ] at hσ3
        obtain rfl:=Option.some.inj hσ3
        rw [k2] at hc
        refine .inl ⟨he _ _,(hused l.blk w hc).mono ?_⟩
        rintro e w' ⟨rfl,rfl⟩
        exact ⟨σ,_,rfl,VR.undef,hR,Fr.refl _ _ _⟩
      ·cases h
     ·cases h
    ·cases h
   ·cases h
 ·cases h
end
section
variable {P:Program} {G:Gp} {σ:Sg} {H:Hp} {w w':World}
theorem Rel.away (h:Rel G σ H w) (hh: ∀ i bl l,H.m.get i=some bl→σ i=some l→w'.heap[l.blk]? =w.heap[l.blk]?):Rel G σ H w':=
 ⟨h.lt,h.nx,h.gl,fun i bl e=>by
  obtain ⟨l,cs,ty,fr,g1,g2,g3⟩:=h.blk i bl e
  exact ⟨l,cs,ty,fr,g1,(hh i bl l e g1).trans g2,g3⟩,h.inj⟩
theorem freeze_away (w:World) (a:Addr) (n k:Nat) (hk:k≠a.block):(w.freeze a n).heap[k]? =w.heap[k]? :=by
 unfold World.freeze
 split
 ·rfl
 ·simp only [Array.getElem?_modify]
  rw [if_neg fun q=>hk q.symm]
theorem freeze_same (w:World) (a:Addr) (n:Nat):(w.freeze a n).os=w.os∧(w.freeze a n).tape=w.tape∧(w.freeze a n).output=w.output∧(w.freeze a n).heap.size=w.heap.size:=by
 unfold World.freeze
 split
 ·exact ⟨rfl,rfl,rfl,rfl⟩
 ·exact ⟨rfl,rfl,rfl,by simp⟩
theorem lies_bytes {rt e:TypeId} (he:P.underlying e=some (.int .u8)) (hr:P.underlying rt=some (.int .u8)) (hc:P.cellsOf rt=1) (count o n:Nat) (hn:o+n≤count):liesAt P P.depth rt count o e n=true:=by
 have hd:P.depth=(2*(P.types.size+Made.depth)+1)+1:=rfl
 have hs:sameLayout P P.depth rt e=true:=by
  rw [hd]
  unfold sameLayout
  rw [Bool.or_eq_true]
  right
  rw [hr,he]
  rfl
 rw [hd]
 simp only [liesAt,Bool.or_eq_true]
 left
 rw [hd]
 rw [hd] at hs
 simp [rowAt,hc,hn,hs,Nat.mod_one]
theorem run_ustr (pt it ty e rt:TypeId) (hp:P.underlying pt=some (.pointer e)) (he:P.underlying e=some (.int .u8)) (hr:P.underlying rt=some (.int .u8)) (hc:P.cellsOf rt=1) (g o cells:Nat) (hsh:w.shape? g=some (rt,cells)) (l:List UInt8) (h0:l≠[]) (hn:o+l.length≤cells) (h63:l.length≤9223372036854775807)
  (hcell: ∀ j x,l[j]? =some x→w.cell? ⟨g,o+j,none⟩=some (.int .u8 x.toNat)):
  (Builtin.unsafeString_ #[pt,it] ty #[.pointer (some ⟨g,o,none⟩), .int .i64 l.length]).run P w= .ok (.string ⟨l.toArray⟩) (w.freeze ⟨g,o,none⟩ l.length):=by
 have hl:l.length≠0:=by simpa using h0
 have hlb:=Lib.run_loadBytes (P:=P) w l ⟨g,o,none⟩ .empty fun j x h=>by rw [add_at];exact hcell j x h
 have hlies:=lies_bytes (P:=P) he hr hc (cells / P.cellsOf rt) o l.length (by rw [hc];simpa using hn)
 have h63': ¬ (9223372036854775807:Int)<(l.length:Int):=by omega
 have hdef:Builtin.unsafeString_ #[pt,it] ty #[.pointer (some ⟨g,o,none⟩), .int .i64 l.length]=
   (do
    let n ←asInt (.int .i64 l.length)
    if n < 0 then runtimePanic (.error "unsafe.String: len out of range")
    if n > IntKind.i64.max then unsupported (.unsafePointer "String: a length above the largest int")
    if n=0 then pure (.string .empty)
    else if ←variablesAt ⟨g,o,none⟩ (←elemOf pt) n.toNat then do
     let s ←loadBytes ⟨g,o,none⟩ .empty n.toNat
     freeze ⟨g,o,none⟩ n.toNat
     pure (.string s)
    else unsupported (.unsafePointer "String: not so many bytes at ptr")) := rfl
 rw [hdef]
 have hmax:IntKind.i64.max=9223372036854775807:=rfl
 have hneg: ¬ (l.length:Int)<0:=by omega
 simp [asInt,asIntOf,hmax,h63',hneg,hl,variablesAt,hsh,elemOf,run_underlying hp,hlies,hlb]
theorem string_ok {f:Nat} (he:Ent P f)
  (hnil: ∀ (b:Nat) (w:World),w.cell? ⟨b,1,none⟩=some (.slice none 0 0)→Calls P f #[.pointer (some ⟨b,0,none⟩)] w fun e w'=>e= .returned (.string .empty)∧ ∃ m,w'={ w with drawn:=m })
  (hrow: ∀ (b:Nat) (w:World) (g o n cap:Nat) (l:List UInt8) (ty cells:Nat),l≠[]→l.length=n→n≤cap→n≤9223372036854775807→w.cell? ⟨b,1,none⟩=some (.slice (some ⟨g,o,none⟩) n cap)→w.shape? g=some (ty,cells)→P.underlying ty=some (.int .u8)→P.cellsOf ty=1→o+n≤cells→
   (∀ j x,l[j]? =some x→w.cell? ⟨g,o+j,none⟩=some (.int .u8 x.toNat))→Calls P f #[.pointer (some ⟨b,0,none⟩)] w fun e w'=>e= .returned (.string ⟨l.toArray⟩)∧ ∃ m,w'={ w.freeze ⟨g,o,none⟩ n with drawn:=m })
  (args:List AV) (H:Hp) (v:AV) (H':Hp) (h:stringA args H=some (v,H')) (σ:Sg) (w:World) (vs:Array Value) (hR:Rel (gp P) σ H w) (hv:VRs σ args vs.toList):CallR P f vs w (End P σ H w v H'):=by
 unfold stringA at h
 split at h
 ·rename_i b
  obtain ⟨x,hx,hxv⟩:=hv.one_inv
  have hvs:vs= #[x]:=Array.ext' hx
  subst hvs
  cases hxv with
  | ptr _ _ l hσ=>
  split at h
  ·cases h
  ·rename_i bx hbx
   split at h
   ·cases h
   ·rename_i htg
    have htg:=Nat.le_of_ble_eq_true htg
    obtain ⟨l',cs,ty,fr,g1,g2,g3,g4,g5,g6,g7,g8⟩:=hR.blk b bx hbx
    rw [hσ] at g1
    obtain rfl:=Option.some.inj g1
    obtain ⟨t,ht⟩: ∃ t,bx.es=tagN+t:=⟨bx.es-tagN,by omega⟩
    obtain ⟨_,k2,k3⟩:=g7 t ht
    rw [k2,Nat.zero_add]
    split at h
    ·rename_i hl
     simp only [Option.some.injEq,Prod.mk.injEq] at h
     obtain ⟨rfl,rfl⟩:=h
     obtain ⟨l2,vv,r1,r2,r3,r4,_⟩:=hR.load hl
     rw [hσ] at r1
     obtain rfl:=Option.some.inj r1
     obtain ⟨y0,y1,rfl,_,hy⟩:=r2.two_inv
     cases hy
     have hc:=r4 1 _ rfl
     rw [k2] at hc
     refine .inl ⟨he _ _,(hnil l.blk w hc).mono ?_⟩
     rintro e w' ⟨rfl,m,rfl⟩
     exact ⟨σ,_,rfl, .str .empty,hR.drew m,(Fr.refl σ H w).drew m⟩
    ·rename_i g o n c ex hl
     split at h
     ·cases h
     ·rename_i bl hbl
      split at h
      ·cases h
      ·rename_i cl hcl
       split at h
       ·cases h
       ·rename_i s hs
        split at h
        ·rename_i hq
         rw [Bool.and_eq_true,Bool.and_eq_true,Bool.and_eq_true] at hq
         obtain ⟨q1,q2,q3,q4⟩:=hq
         have q2:=Tr.beq_t q2
         have q4:=Nat.le_of_ble_eq_true q4
         have q3:n≠0:=by rintro rfl;cases q3
         simp only [Option.some.injEq,Prod.mk.injEq] at h
         obtain ⟨rfl,rfl⟩:=h
         obtain ⟨l2,vv,r1,r2,r3,r4,_⟩:=hR.load hl
         rw [hσ] at r1
         obtain rfl:=Option.some.inj r1
         obtain ⟨y0,y1,rfl,_,hy⟩:=r2.two_inv
         have hc:=r4 1 _ rfl
         rw [k2] at hc
         cases hy with
         | slice _ _ _ _ _ lg off' cap' hσg hcap hoff hlc=>
         have hcap0:n≤cap':=by rw [hcap];split <;> omega
         have hoff:=hoff (by omega)
         obtain ⟨lg',gs,gty,gfr,e1,e2,e3,e4,e5,e6,e7,e8⟩:=hR.blk g bl hbl
         rw [hσg] at e1
         obtain rfl:=Option.some.inj e1
         obtain ⟨m1,m2⟩:=e8 q1 q2
         obtain ⟨l3,us,u1,u2,u3,u4,_⟩:=hR.load hcl
         rw [hσg] at u1
         obtain rfl:=Option.some.inj u1
         obtain ⟨bs,rfl,rfl⟩:=strV_ok hs u2
         have hbl3:bs.length=n:=by simpa using u3
         obtain ⟨b3,b4,b5,b6⟩:=Hp.load_eq hcl
         rw [hbl] at b4
         obtain rfl:=Option.some.inj b4
         rw [List.length_drop] at b6
         have hne:lg.blk≠l.blk:=fun q=>by
          have hgb:=hR.inj g b bl bx lg l hbl hbx hσg hσ q q1
          subst hgb
          rw [hbl] at hbx
          obtain rfl:=Option.some.inj hbx
          rw [q2] at htg
          exact absurd htg (by decide)
         subst hoff
         refine .inl ⟨he _ _,(hrow l.blk w lg.blk (lg.off+o) n cap' bs gty gs.size (by rintro rfl;exact q3 (by simpa using hbl3.symm)) hbl3 hcap0 (Nat.le_trans q4 (by decide)) hc (shape_at e2) m1 m2 (by omega) (fun j x hj=>?_)).mono ?_⟩
         ·refine u4 j _ ?_
          simp [hj]
         ·rintro e w' ⟨rfl,m,rfl⟩
          obtain ⟨f1,f2,f3,f4⟩:=freeze_same w ⟨lg.blk,lg.off+o,none⟩ n
          have hk:=Fr.kill σ H w g
          refine ⟨σ,_,rfl, .str ⟨bs.toArray⟩,((hR.kill g).away fun i bi li hi hli=>?_).drew m,?_⟩
          ·refine freeze_away w _ n _ fun q=>?_
           unfold Hp.kill at hi
           simp only [Tr.get_set] at hi
           split at hi
           ·cases hi
           ·rename_i hig
            exact hig (hR.inj g i bl bi lg li hbl hi hσg hli q.symm q1).symm
          ·exact (⟨hk.ext,f1,f2,f3,by omega,fun k hk1 hn=>freeze_away w _ n k fun q=>hn ⟨g,bl,lg,hbl,q1,hσg,q.symm⟩,fun k ho=>(hk.own k ho).imp id id,hk.nx,hk.dom,hk.ro⟩:Fr σ H w σ (H.kill g) (w.freeze ⟨lg.blk,lg.off+o,none⟩ n)).drew m
        ·cases h
    ·cases h
 ·cases h
end
end Go.Proofs.YtgfcgkbbmcgjmaaGreatDoor.Eng
