/- The engine, part Eg: what is said of code, and that it comes true. -/
import Derived.Test.YtgfcgkbbmcgjmaaGreatDoorDEf
namespace Go.Proofs.YtgfcgkbbmcgjmaaGreatDoor.Eng
set_option linter.unusedVariables false
set_option linter.unusedSimpArgs false
section
variable {H H':Hp}
def Rw (es:Nat) (cs:List (List AV)):Prop:= ∀ x∈cs,x.length=es∧scAll x=true
def In (bl:Blk) (o:Nat) (cells:List AV):Prop:= ∃ post,dropN bl.cells o=cells++post
theorem takeC_of: ∀ (l p:List AV),scAll l=true→takeC (l++p) l.length=some l
 | [],p,_=>by simp [takeC]
 | a::l,p,h=>by
  rw [scAll] at h
  split at h
  ·rename_i ha
   rw [List.cons_append,List.length_cons,takeC,ha,takeC_of l p h]
  ·cases h
theorem scAll_append: ∀ (l m:List AV),scAll (l++m)=(scAll l&&scAll m)
 | [],m=>by simp [scAll]
 | a::l,m=>by
  rw [List.cons_append,scAll,scAll,scAll_append l m]
  cases a.sc <;> rfl
theorem scAll_flatten: ∀ (l:List (List AV)),(∀ x∈l,scAll x=true)→scAll l.flatten=true
 | [],_=>rfl
 | a::l,h=>by
  rw [List.flatten_cons,scAll_append,h a List.mem_cons_self,scAll_flatten l fun x hx=>h x (List.mem_cons_of_mem _ hx)]
  rfl
theorem flat_len {es:Nat}: ∀ {l:List (List AV)},Rw es l→l.flatten.length=l.length*es
 | [],_=>by simp
 | a::l,h=>by
  rw [List.flatten_cons,List.length_append,(h a List.mem_cons_self).1,flat_len fun x hx=>h x (List.mem_cons_of_mem _ hx),List.length_cons,Nat.add_mul,Nat.one_mul,Nat.add_comm]
theorem flat_drop {es:Nat}: ∀ {l:List (List AV)} (n:Nat),Rw es l→l.flatten.drop (n*es)=(l.drop n).flatten
 | l,0,_=>by simp
 | [],n+1,_=>by simp
 | a::l,n+1,h=>by
  rw [List.flatten_cons,List.drop_succ_cons, ←flat_drop n fun x hx=>h x (List.mem_cons_of_mem _ hx),List.drop_append,List.drop_eq_nil_of_le (by rw [(h a List.mem_cons_self).1,Nat.add_mul];omega),List.nil_append,(h a List.mem_cons_self).1]
  congr 1
  rw [Nat.add_mul]
  omega
theorem flat_take {es:Nat}: ∀ {l:List (List AV)} (n:Nat),Rw es l→l.flatten.take (n*es)=(l.take n).flatten
 | l,0,_=>by simp
 | [],n+1,_=>by simp
 | a::l,n+1,h=>by
  rw [List.flatten_cons,List.take_succ_cons,List.flatten_cons, ←flat_take n fun x hx=>h x (List.mem_cons_of_mem _ hx),List.take_append,List.take_of_length_le (by rw [(h a List.mem_cons_self).1,Nat.add_mul];omega),(h a List.mem_cons_self).1]
  congr 2
  rw [Nat.add_mul]
  omega
theorem Rw.drop {es:Nat} {cs:List (List AV)} (h:Rw es cs) (n:Nat):Rw es (cs.drop n):=fun x hx=>h x (List.mem_of_mem_drop hx)
theorem Rw.take {es:Nat} {cs:List (List AV)} (h:Rw es cs) (n:Nat):Rw es (cs.take n):=fun x hx=>h x (List.mem_of_mem_take hx)
theorem Rw.append {es:Nat} {cs ds:List (List AV)} (h:Rw es cs) (k:Rw es ds):Rw es (cs++ds):=fun x hx=>(List.mem_append.1 hx).elim (h x) (k x)
theorem Rw.sc {es:Nat} {cs:List (List AV)} (h:Rw es cs):scAll cs.flatten=true:=scAll_flatten cs fun x hx=>(h x hx).2
theorem In.load {b o n:Nat} {bl:Blk} {cells:List AV} (hb:H.m.get b=some bl) (h:In bl o cells) (hn:n=cells.length) (hs:scAll cells=true):H.load b o n=some cells:=by
 obtain ⟨post,hp⟩:=h
 subst hn
 simp only [Hp.load,hb,hp]
 exact takeC_of _ _ hs
theorem In.mid {bl:Blk} {o:Nat} {a b c:List AV} (h:In bl o (a++(b++c))):In bl (o+a.length) b:=by
 obtain ⟨post,hp⟩:=h
 refine ⟨c++post,?_⟩
 rw [dropN_eq] at hp ⊢
 rw [←List.drop_drop,hp]
 simp
theorem In.pre {bl:Blk} {o:Nat} {a b:List AV} (h:In bl o (a++b)):In bl o a:=by
 obtain ⟨post,hp⟩:=h
 exact ⟨b++post,by rw [hp,List.append_assoc]⟩
structure Sl (H:Hp) (es:Nat) (v:AV) (cs:List (List AV)) (fz:Bool):Prop where
 rw:Rw es cs
 at_:(v= .nils∧cs=[])∨ ∃ b o c e bl,v= .slice b o cs.length c e∧cs.length≤c∧H.m.get b=some bl∧In bl o cs.flatten∧(fz=true→bl.rw=false)
theorem Sl.nil {es:Nat} {fz:Bool}:Sl H es .nils [] fz:=⟨fun _ h=>(by cases h), .inl ⟨rfl,rfl⟩⟩
section
variable {es:Nat} {v:AV} {cs:List (List AV)} {fz:Bool}
theorem Sl.mono (h:Sl H es v cs true) (m:Mo H H'):Sl H' es v cs true:=⟨h.rw,h.at_.imp id fun ⟨b,o,c,e,bl,h1,h2,h3,h4,h5⟩=>⟨b,o,c,e,bl,h1,h2,m.fz b bl h3 (h5 rfl),h4,h5⟩⟩
theorem Sl.sc (h:Sl H es v cs fz):v.sc=true:=by
 rcases h.at_ with ⟨rfl,_⟩ | ⟨b,o,c,e,bl,rfl,_⟩ <;> rfl
theorem Sl.rf (h:Sl H es v cs fz) {P:Prop} (p:P):rfW v P:=by
 rcases h.at_ with ⟨rfl,_⟩ | ⟨b,o,c,e,bl,rfl,_⟩ <;> exact p
theorem Sl.len (h:Sl H es v cs fz):lenS v=some cs.length:=by
 rcases h.at_ with ⟨rfl,rfl⟩ | ⟨b,o,c,e,bl,rfl,_⟩ <;> rfl
theorem Sl.lenV (h:Sl H es v cs fz):lenV v=some cs.length:=by
 rcases h.at_ with ⟨rfl,rfl⟩ | ⟨b,o,c,e,bl,rfl,_⟩ <;> rfl
theorem flat_split {l:List (List AV)} {j:Nat} (hj:j<l.length):l.flatten=(l.take j).flatten++(l[j]++(l.drop (j+1)).flatten):=by
 rw [←List.flatten_cons, ←List.drop_eq_getElem_cons hj, ←List.flatten_append,List.take_append_drop]
theorem Sl.elem (h:Sl H es v cs fz) {j:Nat} (hj:j<cs.length): ∃ b o,ixF es v (.ofNat j)=some (b,o)∧H.load b o es=some cs[j]∧ ∀ (p n:Nat),p+n≤es→H.load b (o+p) n=some ((cs[j].drop p).take n):=by
 rcases h.at_ with ⟨_,rfl⟩ | ⟨b,o,c,e,bl,rfl,_,h3,h4,_⟩
 ·cases hj
 ·have hel:=h.rw cs[j] (List.getElem_mem hj)
  have hin:In bl (o+j*es) cs[j]:=by
   rw [flat_split hj] at h4
   have:=h4.mid
   rwa [flat_len (h.rw.take j),List.length_take,Nat.min_eq_left (Nat.le_of_lt hj)] at this
  refine ⟨b,o+j*es,?_,hin.load h3 hel.1.symm hel.2,fun p n hpn=>?_⟩
  ·simp only [ixF]
   rw [show Nat.blt j cs.length=true from bltT hj]
  ·have e1:cs[j]=cs[j].take p++((cs[j].drop p).take n++(cs[j].drop p).drop n):=by rw [List.take_append_drop,List.take_append_drop]
   have hin2:=hin
   rw [e1] at hin2
   have:=hin2.mid
   rw [List.length_take,Nat.min_eq_left (by omega)] at this
   refine this.load h3 (by simp;omega) ?_
   have hs:=hel.2
   rw [e1,scAll_append,scAll_append,Bool.and_eq_true,Bool.and_eq_true] at hs
   exact hs.2.1
theorem Sl.firsts (h:Sl H es v cs fz) {n:Nat} (hn:n≤cs.length):firsts H es n v=some (cs.take n).flatten:=by
 rcases h.at_ with ⟨rfl,rfl⟩ | ⟨b,o,c,e,bl,rfl,_,h3,h4,_⟩
 ·have:n=0:=by simpa using hn
  subst this
  rfl
 ·unfold Eng.firsts
  cases hb:Nat.beq n 0 with
  | true=>rw [Tr.beq_t hb];rfl
  | false=>
   have:In bl o (cs.take n).flatten:=by
    have e1:cs.flatten=(cs.take n).flatten++(cs.drop n).flatten:=by rw [←List.flatten_append,List.take_append_drop]
    rw [e1] at h4
    exact h4.pre
   exact this.load h3 (by rw [flat_len (h.rw.take n),List.length_take,Nat.min_eq_left hn]) (h.rw.take n).sc
theorem Sl.all (h:Sl H es v cs fz):Eng.firsts H es cs.length v=some cs.flatten:=by
 rw [h.firsts (Nat.le_refl _),List.take_length]
theorem bounds_of {len cap lo hi m:Nat} {olo ohi omx:Option AV} (hm:(omx=none∧m=cap)∨ ∃ k,omx=some (.int k (.ofNat m))∧m≤cap) (hh:(∃ k,ohi=some (.int k (.ofNat hi)))∨ohi=none∧omx=none∧hi=len) (hl:(∃ k,olo=some (.int k (.ofNat lo)))∨olo=none∧lo=0) (h1:lo≤hi) (h2:hi≤m):bounds len cap olo ohi omx=some (lo,hi,m):=by
 have hb: ∀ (k:IntKind) (x y:Nat),x≤y→bound (.int k (.ofNat x)) y=some x:=fun k x y hxy=>by
  simp only [bound,bleT hxy]
 unfold bounds
 rcases hm with ⟨rfl,rfl⟩ | ⟨k,rfl,hmc⟩
 ·rcases hh with ⟨k2,rfl⟩ | ⟨rfl,_,rfl⟩
  ·rcases hl with ⟨k3,rfl⟩ | ⟨rfl,rfl⟩
   ·simp only [hb _ _ _ h2,hb _ _ _ h1]
   ·simp only [hb _ _ _ h2]
  ·rcases hl with ⟨k3,rfl⟩ | ⟨rfl,rfl⟩
   ·simp only [hb _ _ _ h1]
   ·rfl
 ·rcases hh with ⟨k2,rfl⟩ | ⟨_,q,_⟩
  ·rcases hl with ⟨k3,rfl⟩ | ⟨rfl,rfl⟩
   ·simp only [hb _ _ _ hmc,hb _ _ _ h2,hb _ _ _ h1]
   ·simp only [hb _ _ _ hmc,hb _ _ _ h2]
  ·cases q
theorem Sl.cut (h:Sl H es v cs fz) {lo hi:Nat} {olo ohi omx:Option AV} (hm:omx=none∨ ∃ k m,omx=some (.int k (.ofNat m))∧m≤cs.length∧hi≤m) (hh:(∃ k,ohi=some (.int k (.ofNat hi)))∨ohi=none∧omx=none∧hi=cs.length) (hl:(∃ k,olo=some (.int k (.ofNat lo)))∨olo=none∧lo=0) (h1:lo≤hi) (h2:hi≤cs.length):
  ∃ v',Eng.cut es v olo ohi omx=some v'∧Sl H es v' ((cs.drop lo).take (hi-lo)) fz∧(omx=none∨v'= .nils∨ ∃ b o n c,v'= .slice b o n c true):=by
 rcases h.at_ with ⟨rfl,rfl⟩ | ⟨b,o,c,e,bl,rfl,hc,h3,h4,h5⟩
 ·have hhi0:hi=0:=by simpa using h2
  have hlo0:lo=0:=by omega
  subst hhi0;subst hlo0
  have hbd: ∃ m,bounds 0 0 olo ohi omx=some (0,0,m):=by
   rcases hm with rfl | ⟨k,m,rfl,hm,_⟩
   ·exact ⟨0,bounds_of (.inl ⟨rfl,rfl⟩) (by simpa using hh) hl (Nat.le_refl _) (Nat.le_refl _)⟩
   ·have:m=0:=by simpa using hm
    subst this
    exact ⟨0,bounds_of (.inr ⟨k,rfl,Nat.le_refl _⟩) (by simpa using hh) hl (Nat.le_refl _) (Nat.le_refl _)⟩
  obtain ⟨m,hbd⟩:=hbd
  exact ⟨.nils,by simp only [Eng.cut,hbd],by simpa using Sl.nil, .inr (.inl rfl)⟩
 ·have hin:In bl (o+lo*es) ((cs.drop lo).take (hi-lo)).flatten:=by
   have e1:cs=cs.take lo++((cs.drop lo).take (hi-lo)++(cs.drop lo).drop (hi-lo)):=by rw [List.take_append_drop,List.take_append_drop]
   have h4':=h4
   rw [e1,List.flatten_append,List.flatten_append] at h4'
   have:=h4'.mid
   rwa [flat_len (h.rw.take lo),List.length_take,Nat.min_eq_left (by omega)] at this
  have hl2:((cs.drop lo).take (hi-lo)).length=hi-lo:=by simp;omega
  rcases hm with rfl | ⟨k,m,rfl,hm,hm2⟩
  ·have hbd:=bounds_of (cap:=c) (omx:=none) (.inl ⟨rfl,rfl⟩) hh hl h1 (by omega)
   refine ⟨.slice b (o+lo*es) (hi-lo) (c-lo) (e||(none:Option AV).isSome),by simp only [Eng.cut,hbd],⟨(h.rw.drop lo).take _, .inr ⟨b,o+lo*es,c-lo,_,bl,by rw [hl2],by rw [hl2];omega,h3,hin,h5⟩⟩, .inl rfl⟩
  ·have hbd:=bounds_of (cap:=c) (omx:=some (.int k (.ofNat m))) (.inr ⟨k,rfl,by omega⟩) hh hl h1 hm2
   refine ⟨.slice b (o+lo*es) (hi-lo) (m-lo) (e||(some (AV.int k (.ofNat m)):Option AV).isSome),by simp only [Eng.cut,hbd],⟨(h.rw.drop lo).take _, .inr ⟨b,o+lo*es,m-lo,_,bl,by rw [hl2],by rw [hl2];omega,h3,hin,h5⟩⟩, .inr (.inr ⟨b,o+lo*es,hi-lo,m-lo,by simp⟩)⟩
end
def blkOf:AV→Option Nat
 | .slice b _ _ _ _=>some b
 | _=>none
structure Ow (H:Hp) (N es:Nat) (v:AV) (cs:List (List AV)):Prop where
 rw:Rw es cs
 at_:(v= .nils∧cs=[])∨ ∃ b c e bl,v= .slice b 0 cs.length c e∧N≤b∧b<H.nx∧cs.length≤c∧H.m.get b=some bl∧bl.rw=true∧EsA es bl.es∧bl.cells.length=c*es∧In bl 0 cs.flatten∧(e=true→cs.length=c)
def Gr (G:Nat→Prop) (H H':Hp):Prop:= ∀ i,i<H.nx→ ¬ G i→H'.m.get i=H.m.get i
def noB:Nat→Prop:=fun _=>False
def isB (v:AV):Nat→Prop:=fun i=>blkOf v=some i
theorem Gr.refl (G:Nat→Prop) (H:Hp):Gr G H H:=fun _ _ _=>rfl
theorem Gr.trans {G:Nat→Prop} {H1 H2:Hp} (h:Gr G H H1) (n:H.nx≤H1.nx) (k:Gr G H1 H2):Gr G H H2:=fun i hi hg=>(k i (Nat.lt_of_lt_of_le hi n) hg).trans (h i hi hg)
theorem Gr.wide {G K:Nat→Prop} (h:Gr G H H') (k: ∀ i,i<H.nx→G i→K i):Gr K H H':=fun i hi hk=>h i hi fun g=>hk (k i hi g)
section
variable {es N:Nat} {v:AV} {cs:List (List AV)}
theorem Ow.nil:Ow H N es .nils []:=⟨fun _ h=>(by cases h), .inl ⟨rfl,rfl⟩⟩
theorem Ow.sl (h:Ow H N es v cs):Sl H es v cs false:=⟨h.rw,h.at_.imp id fun ⟨b,c,e,bl,h1,h2,h2b,h3,h4,h5,h6,h7,h8,h9⟩=>⟨b,0,c,e,bl,h1,h3,h4,h8,fun q=>by cases q⟩⟩
theorem Ow.low {M:Nat} (h:Ow H N es v cs) (hm:M≤N):Ow H M es v cs:=⟨h.rw,h.at_.imp id fun ⟨b,c,e,bl,h1,h2,r⟩=>⟨b,c,e,bl,h1,Nat.le_trans hm h2,r⟩⟩
theorem Ow.keep (h:Ow H N es v cs) (n:H.nx≤H'.nx) {G:Nat→Prop} (g:Gr G H H') (hg: ∀ i,blkOf v=some i→ ¬ G i):Ow H' N es v cs:=⟨h.rw,h.at_.imp id fun ⟨b,c,e,bl,h1,h2,h2b,h3,h4,r⟩=>⟨b,c,e,bl,h1,h2,Nat.lt_of_lt_of_le h2b n,h3,(g b h2b (hg b (by rw [h1];rfl))).trans h4,r⟩⟩
def blks (v:AV):List Nat:=match blkOf v with | some b=>[b] | none=>[]
theorem Sl.frz (h:Sl H es v cs false):Sl (Eng.frz H (blks v)) es v cs true:=⟨h.rw,h.at_.imp id fun ⟨b,o,c,e,bl,h1,h2,h3,h4,h5⟩=>⟨b,o,c,e,⟨bl.cells,bl.es,bl.rw&& !(memN b (blks v))⟩,h1,h2,by rw [frz_get,h3];rfl,h4,fun _=>by
 rw [h1];simp [blks,blkOf,memN,Nat.beq_refl]⟩⟩
theorem Ow.frz (h:Ow H N es v cs):Sl (Eng.frz H (blks v)) es v cs true:=h.sl.frz
theorem over_at: ∀ (cs:List AV) (o:Nat) (vs:List AV),o+vs.length≤cs.length→over cs o vs=some (cs.take o++(vs++cs.drop (o+vs.length)))
 | cs,o,[],h=>by simp [over]
 | [],o,v::vs,h=>by simp at h
 | c::cs,0,v::vs,h=>by
  rw [over,over_at cs 0 vs (by simp at h ⊢; omega)]
  simp
 | c::cs,o+1,v::vs,h=>by
  rw [over,over_at cs o (v::vs) (by simp at h ⊢; omega)]
  simp [Nat.add_right_comm o 1]
theorem store_at {b o:Nat} {bl:Blk} {vs:List AV} (hb:H.m.get b=some bl) (hr:bl.rw=true) (hs:scAll vs=true) (hl:o+vs.length≤bl.cells.length):H.store b o vs=some { H with m:=H.m.set b (some ⟨bl.cells.take o++(vs++bl.cells.drop (o+vs.length)),bl.es,bl.rw⟩) }:=by
 simp only [Hp.store,hb,hr,hs,Bool.and_self,over_at _ _ _ hl]
theorem In.drop0 {bl:Blk} {l:List AV} (h:In bl 0 l):bl.cells=l++bl.cells.drop l.length:=by
 obtain ⟨post,hp⟩:=h
 simp only [dropN] at hp
 rw [hp];simp
theorem Ow.append (h:Ow H N es v cs) (hN:N≤H.nx) {ds:List (List AV)} (hd:Rw es ds) {bytes:Nat} (hb:(cs.length+ds.length)*bytes≤room) (hes:es<esU):
  ∃ v' H',Eng.append es bytes H v ds.flatten ds.length=some (v',H')∧Ow H' N es v' (cs++ds)∧H.nx≤H'.nx∧Gr (isB v) H H'∧(∀ i,blkOf v'=some i→blkOf v=some i∨H.nx≤i):=by
 have hblt:Nat.blt es esU=true:=bltT hes
 have fresh: ∀ (e':Nat),EsA es e'→ ∀ (K:Hp),K.nx=H.nx→(∀ i,i<H.nx→ ¬ isB v i→K.m.get i=H.m.get i)→Ow (K.new (cs++ds).flatten e') N es (.slice K.nx 0 (cs.length+ds.length) (cs.length+ds.length) false) (cs++ds)∧H.nx≤(K.new (cs++ds).flatten e').nx∧Gr (isB v) H (K.new (cs++ds).flatten e'):=fun e' he' K hK hk=>by
  refine ⟨⟨h.rw.append hd, .inr ⟨K.nx,_,_,⟨(cs++ds).flatten,e',true⟩,by rw [List.length_append],by rw [hK];exact hN,by simp only [Hp.new];omega,by rw [List.length_append];exact Nat.le_refl _,by simp only [Hp.new,Tr.get_set_same],rfl,he',by rw [flat_len (h.rw.append hd),List.length_append],⟨[],by simp [dropN]⟩,fun q=>by cases q⟩⟩,by simp only [Hp.new];omega,fun i hi hg=>?_⟩
  simp only [Hp.new]
  rw [Tr.get_set_ne _ _ (by omega)]
  exact hk i hi hg
 rcases h.at_ with ⟨rfl,rfl⟩ | ⟨b,c,e,bl,rfl,h2,h2b,h3,h4,h5,h6,h7,h8,h9⟩
 ·simp only [Eng.append]
  cases hz:Nat.beq ds.length 0 with
  | true=>
   have:ds=[]:=List.length_eq_zero_iff.1 (Tr.beq_t hz)
   subst this
   exact ⟨_,_,rfl,Ow.nil,Nat.le_refl _,Gr.refl _ _,fun i hi=>by cases hi⟩
  | false=>
   have hq:(Nat.ble (ds.length*bytes) Eng.room&&okNew es ds.flatten)=true:=by
    simp only [List.length_nil,Nat.zero_add] at hb
    simp only [okNew,Bool.and_eq_true,Nat.ble_eq]
    exact ⟨hb,hblt,hd.sc⟩
   simp only [hq]
   obtain ⟨f1,f2,f3⟩:=fresh _ (EsA.row es bytes) H rfl fun _ _ _=>rfl
   simp only [List.length_nil,Nat.zero_add,List.nil_append] at f1 f2 f3
   exact ⟨_,_,rfl,f1,f2,f3,fun i hi=> .inr (by cases hi;exact Nat.le_refl _)⟩
 ·simp only [Eng.append]
  cases hcap:Nat.ble (cs.length+ds.length) c with
  | true=>
   have hle:=bleL hcap
   have hlen:0+cs.length*es+ds.flatten.length≤bl.cells.length:=by
    rw [flat_len hd,h7,Nat.zero_add, ←Nat.add_mul]
    exact Nat.mul_le_mul_right _ hle
   rw [store_at h4 h5 hd.sc hlen]
   refine ⟨_,_,rfl,⟨h.rw.append hd, .inr ⟨b,c,e,_,by rw [List.length_append],h2,h2b,by rw [List.length_append];exact hle,Tr.get_set_same _ _ _,h5,h6,?_,?_,fun q=>by have:=h9 q;rw [List.length_append];omega⟩⟩,Nat.le_refl _,fun i hi hg=>Tr.get_set_ne _ _ fun q=>hg (by rw [isB,blkOf,q]),fun i hi=> .inl hi⟩
   ·rw [flat_len hd] at hlen
    simp only [List.length_append,List.length_take,List.length_drop,flat_len hd]
    rw [h7] at hlen ⊢
    omega
   ·refine ⟨bl.cells.drop (0+cs.length*es+ds.flatten.length),?_⟩
    simp only [dropN]
    rw [List.flatten_append,List.append_assoc,show bl.cells.take (0+cs.length*es)=cs.flatten by
     rw [h8.drop0,List.take_append_of_le_length (by rw [flat_len h.rw];omega),List.take_of_length_le (by rw [flat_len h.rw];omega)]]
  | false=>
   have hq:(Nat.ble ((cs.length+ds.length)*bytes) Eng.room&&okNew es ds.flatten)=true:=by
    simp only [okNew,Bool.and_eq_true,Nat.ble_eq]
    exact ⟨hb,hblt,hd.sc⟩
   have hf:=h.sl.all
   simp only [hq,hf]
   cases e with
   | true=>
    obtain ⟨f1,f2,f3⟩:=fresh _ (EsA.row es bytes) H rfl fun _ _ _=>rfl
    rw [List.flatten_append] at f1 f2 f3
    exact ⟨_,_,rfl,f1,f2,f3,fun i hi=> .inr (by cases hi;exact Nat.le_refl _)⟩
   | false=>
    have hq2:(bl.rw&&(fitE es bl.es&&Nat.beq (0+c*es) bl.cells.length))=true:=by
     rw [h5,fitE_iff.2 h6,h7,Nat.zero_add,Nat.beq_refl];rfl
    simp only [h4,hq2]
    obtain ⟨f1,f2,f3⟩:=fresh _ (EsA.go es bytes bl.es) (H.kill b) rfl fun i hi hg=>by
     simp only [Hp.kill]
     exact Tr.get_set_ne _ _ fun q=>hg (by rw [isB,blkOf,q])
    rw [List.flatten_append] at f1 f2 f3
    exact ⟨_,_,rfl,f1,f2,f3,fun i hi=> .inr (by cases hi;exact Nat.le_refl _)⟩
end
end
theorem takeL_eq2 (s:List Nat) (n:Nat):takeL s n=s.take n:=by
 induction s generalizing n with
 | nil=>cases n <;> rfl
 | cons a s ih=>cases n with | zero=>rfl | succ n=>rw [takeL,ih];rfl
theorem dropL_eq2 (s:List Nat) (n:Nat):dropL s n=s.drop n:=by
 induction s generalizing n with
 | nil=>cases n <;> rfl
 | cons a s ih=>cases n with | zero=>rfl | succ n=>rw [dropL,ih];rfl
theorem nthL_eq2 (s:List Nat) (n:Nat):nthL s n=s[n]? :=by
 induction s generalizing n with
 | nil=>cases n <;> rfl
 | cons a s ih=>cases n with | zero=>rfl | succ n=>rw [nthL,ih];rfl
theorem IfB.intro {b:Bool} {P Q:Prop} (h:b=true→P) (k:b=false→Q):IfB b P Q:=by
 cases b with
 | true=>exact h rfl
 | false=>exact k rfl
theorem ltL_eq (a b:List Nat):ltL a b=decide (a<b):=by
 induction a generalizing b with
 | nil=>cases b <;> simp [ltL]
 | cons x a ih=>
  cases b with
  | nil=>simp [ltL]
  | cons y b=>
   rw [ltL]
   cases h:Nat.blt x y with
   | true=>
    have:=bltL h
    simp [List.cons_lt_cons_iff,this]
   | false=>
    have h1: ¬ x<y:=fun q=>by rw [bltT q] at h;cases h
    cases h2:Nat.beq x y with
    | true=>have:=Tr.beq_t h2;subst this;simp [List.cons_lt_cons_iff,ih]
    | false=>have:=Tr.beq_f h2;simp [List.cons_lt_cons_iff,h1,this]
theorem isel_max (a b:Int):isel (ltI a b) b a=max a b:=by
 rw [ltI_eq];unfold isel
 by_cases h:a<b
 ·rw [decide_eq_true h];simp only;omega
 ·rw [decide_eq_false h];simp only;omega
theorem isel_min (a b:Int):isel (ltI b a) b a=min a b:=by
 rw [ltI_eq];unfold isel
 by_cases h:b<a
 ·rw [decide_eq_true h];simp only;omega
 ·rw [decide_eq_false h];simp only;omega
theorem Chk.intro {b:Bool} {P:Prop} (h:b=true) (p:P):Chk b P:=by subst h;exact p
def loI (k:IntKind):Int:=match k with | .i8=> -128 | .i16=> -32768 | .i32=> -2147483648 | .i64=> -9223372036854775808 | _=>0
def hiI (k:IntKind):Int:=(top k:Nat)
theorem wrapF_id {k:IntKind} {n:Int} (h1:loI k≤n) (h2:n<hiI k):wrapF k n=n:=by
 rw [wrapF_eq]
 cases k <;> simp only [loI,hiI,top] at h1 h2 <;> simp [IntKind.wrap,IntKind.bits,IntKind.signed] <;> omega
theorem wrap64 {n:Int} (h1: -9223372036854775808≤n) (h2:n<9223372036854775808):wrapF .i64 n=n:=wrapF_id h1 h2
section
variable {H:Hp} {N es bytes:Nat} {v y:AV} {cs ds:List (List AV)}
theorem Ow.app {fz:Bool} (h:Ow H N es v cs) (hN:N≤H.nx) (hy:Sl H es y ds fz) (hb:(cs.length+ds.length)*bytes≤room) (hes:es<esU):
  ∃ v' H',appF es bytes H v y=some (v',H')∧Ow H' N es v' (cs++ds)∧H.nx≤H'.nx∧Gr (isB v) H H'∧(∀ i,blkOf v'=some i→blkOf v=some i∨H.nx≤i):=by
 obtain ⟨v',H',h1,h2⟩:=h.append hN hy.rw hb hes
 exact ⟨v',H',by simp only [appF,hy.lenV,hy.all,h1],h2⟩
theorem Rw_bytes (s:List Nat):Rw 1 (s.map fun b=>[AV.int .u8 (.ofNat b)]):=fun x hx=>by
 obtain ⟨b,_,rfl⟩:=List.mem_map.1 hx
 exact ⟨rfl,rfl⟩
theorem bytesV_eq (s:List Nat):bytesV s=(s.map fun b=>[AV.int .u8 (.ofNat b)]).flatten:=by
 induction s with
 | nil=>rfl
 | cons a s ih=>rw [bytesV,ih];rfl
theorem Ow.appStr (h:Ow H N 1 v cs) (hN:N≤H.nx) (s:List Nat) (hb:(cs.length+s.length)*bytes≤room):
  ∃ v' H',appF 1 bytes H v (.str s)=some (v',H')∧Ow H' N 1 v' (cs++s.map fun b=>[AV.int .u8 (.ofNat b)])∧H.nx≤H'.nx∧Gr (isB v) H H'∧(∀ i,blkOf v'=some i→blkOf v=some i∨H.nx≤i):=by
 obtain ⟨v',H',h1,h2⟩:=h.append hN (ds:=s.map fun b=>[AV.int .u8 (.ofNat b)]) (bytes:=bytes) (Rw_bytes s) (by rwa [List.length_map]) (by decide)
 refine ⟨v',H',?_,h2⟩
 rw [←bytesV_eq,List.length_map] at h1
 simp only [appF,lenV,firsts,Nat.beq_refl,takeL_eq2,List.take_length,h1]
end
section
variable {H:Hp}
theorem ifb_f {P Q:Prop}:IfB false P Q=Q:=rfl
theorem eqM_pn {b o:Nat} {K:Bool→Prop}:eqM .ptr (.ptr b o) .nilp K=K false:=rfl
theorem eqM_nn {K:Bool→Prop}:eqM .ptr .nilp .nilp K=K true:=rfl
theorem letH_eq {G:Hp} {K:Hp→Prop}:letH G K=K G:=rfl
theorem ex_some {α:Type} {x:Option α} {c:α} (h:x=some c) {R:α→Prop}:(∃ b:α,x=some b∧R b)↔R c:=by subst h;simp
def Bk (H:Hp) (b:Nat) (cells:List AV) (es:Nat):Prop:=H.m.get b=some ⟨cells,es,true⟩
theorem Bk.load {b:Nat} {cells:List AV} {es:Nat} (h:Bk H b cells es) (o n:Nat) {l:List AV} (hl:takeC (dropN cells o) n=some l):H.load b o n=some l:=by
 simp only [Hp.load,show H.m.get b=some ⟨cells,es,true⟩ from h,hl]
theorem Bk.store {b:Nat} {cells:List AV} {es:Nat} (h:Bk H b cells es) {o:Nat} {vs cs:List AV} (ho:over cells o vs=some cs) (hs:scAll vs=true): ∃ H',H.store b o vs=some H'∧Bk H' b cs es∧H'.nx=H.nx∧Gr (fun i=>i=b) H H':=by
 refine ⟨{ H with m:=H.m.set b (some ⟨cs,es,true⟩) },?_,?_,rfl,fun i _ hi=>Tr.get_set_ne _ _ hi⟩
 ·simp only [Hp.store,show H.m.get b=some ⟨cells,es,true⟩ from h,hs,ho,Bool.and_self]
 ·exact Tr.get_set_same _ _ _
theorem Bk.keep {H':Hp} {b:Nat} {cells:List AV} {es:Nat} (h:Bk H b cells es) (hb:b<H.nx) {G:Nat→Prop} (g:Gr G H H') (hg: ¬ G b):Bk H' b cells es:=(g b hb hg).trans h
theorem new_bk (H:Hp) (cells:List AV) (es:Nat):Bk (H.new cells es) H.nx cells es:=Tr.get_set_same _ _ _
theorem new_gr (H:Hp) (cells:List AV) (es:Nat):Gr noB H (H.new cells es):=fun i hi _=>Tr.get_set_ne _ _ (by omega)
theorem New.intro {cells:List AV} {es:Nat} {K:Nat→Hp→Prop} (h: ∀ H1,Bk H1 H.nx cells es→H1.nx=H.nx+1→Gr noB H H1→(Ok H→Ok H1∧Mo H H1)→K H.nx H1):New H cells es K:=
 h _ (new_bk _ _ _) rfl (new_gr _ _ _) fun hO=>⟨hO.new _ _,Mo.new hO _ _⟩
end
section
variable {H:Hp} {N es bytes:Nat} {v:AV} {cs:List (List AV)}
def Ex (v:AV):Prop:=v= .nils∨ ∃ b o n,v= .slice b o n n true
theorem Sl.cutx {fz:Bool} (h:Sl H es v cs fz) {k k':IntKind} {hi:Nat} (h2:hi≤cs.length):
  ∃ v',Eng.cut es v none (some (.int k (.ofNat hi))) (some (.int k' (.ofNat hi)))=some v'∧Sl H es v' (cs.take hi) fz∧Ex v':=by
 obtain ⟨v',h3,h4,_⟩:=h.cut (lo:=0) (hi:=hi) (olo:=none) (ohi:=some (.int k (.ofNat hi))) (omx:=some (.int k' (.ofNat hi))) (.inr ⟨k',hi,rfl,h2,Nat.le_refl _⟩) (.inl ⟨k,rfl⟩) (.inr ⟨rfl,rfl⟩) (Nat.zero_le _) h2
 refine ⟨v',h3,by simpa using h4,?_⟩
 rcases h.at_ with ⟨rfl,rfl⟩ | ⟨b,o,c,e,bl,rfl,_⟩
 ·simp only [Eng.cut] at h3
  split at h3
  ·cases h3
  ·cases h3;exact .inl rfl
 ·simp only [Eng.cut] at h3
  split at h3
  ·cases h3
  ·rename_i l hh m hb
   have hb2:=bounds_of (len:=cs.length) (cap:=c) (lo:=0) (hi:=hi) (olo:=none) (ohi:=some (.int k (.ofNat hi))) (omx:=some (.int k' (.ofNat hi))) (m:=hi) (.inr ⟨k',rfl,by rename_i hc _;omega⟩) (.inl ⟨k,rfl⟩) (.inr ⟨rfl,rfl⟩) (Nat.zero_le _) (Nat.le_refl _)
   rw [hb2] at hb
   cases hb
   cases h3
   exact .inr ⟨b,o+0*es,hi-0,by simp⟩
theorem Sl.appx {fz fz':Bool} (h:Sl H es v cs fz) (hx:Ex v) {y:AV} {ds:List (List AV)} (hy:Sl H es y ds fz') (hd:ds≠[]) (hb:(cs.length+ds.length)*bytes≤room) (hes:es<esU):
  ∃ v' H',appF es bytes H v y=some (v',H')∧Ow H' H.nx es v' (cs++ds)∧H'.nx=H.nx+1∧Gr noB H H'∧blkOf v'=some H.nx:=by
 have hblt:Nat.blt es esU=true:=bltT hes
 have hlen:0<ds.length:=List.length_pos_iff.2 hd
 have hz:Nat.beq ds.length 0=false:=by cases hq:Nat.beq ds.length 0 with | true=>have:=Tr.beq_t hq;omega | false=>rfl
 have fresh: ∀ (e':Nat),EsA es e'→Ow (H.new (cs++ds).flatten e') H.nx es (.slice H.nx 0 (cs.length+ds.length) (cs.length+ds.length) false) (cs++ds):=
  fun e' he'=>⟨h.rw.append hy.rw, .inr ⟨H.nx,_,_,⟨(cs++ds).flatten,e',true⟩,by rw [List.length_append],Nat.le_refl _,by simp only [Hp.new];omega,by rw [List.length_append];exact Nat.le_refl _,by simp only [Hp.new,Tr.get_set_same],rfl,he',by rw [flat_len (h.rw.append hy.rw),List.length_append],⟨[],by simp [dropN]⟩,fun q=>by cases q⟩⟩
 have fresh:=fresh _ (EsA.row es bytes)
 rw [List.flatten_append] at fresh
 simp only [appF,hy.lenV,hy.all]
 rcases hx with rfl | ⟨b,o,n,rfl⟩
 ·have hcs:cs=[]:=by
   rcases h.at_ with ⟨_,h⟩ | ⟨_,_,_,_,_,h,_⟩
   ·exact h
   ·cases h
  subst hcs
  have hq:(Nat.ble (ds.length*bytes) Eng.room&&okNew es ds.flatten)=true:=by
   simp only [List.length_nil,Nat.zero_add] at hb
   simp only [okNew,Bool.and_eq_true]
   exact ⟨bleT hb,hblt,hy.rw.sc⟩
  simp only [Eng.append,hz,hq]
  simp only [List.length_nil,Nat.zero_add,List.nil_append,List.flatten_nil] at fresh
  exact ⟨_,_,rfl,fresh,rfl,new_gr _ _ _,rfl⟩
 ·have hn:n=cs.length:=by
   rcases h.at_ with ⟨h,_⟩ | ⟨_,_,_,_,_,h,_⟩
   ·cases h
   ·cases h;rfl
  subst hn
  have hcap:Nat.ble (cs.length+ds.length) cs.length=false:=by
   cases hq:Nat.ble (cs.length+ds.length) cs.length with
   | true=>have:=bleL hq;omega
   | false=>rfl
  have hq:(Nat.ble ((cs.length+ds.length)*bytes) Eng.room&&okNew es ds.flatten)=true:=by
   simp only [okNew,Bool.and_eq_true]
   exact ⟨bleT hb,hblt,hy.rw.sc⟩
  simp only [Eng.append,hcap,hq,h.all]
  exact ⟨_,_,rfl,fresh,rfl,new_gr _ _ _,rfl⟩
theorem lit_sl {b:Nat} {c:List AV} {es e:Nat} (h:Bk H b c e) (hc:c.length=es) (hs:scAll c=true):Sl H es (.slice b 0 1 1 true) [c] false:=
 ⟨fun x hx=>by rw [List.mem_singleton] at hx;subst hx;exact ⟨hc,hs⟩, .inr ⟨b,0,1,true,_,rfl,Nat.le_refl _,h,⟨[],by simp [dropN]⟩,fun q=>by cases q⟩⟩
end
structure Stp (G:Nat→Prop) (H H':Hp):Prop where
 ok:Ok H'
 mo:Mo H H'
 gr:Gr G H H'
section
variable {G:Nat→Prop} {H H1 H2:Hp}
theorem Stp.refl (h:Ok H):Stp G H H:=⟨h,Mo.refl _,Gr.refl _ _⟩
theorem Stp.nx (h:Stp G H H1):H.nx≤H1.nx:=h.mo.nx
theorem Stp.trans (h:Stp G H H1) (k:Stp G H1 H2):Stp G H H2:=⟨k.ok,h.mo.trans k.mo,h.gr.trans h.mo.nx k.gr⟩
theorem Stp.wide {K:Nat→Prop} (h:Stp G H H1) (k: ∀ i,i<H.nx→G i→K i):Stp K H H1:=⟨h.ok,h.mo,h.gr.wide k⟩
theorem Stp.of {K:Nat→Prop} (h:Stp noB H H1):Stp K H H1:=h.wide fun _ _ g=>g.elim
theorem Stp.then (h:Stp G H H1) {K:Nat→Prop} (k:Stp K H1 H2) (hk: ∀ i,K i→H.nx≤i):Stp G H H2:=⟨k.ok,h.mo.trans k.mo,fun i hi hg=>(k.gr i (Nat.lt_of_lt_of_le hi h.mo.nx) fun q=>by have:=hk i q;omega).trans (h.gr i hi hg)⟩
theorem Cal.start {V:Env} {f:Nat} {args:List AV} {Q:AV→Hp→Prop} (h:Ok H→Cal V f args H Q):Cal V f args H Q:=fun hO=>h hO hO
theorem Bk.step {b:Nat} {cells:List AV} {es:Nat} (h:Bk H b cells es) (hO:Ok H) (s:Stp G H H1) (hg: ¬ G b):Bk H1 b cells es:=h.keep (hO.lt h) s.gr hg
theorem Bk.stp {b:Nat} {cells:List AV} {es:Nat} (h:Bk H b cells es) (hO:Ok H) {o:Nat} {vs cs:List AV} (ho:over cells o vs=some cs) (hs:scAll vs=true): ∃ H',H.store b o vs=some H'∧Bk H' b cs es∧Stp (fun i=>i=b) H H':=by
 obtain ⟨H',e1,e2,e3,e4⟩:=h.store ho hs
 exact ⟨H',e1,e2,(hO.store e1).1,(hO.store e1).2,e4⟩
theorem New.stp {cells:List AV} {es:Nat} {K:Nat→Hp→Prop} (hO:Ok H) (h: ∀ H1,Bk H1 H.nx cells es→Stp noB H H1→K H.nx H1):New H cells es K:=
 New.intro fun H1 h1 _ h3 h4=>h H1 h1 ⟨(h4 hO).1,(h4 hO).2,h3⟩
theorem appF_inv {es bytes:Nat} {x y v:AV} (h:appF es bytes H x y=some (v,H1)): ∃ n new,Eng.append es bytes H x new n=some (v,H1):=by
 unfold appF at h
 split at h
 ·split at h
  ·exact ⟨_,_,h⟩
  ·cases h
 ·cases h
theorem appF_ok {es bytes:Nat} {x y v:AV} (hO:Ok H) (h:appF es bytes H x y=some (v,H1)):Ok H1∧Mo H H1:=by
 obtain ⟨n,new,h⟩:=appF_inv h
 exact hO.append h
end
section
variable {H:Hp} {N es bytes:Nat} {v y:AV} {cs ds:List (List AV)}
theorem Ow.step {G:Nat→Prop} {H1:Hp} (h:Ow H N es v cs) (s:Stp G H H1) (hg: ∀ i,blkOf v=some i→ ¬ G i):Ow H1 N es v cs:=h.keep s.nx s.gr hg
theorem Ow.quiet {H1:Hp} (h:Ow H N es v cs) (s:Stp noB H H1):Ow H1 N es v cs:=h.step s fun _ _ q=>q
theorem Sl.step {G:Nat→Prop} {H1:Hp} {fz:Bool} (h:Sl H es v cs fz) (hO:Ok H) (s:Stp G H H1) (hg: ∀ i,blkOf v=some i→ ¬ G i):Sl H1 es v cs fz:=
 ⟨h.rw,h.at_.imp id fun ⟨b,o,c,e,bl,h1,h2,h3,h4,h5⟩=>⟨b,o,c,e,bl,h1,h2,(s.gr b (hO.lt h3) (hg b (by rw [h1];rfl))).trans h3,h4,h5⟩⟩
theorem Sl.quiet {H1:Hp} {fz:Bool} (h:Sl H es v cs fz) (hO:Ok H) (s:Stp noB H H1):Sl H1 es v cs fz:=h.step hO s fun _ _ q=>q
theorem Ow.isB_low (h:Ow H N es v cs): ∀ i,isB v i→N≤i:=fun i hi=>by
 rcases h.at_ with ⟨rfl,_⟩ | ⟨b,c,e,bl,rfl,h2,_⟩
 ·cases hi
 ·cases hi;exact h2
theorem Ow.appS (h:Ow H N es v cs) (hO:Ok H) (hN:N≤H.nx) {fz:Bool} (hy:Sl H es y ds fz) (hb:(cs.length+ds.length)*bytes≤room) (hes:es<esU) {R:AV→Hp→Prop}
  (k: ∀ v' H',Ow H' N es v' (cs++ds)→Stp (isB v) H H'→(∀ i,blkOf v'=some i→blkOf v=some i∨H.nx≤i)→R v' H'): ∃ v' H',appF es bytes H v y=some (v',H')∧R v' H':=by
 obtain ⟨v',H',e1,e2,e3,e4,e5⟩:=h.app hN hy hb hes
 exact ⟨v',H',e1,k v' H' e2 ⟨(appF_ok hO e1).1,(appF_ok hO e1).2,e4⟩ e5⟩
theorem Ow.appT (h:Ow H N 1 v cs) (hO:Ok H) (hN:N≤H.nx) (s:List Nat) (hb:(cs.length+s.length)*bytes≤room) {R:AV→Hp→Prop}
  (k: ∀ v' H',Ow H' N 1 v' (cs++s.map fun b=>[AV.int .u8 (.ofNat b)])→Stp (isB v) H H'→(∀ i,blkOf v'=some i→blkOf v=some i∨H.nx≤i)→R v' H'): ∃ v' H',appF 1 bytes H v (.str s)=some (v',H')∧R v' H':=by
 obtain ⟨v',H',e1,e2,e3,e4,e5⟩:=h.appStr hN s hb
 exact ⟨v',H',e1,k v' H' e2 ⟨(appF_ok hO e1).1,(appF_ok hO e1).2,e4⟩ e5⟩
theorem Ow.appE (h:Ow H N es v cs) (hO:Ok H) (hN:N≤H.nx) {c:List AV} (hc:c.length=es) (hs:scAll c=true) (hb:(cs.length+1)*bytes≤room) (hes:es<esU) {R:AV→Hp→Prop}
  (k: ∀ v' H',Ow H' N es v' (cs++[c])→Stp (isB v) H H'→(∀ i,blkOf v'=some i→blkOf v=some i∨H.nx≤i)→R v' H'):
  New H c es fun p H1=> ∃ v' H',appF es bytes H1 v (.slice p 0 1 1 true)=some (v',H')∧R v' H':=by
 refine New.stp hO fun H1 h1 h2=>?_
 exact (h.quiet h2).appS h2.ok (Nat.le_trans hN h2.nx) (lit_sl h1 hc hs) hb hes fun v' H' e1 e2 e3=>k v' H' e1 (h2.of.trans e2) fun i hi=>(e3 i hi).imp id fun q=>Nat.le_trans h2.nx q
theorem Sl.appxS {fz fz':Bool} (h:Sl H es v cs fz) (hx:Ex v) (hO:Ok H) (hy:Sl H es y ds fz') (hd:ds≠[]) (hb:(cs.length+ds.length)*bytes≤room) (hes:es<esU) {R:AV→Hp→Prop}
  (k: ∀ v' H',Ow H' H.nx es v' (cs++ds)→Stp noB H H'→blkOf v'=some H.nx→R v' H'): ∃ v' H',appF es bytes H v y=some (v',H')∧R v' H':=by
 obtain ⟨v',H',e1,e2,e3,e4,e5⟩:=h.appx hx hy hd hb hes
 exact ⟨v',H',e1,k v' H' e2 ⟨(appF_ok hO e1).1,(appF_ok hO e1).2,e4⟩ e5⟩
theorem Ow.setS (h:Ow H N es v cs) (hO:Ok H) {j:Nat} (hj:j<cs.length) (p:Nat) {vs:List AV} (hp:p+vs.length≤es) (hs:scAll vs=true):
  ∃ b o,ixF es v (.ofNat j)=some (b,o)∧H.load b o es=some cs[j]∧(∀ (q n:Nat),q+n≤es→H.load b (o+q) n=some ((cs[j].drop q).take n))∧
   ∃ H',H.store b (o+p) vs=some H'∧Ow H' N es v (cs.set j (cs[j].take p++(vs++cs[j].drop (p+vs.length))))∧Stp (isB v) H H':=by
 rcases h.at_ with ⟨_,rfl⟩ | ⟨b,c,e,bl,rfl,h2,h2b,h3,h4,h5,h6,h7,h8,h9⟩
 ·cases hj
 ·obtain ⟨b',o',g1,g2,g3⟩:=h.sl.elem hj
  have hio:ixF es (.slice b 0 cs.length c e) (.ofNat j)=some (b,j*es):=by simp only [ixF,bltT hj,Nat.zero_add]
  rw [hio] at g1
  cases g1
  have hel:=h.rw cs[j] (List.getElem_mem hj)
  have hA:(cs.take j).flatten.length=j*es:=by rw [flat_len (h.rw.take j),List.length_take,Nat.min_eq_left (Nat.le_of_lt hj)]
  obtain ⟨R,hR⟩: ∃ R,bl.cells=cs.flatten++R:=⟨_,h8.drop0⟩
  have hc:bl.cells=(cs.take j).flatten++(cs[j].take p++(((cs[j].drop p).take vs.length)++(cs[j].drop (p+vs.length)++((cs.drop (j+1)).flatten++R)))):=by
   have e1:cs[j]=cs[j].take p++((cs[j].drop p).take vs.length++cs[j].drop (p+vs.length)):=by
    rw [←List.drop_drop,List.take_append_drop,List.take_append_drop]
   have e2:=flat_split hj
   rw [hR,e2]
   conv=>lhs;rw [e1]
   simp only [List.append_assoc]
  have hlen:j*es+p+vs.length≤bl.cells.length:=by
   rw [h7]
   have:(j+1)*es≤c*es:=Nat.mul_le_mul_right _ (by omega)
   rw [Nat.add_mul] at this
   omega
  have hst:=store_at (o:=j*es+p) h4 h5 hs hlen
  have hP:(cs[j].take p).length=p:=by rw [List.length_take,hel.1];omega
  have hM:((cs[j].drop p).take vs.length).length=vs.length:=by rw [List.length_take,List.length_drop,hel.1];omega
  refine ⟨b,j*es,hio,g2,g3,_,hst,⟨?_, .inr ⟨b,c,e,_,by rw [List.length_set],h2,h2b,by rw [List.length_set];exact h3,Tr.get_set_same _ _ _,h5,h6,?_,?_,by rw [List.length_set];exact h9⟩⟩,(hO.store hst).1,(hO.store hst).2,fun i _ hi=>Tr.get_set_ne _ _ fun q=>hi (by rw [q];rfl)⟩
  ·intro x hx
   rcases List.mem_or_eq_of_mem_set hx with hx | rfl
   ·exact h.rw x hx
   ·refine ⟨by simp only [List.length_append,hP,List.length_drop,hel.1];omega,?_⟩
    have:=hel.2
    rw [show cs[j]=cs[j].take p++((cs[j].drop p).take vs.length++cs[j].drop (p+vs.length)) by rw [←List.drop_drop,List.take_append_drop,List.take_append_drop],scAll_append,scAll_append,Bool.and_eq_true,Bool.and_eq_true] at this
    rw [scAll_append,scAll_append,this.1,hs,this.2.2]
    rfl
  ·simp only [List.length_append,List.length_take,List.length_drop]
   omega
  ·refine ⟨R,?_⟩
   simp only [dropN]
   have hj2:j<(cs.set j (cs[j].take p++(vs++cs[j].drop (p+vs.length)))).length:=by rw [List.length_set];exact hj
   rw [flat_split hj2,List.take_set_of_le (Nat.le_refl _),List.getElem_set_self,List.drop_set_of_lt (by omega)]
   have t1:bl.cells.take (j*es+p)=(cs.take j).flatten++cs[j].take p:=by
    rw [hc, ←List.append_assoc,List.take_append_of_le_length (by simp [hA,hP]),List.take_of_length_le (by simp [hA,hP])]
   have t2:bl.cells.drop (j*es+p+vs.length)=cs[j].drop (p+vs.length)++((cs.drop (j+1)).flatten++R):=by
    conv=>lhs;rw [hc]
    rw [←List.append_assoc, ←List.append_assoc,List.drop_append_of_le_length (by simp only [List.length_append,hA,hP,hM];omega),List.drop_of_length_le (by simp only [List.length_append,hA,hP,hM];omega),List.nil_append]
   rw [t1,t2]
   simp only [List.append_assoc]
theorem mk_bk (H:Hp) (n i:Nat) (c:List AV) (es:Nat):Bk ⟨H.m.set i (some ⟨c,es,true⟩),n⟩ i c es:=Tr.get_set_same _ _ _
theorem mk_stp {G:Nat→Prop} {H0:Hp} (s:Stp G H0 H) (n i:Nat) (c:List AV) (es:Nat) (h0:H0.nx≤i) (hi:i<n) (hn:H.nx≤n) (hf:H.m.get i=none):Stp G H0 ⟨H.m.set i (some ⟨c,es,true⟩),n⟩:=
 ⟨fun j hj=>by simp only at hj ⊢; rw [Tr.get_set_ne _ _ (by omega)];exact s.ok j (by omega),
  ⟨Nat.le_trans s.nx hn,fun j hj hnn=>by
   simp only
   rw [Tr.get_set_ne _ _ (by omega)]
   exact s.mo.no j hj hnn,fun j bl e hr=>by
   have:=s.mo.fz j bl e hr
   simp only
   rw [Tr.get_set_ne _ _ fun q=>by rw [q,hf] at this;cases this]
   exact this⟩,
  fun j hj hg=>by
   simp only
   rw [Tr.get_set_ne _ _ (by omega)]
   exact s.gr j hj hg⟩
theorem up_stp {G:Nat→Prop} {H0:Hp} (s:Stp G H0 H) (n:Nat) (hn:H.nx≤n):Stp G H0 ⟨H.m,n⟩:=
 ⟨fun j hj=>s.ok j (by simp only at hj;omega),⟨Nat.le_trans s.nx hn,s.mo.no,s.mo.fz⟩,s.gr⟩
end
theorem ltI_nn (n:Nat):(!(ltI (.ofNat n) 0))=true:=by
 rw [ltI_eq,Bool.not_eq_true',decide_eq_false_iff_not,Int.ofNat_eq_natCast]
 omega
theorem minT_eq {a b:Nat} (h:a≤b):minN (Int.toNat (.ofNat a)) b=a:=by
 unfold minN
 rw [bleT (show Int.toNat (Int.ofNat a)≤b by simpa using h)]
 rfl
theorem frz_keep {H:Hp} {l:List Nat} {i:Nat} (h:i ∉ l):(frz H l).m.get i=H.m.get i:=by
 rw [frz_get,memN_f h]
 cases H.m.get i with
 | none=>rfl
 | some bl=>simp
theorem Stp.frz {G:Nat→Prop} {H H1:Hp} (s:Stp G H H1) {l:List Nat} (hl: ∀ i∈l,H.nx≤i):Stp G H (Eng.frz H1 l):=
 ⟨frz_ok s.ok l,s.mo.trans (frz_mo _ _),fun i hi hg=>(frz_keep fun m=>by have:=hl i m;omega).trans (s.gr i hi hg)⟩
theorem Bk.frz {H:Hp} {b:Nat} {cells:List AV} {es:Nat} (h:Bk H b cells es) {l:List Nat} (hb:b ∉ l):Bk (Eng.frz H l) b cells es:=(frz_keep hb).trans h
theorem Ow.blks_low {H:Hp} {N es:Nat} {v:AV} {cs:List (List AV)} (h:Ow H N es v cs): ∀ i∈blks v,N≤i:=fun i hi=>by
 refine h.isB_low i ?_
 unfold blks at hi
 split at hi
 ·rename_i b hb;rw [List.mem_singleton] at hi;subst hi;exact hb
 ·cases hi
theorem Ow.blks_lt {H:Hp} {N es:Nat} {v:AV} {cs:List (List AV)} (h:Ow H N es v cs): ∀ i∈blks v,i<H.nx:=fun i hi=>by
 rcases h.at_ with ⟨rfl,_⟩ | ⟨b,c,e,bl,rfl,h2,h3,_⟩
 ·cases hi
 ·simp only [blks,blkOf,List.mem_singleton] at hi;omega
theorem Sl.stay {H H1:Hp} {es:Nat} {v:AV} {cs:List (List AV)} {G:Nat→Prop} (h:Sl H es v cs true) (s:Stp G H H1):Sl H1 es v cs true:=h.mono s.mo
theorem takeC_one: ∀ (l:List AV) (o:Nat) (c:AV),nthV l o=some c→c.sc=true→takeC (dropN l o) 1=some [c]
 | [],o,c,h,_=>by cases o <;> cases h
 | a::l,0,c,h,hs=>by
  cases h
  simp only [dropN,takeC,hs]
 | a::l,o+1,c,h,hs=>by
  rw [dropN]
  exact takeC_one l o c h hs
theorem Bk.ld {H:Hp} {b:Nat} {cells:List AV} {es:Nat} (h:Bk H b cells es) (o:Nat) {c:AV} (hc:nthV cells o=some c) (hs:c.sc=true):H.load b o 1=some [c]:=h.load o 1 (takeC_one _ _ _ hc hs)
section
variable {V:Env}
theorem cal_closed {L:List (Nat × List AV)} {f:Nat} (hg:V.isGiven f=true) (hf:V.given f=closedA L) {H:Hp} (hL:LaidH L H) {Q:AV→Hp→Prop} (k:Ok H→Q (.bool true) H):Cal V f [] H Q:=by
 intro hO
 refine cal_given hg (v:= .bool true) (H':=H) (fun A hA=>⟨A,?_,hA⟩) (fun h=>⟨h,Mo.refl _⟩) (k hO) hO
 have:LaidH L A:=fun p hp=>by
  obtain ⟨es,rw_,e⟩:=hL p hp
  obtain ⟨r,e1,_⟩:=hA.so _ _ e
  exact ⟨es,r,e1⟩
 rw [hf]
 simp only [closedA]
 rw [if_pos this]
theorem cal_runs {f:Nat} {args:List AV} {H:Hp} {Q:AV→Prop} (h:Cal V f args H fun v _=>Q v) (hO:Ok H): ∃ n v H',V.all n f args H=some (v,H')∧Q v:=by
 obtain ⟨v,H',_,_,hq,n0,h4⟩:=h hO
 obtain ⟨A',e,_⟩:=h4 n0 (Nat.le_refl _) H (Lq.refl _)
 exact ⟨n0,v,A',e,hq⟩
theorem startH_ok {G:Nat} {L:List (Nat × List AV)} (h:(L.all fun p=>Nat.blt p.1 G)=true):Ok (startH G L):=fun i hi=>by
 cases e:(startH G L).m.get i with
 | none=>rfl
 | some bl=>
  obtain ⟨l,hm,_⟩:=start_get L i bl e
  have:=List.all_eq_true.1 h _ hm
  rw [Nat.blt_eq] at this
  simp only [startH] at hi
  omega
def LaidZ (L:List (Nat × List AV)) (H:Hp):Prop:= ∀ p∈L,H.m.get p.1=some ⟨p.2,0,false⟩
theorem LaidZ.mono {L:List (Nat × List AV)} {H H':Hp} (h:LaidZ L H) (m:Mo H H'):LaidZ L H':=fun p hp=>m.fz _ _ (h p hp) rfl
theorem LaidZ.laid {L:List (Nat × List AV)} {H:Hp} (h:LaidZ L H):LaidH L H:=fun p hp=>⟨0,false,h p hp⟩
def ndup:List (Nat × List AV)→Bool
 | []=>true
 | (g,_)::r=>(r.all fun p=> !(Nat.beq p.1 g))&&ndup r
theorem start_laid {G:Nat}: ∀ {L:List (Nat × List AV)},ndup L=true→LaidZ L (startH G L)
 | [],_,p,hp=>by cases hp
 | (g,l)::r,h,p,hp=>by
  simp only [ndup,Bool.and_eq_true] at h
  show (startT ((g,l)::r)).get p.1=_
  rw [startT,Tr.get_set]
  rcases List.mem_cons.1 hp with rfl | hp
  ·rw [if_pos rfl]
  ·have hne:p.1≠g:=fun e=>by
    have:=List.all_eq_true.1 h.1 p hp
    rw [e,Nat.beq_refl] at this
    cases this
   rw [if_neg hne]
   exact start_laid (G:=G) (L:=r) h.2 p hp
end
end Go.Proofs.YtgfcgkbbmcgjmaaGreatDoor.Eng
