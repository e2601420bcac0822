/- What the functions answer, part Bc3. -/
import Derived.Test.YtgfcgkbbmcgjmaaGreatDoorDBc2
namespace Go.Proofs.YtgfcgkbbmcgjmaaGreatDoor.Eng
set_option linter.unusedVariables false
set_option linter.unusedSimpArgs false
section
variable {H:Hp} {N:Nat}
theorem lay_ok {va vt:AV} {ids:List (List Nat)} {ts:List Term} {xs:List Int} (hi:StR H va ids) (hil:ids.length≤65536) (ht:TmR H vt ts) (hc: ∀ t∈ts,chkB t.2=true∧PoLn t.2) (heb: ∀ t∈ts, ∀ b∈encB t.2,b<256) (hw:gdW [] (ts.map (·.1))) (hl:ts.length≤16384) {Q:AV→Hp→Prop}
  (k: ∀ p q c H',SegR H' p q c ⟨ids,ids.length,xs,ts.map (·.1),ts.map fun t=>encB t.2⟩ (fun i=>decide (i<ids.length))→H.nx≤p→H.nx≤q→H.nx≤c→Stp noB H H'→Q (.tup [.ptr p 0, .int .i64 0]) H'):Cal env 117 [va,vt] H Q:=by
 refine Cal.start fun hO=>Cal.behind (s117 ?_)
 unfold S117
 obtain ⟨cs,t1,t2⟩:=ht
 have hcl:=all2_len t2
 have sva:va.sc=true:=Sl.sc hi
 refine ⟨ids.length,StR.len hi,sall_ok hil fun b c ws H2 set2 hb hcc s2=>⟨_,rfl,Chk.intro sva (Chk.intro rfl (Chk.intro (by simp only [scAll,sva];rfl) (New.stp s2.ok fun H5 b5 s5=>⟨ts.length,by rw [t1.len,List.length_map,hcl],?_⟩)))⟩⟩
 have i5:=s5.ok.lt b5
 have n2:=s2.nx
 have hbl:b<H2.nx:=set2.b_lt s2.ok
 have hcl2:c<H2.nx:=set2.c_lt
 obtain ⟨e,he,hep⟩: ∃ e,esU<e∧Bk H5 H2.nx [va, .nilp, .nils, .ptr b 0] e:=⟨_,by decide,b5⟩
 clear b5
 refine ⟨fun m v n H'=> ∃ i vl,n= .ofNat i∧m=ts.length-i∧i≤ts.length∧Bk H' H2.nx [va, .nilp,vl, .ptr b 0] e∧Ow H' H5.nx 1 v (((ts.take i).map (·.1)).map sc1)∧Ow H' H5.nx 1 vl (((ts.take i).map fun t=>encB t.2).map sc1)∧(∀ j,blkOf v=some j→blkOf vl≠some j)∧SetAt H' b c ids.length (fun i=>decide (i<ids.length)) ws∧Stp noB H H'∧H5.nx≤H'.nx,
  ⟨_,0, .nils,rfl,rfl,Nat.zero_le _,hep,Ow.nil,Ow.nil,(fun j hj=>by cases hj),set2.step s2.ok s5 id id,s2.trans s5,Nat.le_refl _⟩,?_⟩
 clear hep
 rintro _ H9 J v11 _ ⟨i,vl,rfl,rfl,hin,bx,ow,ol,dis,set9,st,n9⟩
 refine IfB.intro (fun g=>?_) (fun g=>?_)
 ·rw [ltI_nat] at g
  have g:i<ts.length:=of_decide_eq_true g
  have gc:i<cs.length:=by omega
  rw [show wrapF .i64 (Int.ofNat i+1)= .ofNat (i+1) from wrap_i64 (x:=i+1) (by omega)]
  obtain ⟨p14,o15,y1,y2,_⟩:=(t1.stay st).elem (j:=i) (by rw [List.length_map];exact gc)
  rw [List.getElem_map] at y2
  have hx:=all2_at t2 i gc g
  obtain ⟨x,hxe⟩: ∃ x,ts[i]=x:=⟨_,rfl⟩
  obtain ⟨cc,hce⟩: ∃ cc,cs[i]=cc:=⟨_,rfl⟩
  rw [hxe,hce] at hx
  rw [hce] at y2
  have hxm:x∈ts:=by rw [←hxe];exact List.getElem_mem g
  have ic:IsS cc.2:=hx.isS
  refine ⟨p14,o15,y1,cc.1,cc.2,y2,New.stp st.ok fun H19 b19 s19=>?_⟩
  have i19:=s19.ok.lt b19
  obtain ⟨H20,e20,b20,s20⟩:=b19.whole s19.ok (ds:=tc cc) (tc_sc ic.sc) rfl
  have t20:Stp noB H9 H20:=s19.then s20 fun j hj=>by omega
  have n20:=t20.nx
  refine ⟨H20,e20,cc.2,b20.ld 1 rfl ic.sc,?_⟩
  refine enc_ok ((hx.2.mono st.mo).mono t20.mo) (hc x hxm).2 (fun h0=>absurd ((hc x hxm).1.symm.trans h0) (by simp)) fun _ v24 H23 ob s23=>?_
  have n23:=s23.nx
  refine ⟨v24,0,rfl,IfB.intro (fun q=>by simp [eqI_dec] at q) fun _=>?_⟩
  have b23:=b20.step t20.ok s23 id
  have t23:=t20.trans s23
  have l9: ∀ {u:AV} {ds:List (List AV)},Ow H9 H5.nx 1 u ds→ ∀ j,blkOf u=some j→H5.nx≤j∧j<H9.nx:=fun o j hj=>⟨o.isB_low j hj,o.lt j hj⟩
  refine letUp s23.ok (by omega) fun H26 s26 nx26 get26=>?_
  have t26:=t23.trans s26
  have b26:=b23.step s23.ok s26 id
  refine ⟨cc.1,b26.ld 0 rfl rfl,?_⟩
  refine letMk s26 (by omega) (by omega) (Nat.le_refl _) (by rw [get26];exact s23.ok _ (by omega)) fun H28 s28 b28 nx28 kp28 get28=>?_
  have t28:Stp noB H9 H28:=t23.trans s28
  have n28:=s28.nx
  refine (ow.quiet t28).appS t28.ok (by omega) (lit_sl b28 rfl rfl) (by simp only [List.length_map,List.length_take,List.length_singleton,room];omega) (by decide) fun v29 H30 o29 s30 f29=>?_
  have n30:=s30.nx
  have vb: ∀ j,isB v11 j→H5.nx≤j∧j<H9.nx:=fun j hj=>l9 ow j hj
  have bx30:=(bx.step st.ok t28 id).step t28.ok s30 fun q=>by have:=vb _ q;omega
  have ol30:=(ol.quiet t28).step s30 fun j hj q=>dis j q hj
  have bx26:=bx.step st.ok t26 id
  have t30:Stp (isB v11) H9 H30:=t28.of.trans s30
  have set30:=(set9.step st.ok t28 id id).step t28.ok s30 (fun q=>by have:=vb _ q;omega) (fun q=>by have:=vb _ q;omega)
  have st30:Stp noB H H30:=(st.trans t28).then s30 fun j q=>by have:=vb _ q;omega
  have hob: ∀ j,blkOf v24=some j→H20.nx≤j:=fun j hj=>ob.ow.isB_low j hj
  have ob26:=ob.ow.quiet s26
  have ob30:=(ob.ow.quiet s28).step s30 fun j hj q=>by have:=vb _ q;have:=hob j hj;omega
  refine ⟨vl,bx30.ld 2 rfl ol.sl.sc,ol.sl.rf ⟨bx26.ld 2 rfl ol.sl.sc,ol.sl.rf ⟨encB x.2,toStr_ok ob30.sl (heb x hxm),toStr_ok ob26.sl (heb x hxm),?_⟩⟩⟩
  have f30:H30.m.get (H23.nx+12)=none:=s30.mo.no _ (by omega) ((get28 _ (by omega)).trans ((get26 _).trans (s23.ok _ (by omega))))
  refine fldapp (s28.of.trans s30) (by omega) (by omega) f30 bx30 he (by omega) ol30 (fun j hj=>by have:=l9 ol j hj;omega) (by omega) (by simp [room];omega) (fun v' cells' H36 hcells b36 o36 kx36 st36 f36=>?_) (fun v=>⟨_,rfl⟩)
  cases hcells
  have n36:=st36.nx
  have lb: ∀ j,isB vl j→H5.nx≤j∧j<H9.nx:=fun j hj=>l9 ol j hj
  have hx36: ∀ j,(j=b∨j=c)→ ¬ (j=H2.nx∨isB vl j):=by
   rintro j hj (q | q)
   ·omega
   ·have:=lb j q;omega
  have etk:ts.take (i+1)=ts.take i++[x]:=by rw [List.take_succ_eq_append_getElem g,hxe]
  refine ⟨_,by omega,i+1,v',rfl,rfl,by omega,b36,?_,?_,?_,?_,?_,?_⟩
  ·rw [etk]
   have:=o29.kx kx36 (by
    rintro j hj (q | q)
    ·rcases f29 j hj with r | r
     ·have:=vb j r;omega
     ·omega
    ·rcases f29 j hj with r | r
     ·exact dis j r q
     ·have:=lb j q;omega)
   rw [List.map_append,List.map_append]
   have hx1:cc.1=x.1:=hx.1
   show Ow H36 H5.nx 1 v29 (_++[sc1 x.1])
   rw [←hx1]
   exact this
  ·rw [etk,List.map_append,List.map_append];exact o36
  ·intro j h1 h2
   rcases f29 j h1 with r | r
   ·rcases f36 j h2 with r2 | r2
    ·exact dis j r r2
    ·have:=vb j r;omega
   ·rcases f36 j h2 with r2 | r2
    ·have:=lb j r2;omega
    ·have:=o29.lt j h1;omega
  ·obtain ⟨es,hd⟩:=set30.hd
   exact ⟨⟨es,hd.kx kx36 (hx36 b (.inl rfl))⟩,set30.ow.kx kx36 (fun j hj=>by cases hj;exact hx36 c (.inr rfl)),set30.ne,set30.len,set30.le,set30.lt,set30.mem,set30.out⟩
  ·exact (st.trans t23).then st36 fun j q=>by
    rcases q with q | q | q
    ·have:=vb j q;omega
    ·omega
    ·have:=lb j q;omega
  ·omega
 ·rw [ltI_nat] at g
  have g: ¬ i<ts.length:=of_decide_eq_false g
  rw [show ts.take i=ts from List.take_of_length_le (by omega)] at ow ol
  refine dbuild_ok ow.sl hw (by rw [List.length_map];exact hl) fun pd H38 dr hpd s38=>⟨_,0,rfl,IfB.intro (fun q=>by simp [eqI_dec] at q) fun _=>Chk.intro rfl ?_⟩
  have bx38:=bx.step st.ok s38 id
  obtain ⟨H41,e41,b41,s41⟩:=bx38.stp s38.ok (o:=1) (vs:=[.ptr pd 0]) rfl rfl
  have st41:Stp noB H H41:=(st.trans s38).then s41 fun j hj=>by omega
  have lb: ∀ j,blkOf vl=some j→H5.nx≤j∧j<H9.nx:=fun j hj=>⟨ol.isB_low j hj,ol.lt j hj⟩
  have ol41:=(ol.quiet s38).step s41 fun j hj q=>by have:=lb j hj;omega
  have set41:=(set9.step st.ok s38 id id).step s38.ok s41 (by omega) (by omega)
  have inl: ∀ j∈H2.nx::blks vl,H2.nx≤j:=fun j hj=>by
   rcases List.mem_cons.1 hj with hj | hj
   ·omega
   ·have:=lb j (blks_mem hj);omega
  refine ⟨H41,e41,H2.nx::blks vl,?_⟩
  have stf:Stp noB H (Eng.frz H41 (H2.nx::blks vl)):=st41.frz fun j hj=>by have:=inl j hj;omega
  refine k H2.nx b c _ ⟨va,pd,vl,ws,b41.fk (List.mem_cons_self ..),StR.mono hi stf.mo,dr.mono (s41.mo.trans (frz_mo _ _)),?_,set41.frzk (fun q=>by have:=inl b q;omega) (fun q=>by have:=inl c q;omega)⟩ (by omega) hb hcc stf
  have:=ol41.sl.frz_any (l:=H2.nx::blks vl) fun j hj=>List.mem_cons_of_mem _ (mem_blks hj)
  rw [List.map_map] at this
  unfold StR
  rw [List.map_map]
  exact this
end
section
variable {H:Hp} {N:Nat}
structure LayOk (ts:List Term):Prop where
 c: ∀ t∈ts,chkB t.2=true∧PoLn t.2
 eb: ∀ t∈ts, ∀ b∈encB t.2,b<256
 w:gdW [] (ts.map (·.1))
 l:ts.length≤16384
structure AllOf (ds:List DocP) (Lp:List (List Term)) (ps:List PEnt):Prop where
 len:Lp.length=ds.length
 doc: ∀ i (h:i<Lp.length) (h2:i<ds.length),DocL i ds[i] Lp[i]
 pm:ps.Perm (fromP 0 Lp)
 so:ps.Pairwise pLe
def tsOf (ps:List PEnt):List Term:=grpB (ps.map (·.1))
def segOf (ds:List DocP) (ts:List Term) (xs:List Int):Seg:=⟨ds.map (·.id),(ds.map (·.id)).length,xs,ts.map (·.1),ts.map fun t=>encB t.2⟩
theorem rises_len {l:List (List Nat)} (h:risesB l=true):l.length≤4096:=by
 unfold risesB at h
 rw [Bool.and_eq_true] at h
 exact of_decide_eq_true h.2
theorem build_ok (hG:GlOk H) {va:AV} {ds:List DocP} {fz:Bool} {xs:List Int} (ha:Sl H 5 va (ds.map dc) fz) (hb:risesB (ds.map (·.id))=true→ ∀ d∈ds, ∀ s∈d.ts,(∀ b∈s,b<256)∧s.length≤1099511627776) (hn:ds.length≤16777216) (hp:risesB (ds.map (·.id))=true→ ∀ Lp ps,AllOf ds Lp ps→LayOk (tsOf ps)) {Q:AV→Hp→Prop}
  (k0:risesB (ds.map (·.id))=false→ ∀ H',Stp noB H H'→Q (.tup [.nilp, .int .i64 1]) H')
  (k1:risesB (ds.map (·.id))=true→ ∀ Lp ps p q c H',AllOf ds Lp ps→SegR H' p q c (segOf ds (tsOf ps) xs) (fun i=>decide (i<(ds.map (·.id)).length))→H.nx≤p→H.nx≤q→H.nx≤c→Stp noB H H'→Q (.tup [.ptr p 0, .int .i64 0]) H'):Cal env 61 [va] H Q:=by
 refine Cal.start fun hO=>s61 ?_
 unfold S61
 refine ⟨ds.length,by rw [ha.len,List.length_map],fun m v n H'=> ∃ i,n= .ofNat i∧m=ds.length-i∧i≤ds.length∧Ow H' H.nx 1 v (((ds.take i).map (·.id)).map sc1)∧Stp noB H H',⟨_,0,rfl,rfl,Nat.zero_le _,Ow.nil,Stp.refl hO⟩,?_⟩
 rintro _ H3 J v5 _ ⟨i,rfl,rfl,hi,ow,st⟩
 have n3:=st.nx
 refine IfB.intro (fun g=>?_) (fun g=>?_)
 ·rw [ltI_nat] at g
  have g:i<ds.length:=of_decide_eq_true g
  rw [show wrapF .i64 (Int.ofNat i+1)= .ofNat (i+1) from wrap_i64 (x:=i+1) (by omega)]
  obtain ⟨p8,o9,y1,y2,_⟩:=(ha.quiet hO st).elem (j:=i) (by rw [List.length_map];exact g)
  rw [List.getElem_map] at y2
  obtain ⟨d,hd⟩: ∃ d,ds[i]=d:=⟨_,rfl⟩
  rw [hd] at y2
  refine ⟨p8,o9,y1,d.id,d.t0,d.t1,d.t2,d.t3,y2,New.stp st.ok fun H16 b16 s16=>?_⟩
  have i16:=s16.ok.lt b16
  obtain ⟨H17,e17,b17,s17⟩:=b16.whole s16.ok (ds:=dc d) rfl rfl
  have t17:Stp noB H3 H17:=s16.then s17 fun j hj=>by omega
  have n17:=t17.nx
  refine ⟨H17,e17,d.id,b17.ld 0 rfl rfl,?_⟩
  refine (ow.quiet t17).appE t17.ok (by omega) (c:=[.str d.id]) rfl rfl (by simp only [List.length_map,List.length_take,room];omega) (by decide) fun v21 H22 o22 s22 f22=>?_
  refine ⟨_,by omega,i+1,rfl,rfl,by omega,?_,(st.trans t17).then s22 fun j hj=>(ow.quiet t17).isB_low j hj⟩
  rw [List.take_succ_eq_append_getElem g,hd,List.map_append,List.map_append]
  exact o22
 ·rw [ltI_nat] at g
  have g: ¬ i<ds.length:=of_decide_eq_false g
  rw [show ds.take i=ds from List.take_of_length_le (by omega)] at ow
  refine rises_ok ow.sl (by rw [List.length_map];omega) ⟨_,rfl,IfB.intro (fun q=>?_) (fun q=>?_)⟩
  ·exact k0 (by simpa using q) H3 st
  ·have q:risesB (ds.map (·.id))=true:=by simpa using q
   have hln:=rises_len q
   rw [List.length_map] at hln
   refine tall_ok (hG.mono st.mo) (ha.quiet hO st) (hb q) hln fun v28 Lp ps H27 hL hD tm pm so s27=>⟨v28,rfl,?_⟩
   have all:AllOf ds Lp ps:=⟨hL,hD,pm,so⟩
   have lo:=hp q Lp ps all
   have n27:=s27.nx
   have o27:=ow.quiet s27
   have st27:=st.trans s27
   refine Cal.ahead (blks v5) ?_
   have stf:Stp noB H (Eng.frz H27 (blks v5)):=st27.frz o27.blks_low
   refine lay_ok (xs:=xs) (ts:=tsOf ps) o27.frz (by rw [List.length_map];omega) (tm.mono (frz_mo _ _)) lo.c lo.eb lo.w lo.l fun p q2 c H' sg h1 h2 h3 s'=>⟨_,_,rfl,?_⟩
   have nf:H.nx≤(Eng.frz H27 (blks v5)).nx:=stf.nx
   exact k1 q Lp ps p q2 c H' all sg (by omega) (by omega) (by omega) (stf.trans s')
end
section
structure TsI (l g:List Term):Prop where
 src: ∀ y∈g,(∃ a∈l,a.1=y.1)∧ ∀ p∈y.2, ∃ a∈l,a.1=y.1∧p∈a.2
 pw:g.Pairwise fun a b=>a.1<b.1
 ri: ∀ y∈g,y.2.Pairwise fun a b=>a.1<b.1
def tLt (a b:Term):Prop:=a.1<b.1∨a.1=b.1∧ ∀ p∈a.2, ∀ q∈b.2,p.1<q.1
theorem TsI.add {l g:List Term} (h:TsI l g) {x:Term} (hx:x.2.Pairwise fun a b=>a.1<b.1) (hl: ∀ a∈l,tLt a x):TsI (l++[x]) (addG g x):=by
 have old: ∀ y∈g,(∃ a∈l++[x],a.1=y.1)∧ ∀ p∈y.2, ∃ a∈l++[x],a.1=y.1∧p∈a.2:=fun y hy=>by
  obtain ⟨⟨a,h1,h2⟩,h3⟩:=h.src y hy
  refine ⟨⟨a,List.mem_append_left _ h1,h2⟩,fun p hp=>?_⟩
  obtain ⟨a,h1,h2⟩:=h3 p hp
  exact ⟨a,List.mem_append_left _ h1,h2⟩
 have xin:x∈l++[x]:=by simp
 have behind:(∀ z∈g,z.1<x.1)→TsI (l++[x]) (g++[x]):=fun hz=>by
  refine ⟨fun y hy=>?_,List.pairwise_append.2 ⟨h.pw,List.pairwise_singleton _ _,fun z hz1 w hw=>?_⟩,fun y hy=>?_⟩
  ·rcases List.mem_append.1 hy with hy | hy
   ·exact old y hy
   ·rw [List.mem_singleton] at hy
    rw [hy]
    exact ⟨⟨x,xin,rfl⟩,fun p hp=>⟨x,xin,rfl,hp⟩⟩
  ·rw [List.mem_singleton] at hw
   rw [hw];exact hz z hz1
  ·rcases List.mem_append.1 hy with hy | hy
   ·exact h.ri y hy
   ·rw [List.mem_singleton] at hy
    rw [hy];exact hx
 unfold addG
 split
 ·rename_i y hy
  obtain ⟨g0,rfl⟩: ∃ a,g=a++[y]:=by
   have hne:g≠[]:=by rintro rfl;cases hy
   rw [List.getLast?_eq_some_getLast hne] at hy
   injection hy with hy
   exact ⟨g.dropLast,by rw [←hy,List.dropLast_concat_getLast]⟩
  have ym:y∈g0++[y]:=by simp
  have hpw:=List.pairwise_append.1 h.pw
  split
  ·rename_i hyx
   rw [List.dropLast_concat]
   refine ⟨fun z hz=>?_,List.pairwise_append.2 ⟨hpw.1,List.pairwise_singleton _ _,fun z hz w hw=>?_⟩,fun z hz=>?_⟩
   ·rcases List.mem_append.1 hz with hz | hz
    ·exact old z (List.mem_append_left _ hz)
    ·rw [List.mem_singleton] at hz
     rw [hz]
     refine ⟨(old y ym).1,fun p hp=>?_⟩
     rcases List.mem_append.1 hp with hp | hp
     ·exact (old y ym).2 p hp
     ·exact ⟨x,xin,hyx.symm,hp⟩
   ·rw [List.mem_singleton] at hw
    rw [hw]
    exact hpw.2.2 z hz y (by simp)
   ·rcases List.mem_append.1 hz with hz | hz
    ·exact h.ri z (List.mem_append_left _ hz)
    ·rw [List.mem_singleton] at hz
     rw [hz]
     refine List.pairwise_append.2 ⟨h.ri y ym,hx,fun p hp q hq=>?_⟩
     obtain ⟨a,h1,h2,h3⟩:=(h.src y ym).2 p hp
     rcases hl a h1 with r | ⟨_,r⟩
     ·rw [h2,hyx] at r;exact absurd r (List.lt_irrefl _)
     ·exact r p h3 q hq
  ·rename_i hyx
   refine behind fun z hz=>?_
   have ylt:y.1<x.1:=by
    obtain ⟨⟨a,h1,h2⟩,_⟩:=h.src y ym
    rcases hl a h1 with r | ⟨r,_⟩
    ·rw [h2] at r;exact r
    ·exact absurd (h2.symm.trans r) hyx
   rcases List.mem_append.1 hz with hz | hz
   ·exact List.lt_trans (hpw.2.2 z hz y (by simp)) ylt
   ·rw [List.mem_singleton] at hz
    rw [hz];exact ylt
 ·rename_i hg
  have:g=[]:=by
   cases g with
   | nil=>rfl
   | cons a b=>rw [List.getLast?_eq_some_getLast (by simp)] at hg;cases hg
  subst this
  exact behind fun z hz=>(List.not_mem_nil hz).elim
theorem grp_tsi {l:List Term} (h1: ∀ x∈l,x.2.Pairwise fun a b=>a.1<b.1) (h2:l.Pairwise tLt):TsI l (grpB l):=by
 have: ∀ n,n≤l.length→TsI (l.take n) (grpB (l.take n)):=fun n=>by
  induction n with
  | zero=>exact fun _=>⟨fun y hy=>(List.not_mem_nil hy).elim,List.Pairwise.nil,fun y hy=>(List.not_mem_nil hy).elim⟩
  | succ n ih=>
   intro hn
   have hn2:n<l.length:=by omega
   rw [List.take_succ_eq_append_getElem hn2,grpB_snoc]
   refine (ih (by omega)).add (h1 _ (List.getElem_mem hn2)) fun a ha=>?_
   obtain ⟨i,hi,rfl⟩:=List.getElem_of_mem ha
   rw [List.length_take] at hi
   rw [List.getElem_take]
   exact List.pairwise_iff_getElem.1 h2 i n (by omega) hn2 (by omega)
 have:=this l.length (Nat.le_refl _)
 rw [List.take_length] at this
 exact this
theorem chkGo_of: ∀ (l:List Post) (p:Option Int),(∀ x∈l,fitsB x.1 x.2=true∧ ∀ d,p=some d→d<x.1)→(l.Pairwise fun a b=>a.1<b.1)→chkGo p l=true
 | [],_,_,_=>by cases ‹Option Int› <;> rfl
 | x::l,p,h,g=>by
  rw [List.pairwise_cons] at g
  have hx:=h x (List.mem_cons_self ..)
  rw [chkGo_cons,hx.1,if_neg (by decide),if_neg,chkGo_of l (some x.1) (fun y hy=>⟨(h y (List.mem_cons_of_mem _ hy)).1,fun d hd=>by cases hd;exact g.1 y hy⟩) g.2]
  cases p with
  | none=>simp
  | some d=>
   have:=hx.2 d rfl
   simp only [decide_eq_true_eq]
   omega
theorem gdW_of: ∀ (l:List (List Nat)) (last:List Nat),(∀ w∈l,last<w∧w.length≤64∧ ∀ b∈w,b<256)→(l.Pairwise (· < ·))→gdW last l
 | [],_,_,_=>trivial
 | w::l,last,h,g=>by
  rw [List.pairwise_cons] at g
  have hw:=h w (List.mem_cons_self ..)
  exact ⟨hw.1,hw.2.1,hw.2.2,gdW_of l w (fun u hu=>⟨g.1 u hu,(h u (List.mem_cons_of_mem _ hu)).2⟩) g.2⟩
end
section
theorem tokW_pw (s:List Nat): ∀ (l:List (Nat × Nat)) (i:Nat),(tokW s l i).Pairwise (fun a b=>a.2<b.2)∧ ∀ x∈tokW s l i,i≤x.2∧x.2<60
 | [],_=>⟨List.Pairwise.nil,fun x hx=>(List.not_mem_nil hx).elim⟩
 | y::l,i=>by
  obtain ⟨h1,h2⟩:=tokW_pw s l (i+1)
  simp only [tokW]
  split
  ·rename_i c
   refine ⟨List.pairwise_cons.2 ⟨fun x hx=>by have:=h2 x hx;simp only;omega,h1⟩,fun x hx=>?_⟩
   rcases List.mem_cons.1 hx with rfl | hx
   ·exact ⟨Nat.le_refl _,c.1⟩
   ·have:=h2 x hx;omega
  ·exact ⟨h1,fun x hx=>by have:=h2 x hx;omega⟩
theorem textW_pw: ∀ {l:List (List Nat × Nat)},l.Pairwise (fun a b=>a.2<b.2)→(textW l).Pairwise (fun a b=>a.2<b.2)∧ ∀ x∈textW l, ∃ y∈l,y.2=x.2∧x.1=stemU y.1
 | [],_=>⟨List.Pairwise.nil,fun x hx=>(List.not_mem_nil hx).elim⟩
 | y::l,h=>by
  rw [List.pairwise_cons] at h
  obtain ⟨h1,h2⟩:=textW_pw h.2
  have up: ∀ x∈textW l, ∃ z∈y::l,z.2=x.2∧x.1=stemU z.1:=fun x hx=>by
   obtain ⟨z,hz,e⟩:=h2 x hx
   exact ⟨z,List.mem_cons_of_mem _ hz,e⟩
  simp only [textW]
  split
  ·exact ⟨h1,up⟩
  ·refine ⟨List.pairwise_cons.2 ⟨fun x hx=>?_,h1⟩,fun x hx=>?_⟩
   ·obtain ⟨z,hz,e,_⟩:=h2 x hx
    rw [←e];exact h.1 z hz
   ·rcases List.mem_cons.1 hx with rfl | hx
    ·exact ⟨y,List.mem_cons_self ..,rfl,rfl⟩
    ·exact up x hx
theorem textU_pw (s:List Nat):(textU s).Pairwise (fun a b=>a.2<b.2)∧ ∀ x∈textU s,x.2<60:=by
 obtain ⟨h1,h2⟩:=tokW_pw s (spansU s) 0
 obtain ⟨h3,h4⟩:=textW_pw h1
 refine ⟨h3,fun x hx=>?_⟩
 obtain ⟨y,hy,e,_⟩:=h4 x hx
 have:=h2 y hy
 omega
structure SpI (f lo:Int) (T:List (Int × List Int)):Prop where
 pw:T.Pairwise fun a b=>a.1<b.1
 el: ∀ x∈T,0<x.1∧x.1≤f∧x.2≠[]∧x.2.Pairwise (· < ·)∧ ∀ a∈x.2,0≤a∧a≤59
 lo: ∀ x∈T,x.1=f→ ∀ a∈x.2,a<lo
theorem SpI.add {f lo a:Int} {T:List (Int × List Int)} (h:SpI f lo T) (hf:0<f) (h0:0≤a) (h1:a≤59) (hl:lo≤a):SpI f (a+1) (spAdd T f a):=by
 have fresh:(∀ x∈T,x.1<f)→SpI f (a+1) (T++[(f,[a])]):=fun g=>by
  refine ⟨List.pairwise_append.2 ⟨h.pw,List.pairwise_singleton _ _,fun x hx y hy=>?_⟩,fun x hx=>?_,fun x hx e b hb=>?_⟩
  ·rw [List.mem_singleton] at hy
   rw [hy];exact g x hx
  ·rcases List.mem_append.1 hx with hx | hx
   ·exact h.el x hx
   ·rw [List.mem_singleton] at hx
    rw [hx]
    exact ⟨hf,Int.le_refl _,by simp,List.pairwise_singleton _ _,fun b hb=>by rw [List.mem_singleton] at hb;omega⟩
  ·rcases List.mem_append.1 hx with hx | hx
   ·have:=g x hx;omega
   ·rw [List.mem_singleton] at hx
    rw [hx,List.mem_singleton] at hb
    omega
 unfold spAdd
 split
 ·rename_i y hy
  obtain ⟨T0,rfl⟩: ∃ b,T=b++[y]:=by
   have hne:T≠[]:=by rintro rfl;cases hy
   rw [List.getLast?_eq_some_getLast hne] at hy
   injection hy with hy
   exact ⟨T.dropLast,by rw [←hy,List.dropLast_concat_getLast]⟩
  have ym:y∈T0++[y]:=by simp
  have hpw:=List.pairwise_append.1 h.pw
  have hy2:=h.el y ym
  split
  ·rename_i e
   rw [List.dropLast_concat]
   refine ⟨List.pairwise_append.2 ⟨hpw.1,List.pairwise_singleton _ _,fun x hx z hz=>?_⟩,fun x hx=>?_,fun x hx e2 b hb=>?_⟩
   ·rw [List.mem_singleton] at hz
    rw [hz]
    have:=hpw.2.2 x hx y (by simp)
    simp only
    omega
   ·rcases List.mem_append.1 hx with hx | hx
    ·exact h.el x (List.mem_append_left _ hx)
    ·rw [List.mem_singleton] at hx
     rw [hx]
     refine ⟨hf,Int.le_refl _,by simp,List.pairwise_append.2 ⟨hy2.2.2.2.1,List.pairwise_singleton _ _,fun b hb c hc=>?_⟩,fun b hb=>?_⟩
     ·rw [List.mem_singleton] at hc
      have:=h.lo y ym e b hb
      omega
     ·rcases List.mem_append.1 hb with hb | hb
      ·exact hy2.2.2.2.2 b hb
      ·rw [List.mem_singleton] at hb;omega
   ·rcases List.mem_append.1 hx with hx | hx
    ·have:=hpw.2.2 x hx y (by simp)
     omega
    ·rw [List.mem_singleton] at hx
     rw [hx] at hb
     rcases List.mem_append.1 hb with hb | hb
     ·have:=h.lo y ym e b hb;omega
     ·rw [List.mem_singleton] at hb;omega
  ·rename_i e
   refine fresh fun x hx=>?_
   rcases List.mem_append.1 hx with hx | hx
   ·have:=hpw.2.2 x hx y (by simp)
    have:=hy2.2.1
    omega
   ·rw [List.mem_singleton] at hx
    rw [hx]
    have:=hy2.2.1
    omega
 ·rename_i hn
  have:T=[]:=by
   cases T with
   | nil=>rfl
   | cons p q=>rw [List.getLast?_eq_some_getLast (by simp)] at hn;cases hn
  subst this
  exact fresh fun x hx=>(List.not_mem_nil hx).elim
theorem SpI.up {f lo lo':Int} {T:List (Int × List Int)} (h:SpI f lo T) (hl:lo≤lo'):SpI f lo' T:=⟨h.pw,h.el,fun x hx e a ha=>by have:=h.lo x hx e a ha;omega⟩
theorem toks_spi {f:Int} (hf:0<f): ∀ (l:List (List Nat × Nat)) (lo:Nat) (T:List Nat→List (Int × List Int)),(∀ w,SpI f lo (T w))→l.Pairwise (fun a b=>a.2<b.2)→(∀ x∈l,lo≤x.2∧x.2<60)→ ∀ w,SpI f 60 (l.foldl (addTok f) T w)
 | [],lo,T,h,_,_=>fun w=>⟨(h w).pw,(h w).el,fun x hx _ a ha=>by have:=((h w).el x hx).2.2.2.2 a ha;omega⟩
 | x::l,lo,T,h,g,b=>by
  rw [List.pairwise_cons] at g
  have hb:=b x (List.mem_cons_self ..)
  refine toks_spi hf l (x.2+1) (addTok f T x) (fun w=>?_) g.2 fun y hy=>⟨g.1 y hy,(b y (List.mem_cons_of_mem _ hy)).2⟩
  unfold addTok
  by_cases hw:w=x.1
  ·rw [hw,updF_same]
   exact SpI.add (a:=((x.2:Nat):Int)) (h x.1) hf (by omega) (by omega) (by omega)
  ·rw [updF_ne _ _ hw]
   exact (h w).up (by omega)
theorem docGo_spi: ∀ (l:List (List Nat)) (f:Int) (T:List Nat→List (Int × List Int)),0<f→(∀ w,SpI (f-1) 60 (T w))→ ∀ w,SpI (f+l.length-1) 60 (docGo f l T w)
 | [],f,T,_,h=>by simpa [docGo] using h
 | s::l,f,T,hf,h=>by
  have h1: ∀ w,SpI f ((0:Nat):Int) (T w):=fun w=>⟨(h w).pw,fun x hx=>by have:=(h w).el x hx;exact ⟨this.1,by omega,this.2.2⟩,fun x hx e=>by have:=((h w).el x hx).2.1;omega⟩
  have ht:=textU_pw s
  have h2:=toks_spi hf (textU s) 0 T h1 ht.1 fun x hx=>⟨Nat.zero_le _,ht.2 x hx⟩
  have:=docGo_spi l (f+1) (addTxt f T s) (by omega) fun w=>by
   rw [show f+1-1=f by omega]
   exact h2 w
  intro w
  have:=this w
  rw [show f+1+(l.length:Int)-1=f+((s::l).length:Int)-1 by simp;omega] at this
  exact this
theorem docT_spi (d:DocP) (w:List Nat):SpI 4 60 (docT d.ts w):=by
 have:=docGo_spi d.ts 1 (fun _=>[]) (by omega) (fun w=>⟨List.Pairwise.nil,fun x hx=>(List.not_mem_nil hx).elim,fun x hx=>(List.not_mem_nil hx).elim⟩) w
 exact this
theorem placesGo_of: ∀ (l:List Int) (last:Int),(∀ x∈l,last<x∧x≤59)→l.Pairwise (· < ·)→placesGo last l=true
 | [],_,_,_=>rfl
 | x::l,last,h,g=>by
  rw [List.pairwise_cons] at g
  have:=h x (List.mem_cons_self ..)
  simp only [placesGo]
  rw [if_neg (by omega)]
  exact placesGo_of l x (fun y hy=>⟨g.1 y hy,(h y (List.mem_cons_of_mem _ hy)).2⟩) g.2
theorem fitsGo_of: ∀ (l:List (Int × List Int)) (last:Int),(∀ x∈l,last<x.1∧x.1≤4∧placesB x.2=true)→(l.Pairwise fun a b=>a.1<b.1)→fitsGo last l=true
 | [],_,_,_=>rfl
 | x::l,last,h,g=>by
  rw [List.pairwise_cons] at g
  have:=h x (List.mem_cons_self ..)
  simp only [fitsGo]
  rw [if_neg (by rintro (q | q | q);omega;omega;rw [this.2.2] at q;cases q)]
  exact fitsGo_of l x.1 (fun y hy=>⟨g.1 y hy,(h y (List.mem_cons_of_mem _ hy)).2⟩) g.2
theorem fits_doc {i:Nat} (hi:i<65536) {d:DocP} {w:List Nat} (hw:docT d.ts w≠[]):fitsB (i:Int) (docT d.ts w)=true:=by
 have h:=docT_spi d w
 unfold fitsB
 rw [fitsGo_of _ 0 (fun x hx=>?_) h.pw,Bool.true_and,Bool.and_eq_true,decide_eq_true_eq,decide_eq_true_eq]
 ·exact ⟨by omega,List.length_pos_iff.2 hw⟩
 ·have hx:=h.el x hx
  refine ⟨hx.1,hx.2.1,?_⟩
  unfold placesB
  rw [placesGo_of _ (-1) (fun a ha=>by have:=hx.2.2.2.2 a ha;omega) hx.2.2.2.1,Bool.true_and,decide_eq_true_eq]
  exact List.length_pos_iff.2 hx.2.2.1
end
section
theorem plain_len {w:List Nat} (h:plainB w=true):4≤w.length:=by
 unfold plainB at h
 simp at h
 omega
theorem plural_pos {w:List Nat} (h:4≤w.length):0<(pluralU w).length:=by
 unfold pluralU
 repeat' split
 all_goals first
  | omega
  | (simp only [List.length_take,List.length_append,List.length_singleton];omega)
  | (unfold trimS;split <;> (try simp only [List.length_take,List.length_cons,List.length_nil]) <;> omega)
theorem past_pos {w:List Nat} (h:4≤w.length):0<(pastU w).length:=by
 have tw: ∀ u:List Nat,3≤u.length→0<(twinU u).length:=fun u hu=>by
  unfold twinU
  split
  ·split
   ·omega
   ·rw [List.length_take];omega
  ·omega
 have: ∀ l:List (List Nat),0<(pastGo w l).length:=fun l=>by
  induction l with
  | nil=>simp only [pastGo];omega
  | cons e l ih=>
   simp only [pastGo]
   split
   ·rename_i c;exact tw _ c.2.1
   ·exact ih
 exact this _
theorem other_pos {w:List Nat} (h:4≤w.length):0<(otherU w).length:=by
 have: ∀ l:List (List Nat × List Nat),0<(otherGo w l).length:=fun l=>by
  induction l with
  | nil=>simp only [otherGo];omega
  | cons e l ih=>
   simp only [otherGo]
   split
   ·rename_i c;rw [List.length_append];omega
   ·exact ih
 exact this _
theorem stem_pos {w:List Nat} (h:0<w.length):0<(stemU w).length:=by
 show 0<(stemG 0 w).length
 rw [stemG0]
 split
 ·rename_i c
  have h1:=plural_pos (plain_len c)
  rw [stemG1]
  split
  ·rename_i c
   have h2:=past_pos (plain_len c)
   rw [stemG2]
   split
   ·rename_i c
    exact other_pos (plain_len c)
   ·exact h2
  ·exact h1
 ·exact h
end
section
theorem spanGo_lt {s:List Nat}: ∀ (f a:Nat) (b:Bool) (l:List (Nat × Nat)),(∀ x∈l,x.1<x.2∧x.2≤a)→(b=true→l≠[])→ ∀ x∈spanGo f s a b l,x.1<x.2
 | 0,_,_,l,h,_=>fun x hx=>(h x hx).1
 | f+1,a,b,l,h,hb=>by
  rw [spanGo]
  split
  ·rename_i ha
   have hp:=nextU_pos ha
   have wide: ∀ x∈l,x.1<x.2∧x.2≤a+(nextU s a).2:=fun x hx=>by have:=h x hx;omega
   refine spanGo_lt f _ _ _ (fun x hx=>?_) (fun hw=>?_)
   ·unfold spanStep at hx
    split at hx
    ·split at hx
     ·rename_i hb1
      have hl:l.length-1<l.length:=by
       have:=List.length_pos_iff.2 (hb hb1)
       omega
      rcases List.mem_or_eq_of_mem_set hx with hx | hx
      ·exact wide x hx
      ·rw [hx,getDp_at hl]
       have:=h _ (List.getElem_mem hl)
       simp only
       omega
     ·rcases List.mem_append.1 hx with hx | hx
      ·exact wide x hx
      ·rw [List.mem_singleton] at hx
       rw [hx]
       simp only
       omega
    ·exact wide x hx
   ·unfold spanStep
    rw [if_pos hw]
    split
    ·rename_i hb1
     intro e
     exact hb hb1 (List.length_eq_zero_iff.1 (by rw [←List.length_set,e];rfl))
    ·simp
  ·exact fun x hx=>(h x hx).1
theorem spans_lt (s:List Nat): ∀ x∈spansU s,x.1<x.2:=spanGo_lt _ _ _ _ (fun x hx=>(List.not_mem_nil hx).elim) (fun q=>by cases q)
theorem lowerGo_or: ∀ (l:List (Nat × Nat × Nat × Nat)) (r:Nat),lowerGo l r=r∨ ∃ x∈l,lowerGo l r≤x.2.1+x.2.2.2
 | [],r=> .inl rfl
 | (lo,hi,st,up)::l,r=>by
  simp only [lowerGo]
  by_cases c:lo≤r∧r≤hi∧(r-lo)%st=0
  ·rw [if_pos c]
   exact .inr ⟨(lo,hi,st,up),List.mem_cons_self ..,by simp only;omega⟩
  ·rw [if_neg c]
   rcases lowerGo_or l r with g | ⟨x,hx,g⟩
   ·exact .inl g
   ·exact .inr ⟨x,List.mem_cons_of_mem _ hx,g⟩
theorem lower_sign {r:Nat} (h:signU r=true):signU (lowerU r)=true:=by
 have h1:=lowerU_le r
 have h2:lowerU r=r∨lowerU r≤1232:=by
  rcases lowerGo_or rowsU r with g | ⟨x,hx,g⟩
  ·exact .inl g
  ·have hm: ∀ x∈rowsU,x.2.1+x.2.2.2≤1232:=by decide
   exact .inr (Nat.le_trans g (hm x hx))
 rcases h2 with h2 | h2
 ·rw [h2];exact h
 ·unfold signU
  simp
  omega
theorem put_pos {r:Nat} (h:signU r=true):0<(putU r).length:=by
 unfold putU
 rw [h]
 simp only [Bool.true_eq_false,if_false]
 repeat' split
 all_goals simp
end
section
theorem fold_pos {l:List Nat} (h:0<l.length):0<(foldU l).length:=by
 cases l with
 | nil=>cases h
 | cons c r=>
  show 0<(foldV (r.length+1) (c::r)).length
  simp only [foldV]
  rw [List.length_append]
  split
  ·simp;omega
  ·rename_i x hx
   have:=put_pos (lower_sign (nextU_sign hx))
   omega
theorem word_pos {s:List Nat} {x:Nat × Nat} (h1:x.1<x.2) (h2:x.2≤s.length):0<(wordS s x).length:=by
 unfold wordS
 exact fold_pos (by rw [List.length_take,List.length_drop];omega)
end
section
def other2 (a b:PEnt):Prop:= ¬ (a.1.1=b.1.1∧a.2=b.2)
theorem fromP_idx: ∀ (L:List (List Term)) (i:Nat), ∀ x∈fromP i L, ∃ (j:Nat) (h:j<L.length),x.2=i+j∧x.1∈L[j]
 | [],_=>fun x hx=>(List.not_mem_nil hx).elim
 | l::L,i=>fun x hx=>by
  simp only [fromP] at hx
  rcases List.mem_append.1 hx with hx | hx
  ·obtain ⟨c,hc,rfl⟩:=List.mem_map.1 hx
   exact ⟨0,by simp,rfl,hc⟩
  ·obtain ⟨j,hj,e,hm⟩:=fromP_idx L (i+1) x hx
   exact ⟨j+1,by simp;omega,by omega,by simpa using hm⟩
theorem fromP_other: ∀ (L:List (List Term)) (i:Nat),(∀ l∈L,l.Pairwise fun a b=>a.1<b.1)→(fromP i L).Pairwise other2
 | [],_,_=>List.Pairwise.nil
 | l::L,i,h=>by
  simp only [fromP]
  refine List.pairwise_append.2 ⟨?_,fromP_other L (i+1) fun x hx=>h x (List.mem_cons_of_mem _ hx),fun a ha b hb=>?_⟩
  ·refine List.pairwise_map.2 ((h l (List.mem_cons_self ..)).imp fun {a b} g q=>?_)
   have g2:a.1<b.1:=g
   have q1:a.1=b.1:=q.1
   rw [q1] at g2
   exact List.lt_irrefl _ g2
  ·obtain ⟨c,hc,rfl⟩:=List.mem_map.1 ha
   obtain ⟨j,hj,e,hm⟩:=fromP_idx L (i+1) b hb
   exact fun q=>by have:=q.2;simp only at this;omega
theorem all_other {Lp:List (List Term)} {ps:List PEnt} (h: ∀ l∈Lp,l.Pairwise fun a b=>a.1<b.1) (pm:ps.Perm (fromP 0 Lp)):ps.Pairwise other2:=
 (pm.pairwise_iff (fun {a b} q r=>q ⟨r.1.symm,r.2.symm⟩)).2 (fromP_other Lp 0 h)
end
section
theorem AllOf.el {ds:List DocP} {Lp:List (List Term)} {ps:List PEnt} (h:AllOf ds Lp ps): ∀ x∈ps, ∃ (j:Nat) (hj:j<ds.length),x.2=j∧docT ds[j].ts x.1.1≠[]∧x.1.2=[((j:Int),docT ds[j].ts x.1.1)]:=fun x hx=>by
 obtain ⟨j,hj,e,hm⟩:=fromP_idx Lp 0 x (h.pm.mem_iff.1 hx)
 have hj2:j<ds.length:=by rw [←h.len];exact hj
 obtain ⟨ks,hk,_,hl⟩:=h.doc j hj hj2
 rw [hl] at hm
 obtain ⟨w,hw,e2⟩:=List.mem_map.1 hm
 refine ⟨j,hj2,by omega,?_,?_⟩
 ·rw [←e2];exact (hk.2 w).1 hw
 ·rw [←e2]
theorem AllOf.lt {ds:List DocP} {Lp:List (List Term)} {ps:List PEnt} (h:AllOf ds Lp ps):(ps.map (·.1)).Pairwise tLt:=by
 have ho:=all_other (fun l hl=>by
  obtain ⟨j,hj,rfl⟩:=List.getElem_of_mem hl
  exact (h.doc j hj (by rw [←h.len];exact hj)).pw) h.pm
 refine List.pairwise_map.2 ((List.pairwise_iff_getElem).2 fun a b ha hb hab=>?_)
 have h1:=List.pairwise_iff_getElem.1 h.so a b ha hb hab
 have h2:=List.pairwise_iff_getElem.1 ho a b ha hb hab
 rcases h1 with h1 | ⟨h1,h3⟩
 ·exact .inl h1
 ·refine .inr ⟨h1,fun p hp q hq=>?_⟩
  obtain ⟨i,_,e1,_,e2⟩:=h.el _ (List.getElem_mem ha)
  obtain ⟨j,_,e3,_,e4⟩:=h.el _ (List.getElem_mem hb)
  have hp:p∈ps[a].1.2:=hp
  have hq:q∈ps[b].1.2:=hq
  rw [e2,List.mem_singleton] at hp
  rw [e4,List.mem_singleton] at hq
  rw [hp,hq]
  have:i≠j:=fun e=>h2 ⟨h1,by rw [e1,e3,e]⟩
  simp only
  omega
theorem AllOf.tsi {ds:List DocP} {Lp:List (List Term)} {ps:List PEnt} (h:AllOf ds Lp ps):TsI (ps.map (·.1)) (tsOf ps):=
 grp_tsi (fun x hx=>by
  obtain ⟨y,hy,rfl⟩:=List.mem_map.1 hx
  obtain ⟨j,_,_,_,e⟩:=h.el y hy
  rw [e];exact List.pairwise_singleton _ _) h.lt
end
section
theorem AllOf.post {ds:List DocP} {Lp:List (List Term)} {ps:List PEnt} (h:AllOf ds Lp ps) {t:Term} (ht:t∈tsOf ps) {x:Post} (hx:x∈t.2): ∃ (j:Nat) (hj:j<ds.length),docT ds[j].ts t.1≠[]∧x=((j:Int),docT ds[j].ts t.1):=by
 obtain ⟨a,ha,e,hxa⟩:=(h.tsi.src t ht).2 x hx
 obtain ⟨y,hy,rfl⟩:=List.mem_map.1 ha
 obtain ⟨j,hj,_,h1,h2⟩:=h.el y hy
 have hxa:x∈y.1.2:=hxa
 have e:y.1.1=t.1:=e
 rw [h2,List.mem_singleton,e] at hxa
 rw [e] at h1
 exact ⟨j,hj,h1,hxa⟩
theorem AllOf.chk {ds:List DocP} {Lp:List (List Term)} {ps:List PEnt} (h:AllOf ds Lp ps) (hn:ds.length≤65536) {t:Term} (ht:t∈tsOf ps):chkB t.2=true:=by
 refine chkGo_of t.2 none (fun x hx=>⟨?_,fun d hd=>by cases hd⟩) (h.tsi.ri t ht)
 obtain ⟨j,hj,h1,rfl⟩:=h.post ht hx
 exact fits_doc (by omega) h1
end
section
theorem rise_gt: ∀ (l:List Int) (last:Int), ∀ x∈rise last l,last<x
 | [],_=>fun x hx=>(List.not_mem_nil hx).elim
 | y::l,last=>fun x hx=>by
  rw [rise] at hx
  split at hx
  ·rename_i h
   rcases List.mem_cons.1 hx with rfl | hx
   ·exact h
   ·have:=rise_gt l y x hx;omega
  ·exact (List.not_mem_nil hx).elim
theorem rise_mem {last:Int} {l:List Int} {x:Int} (h:x∈rise last l):x∈l:=by
 obtain ⟨r,hr⟩:=rise_pre last l
 rw [hr];exact List.mem_append_left _ h
theorem difB_lt: ∀ (l:List Int) (last:Int), -1≤last→(∀ x∈l, -1≤x∧x<4611686018427387904)→ ∀ b∈difB last l,b<256
 | [],_,_,_=>fun b hb=>(List.not_mem_nil hb).elim
 | x::l,last,h0,h=>fun b hb=>by
  have hx:=h x (List.mem_cons_self ..)
  simp only [difB] at hb
  rcases List.mem_append.1 hb with hb | hb
  ·exact numB_lt (by omega) b hb
  ·exact difB_lt l x hx.1 (fun y hy=>h y (List.mem_cons_of_mem _ hy)) b hb
theorem risB_lt {l:List Int} (h: ∀ x∈l,x<4611686018427387904) (hl:l.length<4611686018427387904): ∀ b∈risB l,b<256:=fun b hb=>by
 unfold risB at hb
 have h1:=rise_le (-1) l
 rcases List.mem_append.1 hb with hb | hb
 ·exact numB_lt (by omega) b hb
 ·exact difB_lt _ (-1) (Int.le_refl _) (fun x hx=>⟨by have:=rise_gt l (-1) x hx;omega,h x (rise_mem hx)⟩) b hb
theorem spB_lt {x:Int × List Int} (h1:x.1<4611686018427387904) (h2:x.2.length≤60) (h3: ∀ a∈x.2,a<4611686018427387904): ∀ b∈spB x,b<256:=fun b hb=>by
 unfold spB at hb
 rcases List.mem_append.1 hb with hb | hb
 ·exact numB_lt (by omega) b hb
 ·exact risB_lt h3 (by omega) b hb
theorem putB_lt {d last:Int} {l:List (Int × List Int)} (h:SpLn l) (hd:d<65536) (hla: -1≤last): ∀ b∈putB d last l,b<256:=fun b hb=>by
 unfold putB at hb
 rcases List.mem_append.1 hb with hb | hb
 ·exact numB_lt (by omega) b hb
 rcases List.mem_append.1 hb with hb | hb
 ·exact numB_lt (by have:=h.1;omega) b hb
 ·obtain ⟨y,hy,hb⟩:=List.mem_flatten.1 hb
  obtain ⟨x,hx,rfl⟩:=List.mem_map.1 hy
  have:=h.2 x hx
  exact spB_lt this.1 this.2.1 this.2.2 b hb
theorem runB_lt: ∀ (l:List Post) (last:Int), -1≤last→(∀ x∈l,SpLn x.2∧0≤x.1∧x.1<65536)→ ∀ b∈runB last l,b<256
 | [],_,_,_=>fun b hb=>(List.not_mem_nil hb).elim
 | x::l,last,h0,h=>fun b hb=>by
  have hx:=h x (List.mem_cons_self ..)
  simp only [runB] at hb
  rcases List.mem_append.1 hb with hb | hb
  ·exact putB_lt hx.1 hx.2.2 h0 b hb
  ·exact runB_lt l x.1 (by omega) (fun y hy=>h y (List.mem_cons_of_mem _ hy)) b hb
theorem runB_len: ∀ (l:List Post) (last:Int), -1≤last→(∀ x∈l,SpLn x.2∧0≤x.1∧x.1<65536)→(runB last l).length≤2500*l.length
 | [],_,_,_=>Nat.le_refl _
 | x::l,last,h0,h=>by
  have hx:=h x (List.mem_cons_self ..)
  have:=runB_len l x.1 (by omega) fun y hy=>h y (List.mem_cons_of_mem _ hy)
  have h2:=putB_len (d:=x.1) (last:=last) hx.1 (by omega)
  simp only [runB,List.length_append,List.length_cons]
  omega
theorem lastP_le {l:List Post} {last:Int} (h0: -1≤last∧last<65536) (h: ∀ x∈l,0≤x.1∧x.1<65536): -1≤lastP last l∧lastP last l<65536:=by
 unfold lastP
 by_cases hl:l=[]
 ·subst hl;exact h0
 ·obtain ⟨a,x,rfl⟩:=snoc_of (List.length_pos_iff.2 hl)
  have:=h x (by simp)
  rw [List.map_append,List.map_singleton,List.getLastD_eq_getLast?,List.getLast?_append]
  simp
  omega
theorem encGo_lt: ∀ (f:Nat) (last:Int) (l:List Post), -1≤last∧last<65536→(∀ x∈l,SpLn x.2∧0≤x.1∧x.1<65536)→(∀ b∈encGo f last l,b<256)∧(encGo f last l).length≤2518*l.length
 | 0,_,_,_,_=>⟨fun b hb=>(List.not_mem_nil hb).elim,by simp [encGo]⟩
 | f+1,last,l,h0,h=>by
  rw [encGo]
  split
  ·exact ⟨fun b hb=>(List.not_mem_nil hb).elim,by simp⟩
  ·rename_i hne
   have ht: ∀ x∈l.take 4,SpLn x.2∧0≤x.1∧x.1<65536:=fun x hx=>h x (List.mem_of_mem_take hx)
   have hlp:=lastP_le (l:=l.take 4) h0 fun x hx=>(ht x hx).2
   obtain ⟨g1,g2⟩:=encGo_lt f (lastP last (l.take 4)) (l.drop 4) hlp fun x hx=>h x (List.mem_of_mem_drop hx)
   have hrl:=runB_len (l.take 4) last h0.1 ht
   have hr:=runB_lt (l.take 4) last h0.1 ht
   have hpos:0<l.length:=List.length_pos_iff.2 hne
   rw [List.length_take] at hrl
   have n1:=numB_len9 (lastP last (l.take 4)-last-1).toNat (by omega)
   have n2:=numB_len9 (runB last (l.take 4)).length (by omega)
   refine ⟨fun b hb=>?_,?_⟩
   ·rcases List.mem_append.1 hb with hb | hb
    ·rcases List.mem_append.1 hb with hb | hb
     ·exact numB_lt (by omega) b hb
     ·unfold txtB at hb
      rcases List.mem_append.1 hb with hb | hb
      ·exact numB_lt (by omega) b hb
      ·exact hr b hb
    ·exact g1 b hb
   ·unfold txtB
    simp only [List.length_append,List.length_drop] at g2 ⊢
    omega
theorem encB_lt {l:List Post} (h:chkB l=true) (hl:l.length≤65536):(∀ b∈encB l,b<256)∧(encB l).length≤2518*l.length+9:=by
 have ha: ∀ x∈l,SpLn x.2∧0≤x.1∧x.1<65536:=fun x hx=>fits_ln (chkGo_all l none h x hx).1
 obtain ⟨g1,g2⟩:=encGo_lt l.length (-1) l (by omega) ha
 have n1:=numB_len9 l.length (by omega)
 unfold encB
 refine ⟨fun b hb=>?_,by rw [List.length_append];omega⟩
 rcases List.mem_append.1 hb with hb | hb
 ·exact numB_lt (by omega) b hb
 ·exact g1 b hb
theorem spanGo_ok {s:List Nat}: ∀ (f a:Nat) (b:Bool) (l:List (Nat × Nat)),a≤s.length→SpOk a b l→ ∀ x∈spanGo f s a b l,x.2≤s.length
 | 0,a,_,l,ha,h=>fun x hx=>by have:=h.le x hx;omega
 | f+1,a,b,l,ha,h=>by
  rw [spanGo]
  split
  ·rename_i hlt
   have:=nextU_pos hlt
   exact spanGo_ok f _ _ _ (by omega) (h.step hlt)
  ·exact fun x hx=>by have:=h.le x hx;omega
theorem spans_le (s:List Nat): ∀ x∈spansU s,x.2≤s.length:=spanGo_ok _ _ _ _ (Nat.zero_le _) ⟨fun x hx=>(List.not_mem_nil hx).elim,Nat.le_refl _,fun q=>by cases q⟩
theorem tokW_word {s:List Nat}: ∀ {l:List (Nat × Nat)} {i:Nat}, ∀ x∈tokW s l i, ∃ y∈l,x.1=wordS s y∧x.1.length≤20
 | [],_=>fun x hx=>(List.not_mem_nil hx).elim
 | y::l,i=>fun x hx=>by
  simp only [tokW] at hx
  rcases List.mem_append.1 hx with hx | hx
  ·split at hx
   ·rename_i c
    rw [List.mem_singleton] at hx
    exact ⟨y,List.mem_cons_self ..,by rw [hx],by rw [hx];exact c.2⟩
   ·exact (List.not_mem_nil hx).elim
  ·obtain ⟨z,hz,e⟩:=tokW_word x hx
   exact ⟨z,List.mem_cons_of_mem _ hz,e⟩
theorem textW_word: ∀ {l:List (List Nat × Nat)}, ∀ x∈textW l, ∃ y∈l,x.1=stemU y.1
 | []=>fun x hx=>(List.not_mem_nil hx).elim
 | y::l=>fun x hx=>by
  simp only [textW] at hx
  rcases List.mem_append.1 hx with hx | hx
  ·split at hx
   ·exact (List.not_mem_nil hx).elim
   ·rw [List.mem_singleton] at hx
    exact ⟨y,List.mem_cons_self ..,by rw [hx]⟩
  ·obtain ⟨z,hz,e⟩:=textW_word x hx
   exact ⟨z,List.mem_cons_of_mem _ hz,e⟩
def WordOk (w:List Nat):Prop:=0<w.length∧w.length≤23∧ ∀ b∈w,b<256
theorem text_word {s:List Nat} (hs: ∀ b∈s,b<256): ∀ x∈textU s,WordOk x.1:=fun x hx=>by
 obtain ⟨y,hy,e⟩:=textW_word x hx
 obtain ⟨z,hz,e2,h20⟩:=tokW_word y hy
 have h1:0<y.1.length:=by rw [e2];exact word_pos (spans_lt s z hz) (spans_le s z hz)
 have h2: ∀ b∈y.1,b<256:=by
  rw [e2]
  exact foldU_lt fun b hb=>hs b (List.mem_of_mem_drop (List.mem_of_mem_take hb))
 rw [e]
 exact ⟨stem_pos h1,Nat.le_trans (stemG_len 0 y.1) (by omega),stemG_lt 0 y.1 h2⟩
theorem toks_src {f:Int} {k:List Nat}: ∀ (l:List (List Nat × Nat)) (T:List Nat→List (Int × List Int)),l.foldl (addTok f) T k≠[]→T k≠[]∨ ∃ x∈l,x.1=k
 | [],T,h=> .inl h
 | x::l,T,h=>by
  rw [List.foldl_cons] at h
  rcases toks_src l _ h with g | ⟨y,hy,e⟩
  ·by_cases hk:k=x.1
   ·exact .inr ⟨x,List.mem_cons_self ..,hk.symm⟩
   ·unfold addTok at g
    rw [updF_ne _ _ hk] at g
    exact .inl g
  ·exact .inr ⟨y,List.mem_cons_of_mem _ hy,e⟩
theorem docGo_src {k:List Nat}: ∀ (l:List (List Nat)) (f:Int) (T:List Nat→List (Int × List Int)),docGo f l T k≠[]→T k≠[]∨ ∃ s∈l, ∃ x∈textU s,x.1=k
 | [],_,T,h=> .inl h
 | s::l,f,T,h=>by
  simp only [docGo] at h
  rcases docGo_src l (f+1) _ h with g | ⟨u,hu,r⟩
  ·rcases toks_src (textU s) T g with g | ⟨x,hx,e⟩
   ·exact .inl g
   ·exact .inr ⟨s,List.mem_cons_self ..,x,hx,e⟩
  ·exact .inr ⟨u,List.mem_cons_of_mem _ hu,r⟩
theorem docT_word {d:DocP} {k:List Nat} (hb: ∀ s∈d.ts, ∀ b∈s,b<256) (h:docT d.ts k≠[]):WordOk k:=by
 rcases docGo_src d.ts 1 _ h with g | ⟨s,hs,x,hx,e⟩
 ·exact absurd rfl g
 ·rw [←e]
  exact text_word (hb s hs) x hx
theorem grpB_len (l:List Term):(grpB l).length≤l.length:=by
 refine snoc_ind (P:=fun l=>(grpB l).length≤l.length) (Nat.le_refl _) (fun l a ih=>?_) l
 rw [grpB_snoc,List.length_append,List.length_singleton]
 unfold addG
 split
 ·split
  ·rw [List.length_append,List.length_dropLast,List.length_singleton];omega
  ·rw [List.length_append,List.length_singleton];omega
 ·rw [List.length_append,List.length_singleton];omega
theorem AllOf.word {ds:List DocP} {Lp:List (List Term)} {ps:List PEnt} (h:AllOf ds Lp ps) (hb: ∀ d∈ds, ∀ s∈d.ts, ∀ b∈s,b<256): ∀ t∈tsOf ps,WordOk t.1:=fun t ht=>by
 obtain ⟨a,ha,e⟩:=(h.tsi.src t ht).1
 obtain ⟨y,hy,rfl⟩:=List.mem_map.1 ha
 obtain ⟨j,hj,_,h1,_⟩:=h.el y hy
 rw [←e]
 exact docT_word (hb _ (List.getElem_mem hj)) h1
theorem AllOf.lens {ds:List DocP} {Lp:List (List Term)} {ps:List PEnt} (h:AllOf ds Lp ps):ps.length≤240*ds.length∧sumP (ps.map (·.1))=ps.length:=by
 have hall: ∀ l∈Lp,l.length≤240∧sumP l=l.length:=fun l hl=>by
  obtain ⟨j,hj,rfl⟩:=List.getElem_of_mem hl
  exact (h.doc j hj (by rw [←h.len];exact hj)).len
 have hf:=fromP_len Lp 0 hall
 have e1:ps.length=(fromP 0 Lp).length:=h.pm.length_eq
 have e2:sumP (ps.map (·.1))=sumP ((fromP 0 Lp).map (·.1)):=by
  unfold sumP
  exact ((h.pm.map (·.1)).map _).sum_nat
 rw [e1,e2, ←h.len]
 exact hf
theorem AllOf.layOk {ds:List DocP} {Lp:List (List Term)} {ps:List PEnt} (h:AllOf ds Lp ps) (hb: ∀ d∈ds, ∀ s∈d.ts, ∀ b∈s,b<256) (hn:ds.length≤68):LayOk (tsOf ps):=by
 have hl:=h.lens
 have ht:(tsOf ps).length≤16384:=by
  have:=grpB_len (ps.map (·.1))
  rw [List.length_map] at this
  unfold tsOf
  omega
 have hc: ∀ t∈tsOf ps,chkB t.2=true∧PoLn t.2:=fun t ht=>by
  have hs:=sumP_mem ht
  rw [tsOf,sumP_grp,hl.2] at hs
  have hck:=h.chk (by omega) ht
  refine ⟨hck,by omega,fun x hx=>?_⟩
  obtain ⟨g,_⟩:=fits_ln (chkGo_all t.2 none hck x hx).1
  exact ⟨by have:=g.1;omega,fun y hy=>by have:=(g.2 y hy).2.1;omega⟩
 refine ⟨hc,fun t ht=>?_,?_,ht⟩
 ·have hs:=sumP_mem ht
  rw [tsOf,sumP_grp,hl.2] at hs
  exact (encB_lt (hc t ht).1 (by omega)).1
 ·refine gdW_of _ [] (fun w hw=>?_) (List.pairwise_map.2 h.tsi.pw)
  obtain ⟨t,ht,rfl⟩:=List.mem_map.1 hw
  obtain ⟨w1,w2,w3⟩:=h.word hb t ht
  refine ⟨?_,by omega,w3⟩
  cases e:t.1 with
  | nil=>rw [e] at w1;cases w1
  | cons a r=>exact List.nil_lt_cons _ _
end
section
variable {H:Hp} {N:Nat}
theorem SegR.stepG {G:Nat→Prop} {p q c:Nat} {s:Seg} {m:Nat→Bool} {H1:Hp} (h:SegR H p q c s m) (hO:Ok H) (st:Stp G H H1) (hq: ¬ G q) (hc: ¬ G c):SegR H1 p q c s m:=by
 obtain ⟨vi,w,vl,ws,h1,h2,h3,h4,h5⟩:=h
 exact ⟨vi,w,vl,ws,h1.mono st.mo,h2.mono st.mo,h3.mono st.mo,h4.mono st.mo,h5.step hO st hq hc⟩
theorem SegR.lt {p q c:Nat} {s:Seg} {m:Nat→Bool} (h:SegR H p q c s m) (hO:Ok H):p<H.nx∧q<H.nx∧c<H.nx:=by
 obtain ⟨vi,w,vl,ws,⟨es,h1⟩,h2,h3,h4,h5⟩:=h
 exact ⟨hO.lt h1,h5.b_lt hO,h5.c_lt⟩
theorem riseS_srt: ∀ {l:List (List Nat)} {p:Option (List Nat)},riseS p l=true→l.Pairwise (· < ·)∧ ∀ s∈l,s≠[]∧s.length≤12∧ ∀ q,p=some q→q<s
 | [],_,_=>⟨List.Pairwise.nil,fun s hs=>(List.not_mem_nil hs).elim⟩
 | s::l,p,h=>by
  rw [riseS_cons] at h
  split at h
  ·cases h
  ·rename_i hb
   obtain ⟨h1,h2⟩:=riseS_srt h
   have hb:badS p s=false:=by simpa using hb
   unfold badS at hb
   rw [Bool.or_eq_false_iff,Bool.or_eq_false_iff] at hb
   obtain ⟨⟨b1,b2⟩,b3⟩:=hb
   rw [eqL_dec,decide_eq_false_iff_not] at b1
   have b2: ¬ 12<s.length:=of_decide_eq_false b2
   have hp: ∀ q,p=some q→q<s:=fun q hq=>by
    rw [hq] at b3
    simp only [behS,Bool.or_eq_false_iff] at b3
    obtain ⟨c1,c2⟩:=b3
    rw [ltL_eq,decide_eq_false_iff_not] at c1
    rw [eqL_dec,decide_eq_false_iff_not] at c2
    rcases lt_tri q s with g | g | g
    ·exact g
    ·exact absurd g.symm c2
    ·exact absurd g c1
   refine ⟨List.pairwise_cons.2 ⟨fun t ht=>(h2 t ht).2.2 s rfl,h1⟩,fun t ht=>?_⟩
   rcases List.mem_cons.1 ht with rfl | ht
   ·exact ⟨b1,by omega,hp⟩
   ·have:=h2 t ht
    exact ⟨this.1,this.2.1,fun q hq=>List.lt_trans (hp q hq) (this.2.2 s rfl)⟩
theorem rises_srt {l:List (List Nat)} (h:risesB l=true):SrtS l∧ ∀ s∈l,s≠[]∧s.length≤12:=by
 unfold risesB at h
 rw [Bool.and_eq_true] at h
 obtain ⟨h1,h2⟩:=riseS_srt h.1
 exact ⟨SrtS.pw.2 h1,fun s hs=>⟨(h2 s hs).1,(h2 s hs).2.1⟩⟩
theorem srt_inj {l:List (List Nat)} (h:SrtS l) {i j:Nat} (hi:i<l.length) (hj:j<l.length) (e:l[i]=l[j]):i=j:=by
 rcases Nat.lt_trichotomy i j with g | g | g
 ·have:=h i j hi hj g
  rw [e] at this
  exact absurd this (List.lt_irrefl _)
 ·exact g
 ·have:=h j i hj hi g
  rw [e] at this
  exact absurd this (List.lt_irrefl _)
theorem sfind_ok {p q c:Nat} {s:Seg} {m:Nat→Bool} (h:SegR H p q c s m) (hr:SrtS s.ids) (hl:s.ids.length≤65536) {id:List Nat} {Q:AV→Hp→Prop}
  (k1: ∀ i (hi:i<s.ids.length),s.ids[i]=id→m i=true→Q (.tup [.int .i64 (.ofNat i), .bool true]) H)
  (k0:(∀ i (hi:i<s.ids.length),s.ids[i]=id→m i=false)→Q (.tup [.int .i64 0, .bool false]) H):Cal env 15 [.ptr p 0, .str id] H Q:=by
 refine s15 ?_
 unfold S15
 refine smade_ok h ⟨_,rfl,IfB.intro (fun q=>by cases q) (fun _=>?_)⟩
 obtain ⟨vi,w,vl,ws,h1,h2,h3,h4,h5⟩:=h
 refine ⟨vi,h1.ld 0 rfl h2.sc,bsearchS_ok h2 hr (by omega) fun i hi lo hi2=>⟨_,_,rfl,?_⟩⟩
 refine ⟨fun b H'=>b= !(decide (∃ h:i<s.ids.length,s.ids[i]=id)&&m i)∧H=H',IfB.intro (fun g=>?_) (fun g=>?_),?_⟩
 ·rw [Bool.not_not,decide_eq_true_eq] at g
  refine ⟨_,h1.ld 3 rfl rfl,has_ok h5 ⟨_,rfl,?_,rfl⟩⟩
  rw [decide_eq_true g,Bool.true_and,decide_eq_true (show (0:Int)≤Int.ofNat i from Int.natCast_nonneg i),Bool.true_and]
  rfl
 ·rw [Bool.not_not,decide_eq_false_iff_not] at g
  refine ⟨?_,rfl⟩
  rw [decide_eq_false g]
  rfl
 rintro _ J _ ⟨rfl,rfl⟩
 refine IfB.intro (fun g=>?_) (fun g=>?_)
 ·rw [Bool.not_eq_true',Bool.and_eq_false_iff,decide_eq_false_iff_not] at g
  refine k0 fun j hj e=>?_
  have:j=i:=by
   rcases Nat.lt_trichotomy j i with g1 | g1 | g1
   ·have:=lo j hj g1
    rw [e] at this
    exact absurd this (List.lt_irrefl _)
   ·exact g1
   ·have h1:=hi2 i (by omega) (Nat.le_refl _)
    have h2:=hr i j (by omega) hj g1
    rw [e] at h2
    exact absurd h2 h1
  subst this
  rcases g with g | g
  ·exact absurd ⟨hj,e⟩ g
  ·exact g
 ·rw [Bool.not_eq_false',Bool.and_eq_true,decide_eq_true_eq] at g
  obtain ⟨⟨hi,e⟩,g2⟩:=g
  exact k1 i hi e g2
theorem sid_ok {p q c:Nat} {s:Seg} {m:Nat→Bool} (h:SegR H p q c s m) (hl:s.ids.length≤65536) {i:Int} {Q:AV→Hp→Prop}
  (k1: ∀ (j:Nat) (hj:j<s.ids.length),i= .ofNat j→Q (.tup [.str s.ids[j], .bool true]) H)
  (k0: ¬ (0≤i∧i<s.ids.length)→Q (.tup [.str [], .bool false]) H):Cal env 17 [.ptr p 0, .int .i64 i] H Q:=by
 refine s17 ?_
 unfold S17
 refine ⟨fun b H'=>b= !(decide (0≤i∧i<s.ids.length))∧H=H',IfB.intro (fun g=>?_) (fun g=>?_),?_⟩
 ·rw [ltI_eq,Bool.not_eq_true',decide_eq_false_iff_not] at g
  refine ssize_ok h ⟨_,rfl,?_,rfl⟩
  rw [ltI_eq]
  congr 1
  exact decide_eq_decide.2 ⟨fun q=>⟨by omega,q⟩,fun q=>q.2⟩
 ·rw [ltI_eq,Bool.not_eq_false',decide_eq_true_eq] at g
  refine ⟨?_,rfl⟩
  rw [decide_eq_false (by omega)]
  rfl
 rintro _ J _ ⟨rfl,rfl⟩
 obtain ⟨vi,w,vl,ws,h1,h2,h3,h4,h5⟩:=h
 refine IfB.intro (fun g=>?_) (fun g=>?_)
 ·rw [Bool.not_eq_true',decide_eq_false_iff_not] at g
  exact k0 g
 ·rw [Bool.not_eq_false',decide_eq_true_eq] at g
  obtain ⟨j,rfl⟩: ∃ j:Nat,i= .ofNat j:=⟨i.toNat,by simp only [Int.ofNat_eq_natCast];omega⟩
  have hj:j<s.ids.length:=by have:=g.2;simp only [Int.ofNat_eq_natCast] at this;omega
  obtain ⟨b,o,y1,y2⟩:=sc_elem h2.sl hj
  exact ⟨vi,h1.ld 0 rfl h2.sc,b,o,y1,_,y2,k1 j hj rfl⟩
theorem skill_ok {p q c:Nat} {s:Seg} {m:Nat→Bool} (h:SegR H p q c s m) (hr:SrtS s.ids) (hl:s.ids.length≤65536) (hn:s.n=s.ids.length) {id:List Nat} {Q:AV→Hp→Prop}
  (k1: ∀ i (hi:i<s.ids.length) H',s.ids[i]=id→m i=true→SegR H' p q c s (fun j=> !(decide (j=i))&&m j)→Stp (fun j=>j=c) H H'→Q (.bool true) H')
  (k0:(∀ i (hi:i<s.ids.length),s.ids[i]=id→m i=false)→Q (.bool false) H):Cal env 56 [.ptr p 0, .str id] H Q:=by
 refine s56 ?_
 unfold S56
 refine sfind_ok h hr hl (fun i hi e hm=>⟨_,_,rfl,?_⟩) (fun g=>⟨_,_,rfl,?_⟩)
 ·refine ⟨fun b H'=>b=true∧SegR H' p q c s (fun j=> !(decide (j=i))&&m j)∧Stp (fun j=>j=c) H H',?_,?_⟩
  ·refine IfB.intro (fun _=>?_) (fun q=>by cases q)
   obtain ⟨vi,w,vl,ws,h1,h2,h3,h4,h5⟩:=h
   refine ⟨_,h1.ld 3 rfl rfl,cut_ok h5 (fun j ws' H' ej hj h5' st=>⟨_,rfl,rfl,?_,st⟩) (fun hx _=>absurd ⟨Int.natCast_nonneg i,?_⟩ hx)⟩
   ·obtain rfl:=Int.ofNat.inj ej
    exact ⟨vi,w,vl,ws',h1.mono st.mo,h2.mono st.mo,h3.mono st.mo,h4.mono st.mo,h5'⟩
   ·rw [hn]
    exact Int.ofNat_lt.2 hi
  rintro H1 J _ ⟨rfl,g1,g2⟩
  exact k1 i hi H1 e hm g1 g2
 ·refine ⟨fun b H'=>b=false∧H=H',IfB.intro (fun q=>by cases q) (fun _=>⟨rfl,rfl⟩),?_⟩
  rintro _ J _ ⟨rfl,rfl⟩
  exact k0 g
end
section
variable {H:Hp} {N:Nat}
structure RsAt (H:Hp) (N p e:Nat) (va vl:AV) (ds:List DocP) (m:Nat→Bool):Prop where
 bx:Bk H p [va,vl] e
 hi:esU<e
 lo:N≤p
 sl:Sl H 5 va (ds.map dc) true
 ow:Ow H N 1 vl ((List.range ds.length).map fun i=>[AV.bool (m i)])
theorem RsAt.keep {p e:Nat} {va vl:AV} {ds:List DocP} {m:Nat→Bool} {G:Nat→Prop} {H1:Hp} (h:RsAt H N p e va vl ds m) (hO:Ok H) (s:Stp G H H1) (hp: ¬ G p) (hv: ∀ i,blkOf vl=some i→ ¬ G i):RsAt H1 N p e va vl ds m:=
 ⟨h.bx.step hO s hp,h.hi,h.lo,h.sl.stay s,h.ow.step s hv⟩
theorem RsAt.quiet {p e:Nat} {va vl:AV} {ds:List DocP} {m:Nat→Bool} {H1:Hp} (h:RsAt H N p e va vl ds m) (hO:Ok H) (s:Stp noB H H1):RsAt H1 N p e va vl ds m:=h.keep hO s id fun _ _ q=>q
theorem doc_elem {va:AV} {ds:List DocP} {fz:Bool} (h:Sl H 5 va (ds.map dc) fz) {j:Nat} (hj:j<ds.length): ∃ b o,ixF 5 va (.ofNat j)=some (b,o)∧H.load b o 5=some (dc ds[j])∧H.load b (o+0) 1=some [.str ds[j].id]:=by
 obtain ⟨b,o,y1,y2,y3⟩:=h.elem (j:=j) (by rw [List.length_map];exact hj)
 have y4:=y3 0 1 (by omega)
 rw [List.getElem_map] at y2 y4
 exact ⟨b,o,y1,y2,y4⟩
theorem rbuild_ok {va:AV} {ds:List DocP} (ha:Sl H 5 va (ds.map dc) true) (hn:ds.length≤16777216) {Q:AV→Hp→Prop}
  (k0:risesB (ds.map (·.id))=false→ ∀ H',Stp noB H H'→Q (.tup [.nilp, .int .i64 1]) H')
  (k1:risesB (ds.map (·.id))=true→ ∀ p e vl H',RsAt H' H.nx p e va vl ds (fun i=>decide (i<(ds.map (·.id)).length))→Stp noB H H'→Q (.tup [.ptr p 0, .int .i64 0]) H'):Cal env 53 [va] H Q:=by
 refine Cal.start fun hO=>s53 ?_
 unfold S53
 have sva:va.sc=true:=ha.sc
 refine Chk.intro sva (Chk.intro (by simp [scAll,sva];rfl) (New.stp hO fun H1 b1 s1=>?_))
 have i1:=s1.ok.lt b1
 obtain ⟨e,he,bx⟩: ∃ e,esU<e∧Bk H1 H.nx [va, .nils] e:=⟨_,by decide,b1⟩
 clear b1
 have hlen:lenS va=some ds.length:=by rw [ha.len,List.length_map]
 obtain ⟨ids,hids⟩: ∃ ids,ds.map (·.id)=ids:=⟨_,rfl⟩
 have hil:ids.length=ds.length:=by rw [←hids,List.length_map]
 have hia: ∀ j (hj:j<ds.length),ids[j]'(by omega)=ds[j].id:=fun j hj=>by simp only [←hids,List.getElem_map]
 rw [hids] at k0 k1
 refine ⟨ds.length,hlen,fun m n H'=> ∃ i vl,n= .ofNat i∧m=ds.length-i∧i≤ds.length∧Bk H' H.nx [va,vl] e∧Ow H' H.nx 1 vl (List.replicate i [AV.bool true])∧riseS (prevS ids i) (ids.drop i)=riseS none ids∧(0<i→ds.length≤4096)∧Stp noB H H',
  ⟨_,0, .nils,rfl,rfl,Nat.zero_le _,bx,Ow.nil,rfl,fun q=>absurd q (Nat.lt_irrefl _),s1⟩,?_⟩
 clear bx
 rintro _ H5 J _ ⟨i,vl,rfl,rfl,hi,bx,ow,he2,h4,st⟩
 have n5:=st.nx
 refine IfB.intro (fun g=>?_) (fun g=>?_)
 ·rw [ltI_nat] at g
  have g:i<ds.length:=of_decide_eq_true g
  have gi:i<ids.length:=by omega
  rw [show wrapF .i64 (Int.ofNat i+1)= .ofNat (i+1) from wrap_i64 (x:=i+1) (by omega)]
  have hsl5:=ha.stay st
  obtain ⟨p9,o10,y1,y2,_⟩:=doc_elem hsl5 g
  have hd:=hia i g
  obtain ⟨d,hde⟩: ∃ d,ds[i]=d:=⟨_,rfl⟩
  rw [hde] at y2 hd
  rw [List.drop_eq_getElem_cons gi,riseS_cons] at he2
  have hnext:prevS ids (i+1)=some ids[i]:=by
   unfold prevS
   rw [if_neg (by omega),Nat.add_sub_cancel,List.getElem?_eq_getElem gi]
  rw [←hnext] at he2
  have hbad:badS (prevS ids i) ids[i]=true→ ∀ H',Stp noB H H'→Q (.tup [.nilp, .int .i64 1]) H':=fun q=>by
   rw [if_pos q] at he2
   exact k0 (by unfold risesB;rw [←he2,Bool.false_and])
  have hbig:4096<ds.length→ ∀ H',Stp noB H H'→Q (.tup [.nilp, .int .i64 1]) H':=fun q=>
   k0 (by unfold risesB;rw [decide_eq_false (by omega),Bool.and_false])
  refine ⟨p9,o10,y1,d.id,d.t0,d.t1,d.t2,d.t3,y2,New.stp st.ok fun H17 b17 s17=>?_⟩
  obtain ⟨H18,e18,b18,s18⟩:=b17.whole s17.ok (ds:=dc d) rfl rfl
  have t18:Stp noB H5 H18:=s17.then s18 fun j hj=>by omega
  refine ⟨H18,e18,fun H'=>badS (prevS ids i) ids[i]=false∧ds.length≤4096∧Stp noB H5 H',?_,?_⟩
  ·refine letUp t18.ok (by omega) fun H20 s20 nx20 get20=>?_
   have t20:=t18.trans s20
   have b20:=b18.step t18.ok s20 id
   have st20:=st.trans t20
   have eqd:eqL ids[i] []=eqL d.id []:=by rw [hd]
   refine ⟨_,b20.ld 0 rfl rfl,IfB.intro (fun c1=>?_) (fun c1=>hbad (by unfold badS;rw [hd,show eqL d.id []=true by simpa using c1];rfl) _ st20)⟩
   have c1:eqL d.id []=false:=by simpa using c1
   refine ⟨_,b20.ld 0 rfl rfl,IfB.intro (fun c2=>?_) (fun c2=>hbad (by
    unfold badS
    rw [hd,show (decide (12<d.id.length))=true by rw [Bool.not_eq_false'] at c2;exact (ltI_nat (a:=12)).symm.trans c2];simp) _ st20)⟩
   have c2:decide (12<d.id.length)=false:=by rw [Bool.not_eq_true'] at c2;exact (ltI_nat (a:=12)).symm.trans c2
   have fin:behS (prevS ids i) ids[i]=false→IfB (ltI 4096 (Int.ofNat ds.length)) (Q (.tup [.nilp, .int .i64 1]) H20) (badS (prevS ids i) ids[i]=false∧ds.length≤4096∧Stp noB H5 H20):=fun c3=>by
    rw [show (4096:Int)= .ofNat 4096 from rfl,ltI_nat]
    refine IfB.intro (fun c4=>hbig (of_decide_eq_true c4) _ st20) (fun c4=>⟨?_,by have:=of_decide_eq_false c4;omega,t20⟩)
    unfold badS
    rw [c3,hd,c1,c2]
    rfl
   refine IfB.intro (fun q3=>?_) (fun q3=>?_)
   ·have q3:0<i:=of_decide_eq_true ((ltI_nat (a:=0) (b:=i)).symm.trans q3)
    have hp:prevS ids i=some (ids[i-1]'(by omega)):=by
     unfold prevS
     rw [if_neg (by omega),List.getElem?_eq_getElem (by omega)]
    obtain ⟨b',o',f1,_,f3⟩:=doc_elem (hsl5.stay t20) (j:=i-1) (by omega)
    rw [←hia (i-1) (by omega)] at f3
    rw [show wrapF .i64 (Int.ofNat i-1)= .ofNat (i-1) from subN (a:=i) (b:=1) q3 (by omega)]
    refine ⟨_,b20.ld 0 rfl rfl,b',o',f1,_,f3,IfB.intro (fun c3=>⟨_,hlen,fin ?_⟩) (fun c3=>hbad ?_ _ st20)⟩
    ·rw [hp,hd]
     simpa [behS] using c3
    ·unfold badS
     rw [hp,hd,show behS (some (ids[i-1]'(by omega))) d.id=true by rw [Bool.not_eq_false'] at c3;exact c3]
     simp
   ·have q3: ¬ 0<i:=of_decide_eq_false ((ltI_nat (a:=0) (b:=i)).symm.trans q3)
    refine ⟨_,hlen,fin ?_⟩
    unfold prevS
    rw [if_pos (by omega)]
    rfl
  rintro H29 J30 ⟨r1,r2,s29⟩
  rw [if_neg (by rw [r1];simp)] at he2
  have bx29:=bx.step st.ok s29 id
  have ow29:=ow.quiet s29
  refine ⟨vl,bx29.ld 1 rfl ow.sl.sc,ow29.appE s29.ok (by have:=s29.nx;omega) (c:=[.bool true]) rfl rfl (by simp only [List.length_replicate,room];omega) (by decide) fun v34 H35 o35 s35 f35=>Chk.intro o35.sl.sc ?_⟩
  have np: ∀ j,blkOf vl=some j→ ¬ j=H.nx:=ow.ne_bk1 bx he
  have bx35:=bx29.step s29.ok s35 fun q=>np _ q rfl
  obtain ⟨H36,e36,b36,s36⟩:=bx35.stp s35.ok (o:=1) (vs:=[v34]) rfl (by simp [scAll,o35.sl.sc])
  have np35: ∀ j,blkOf v34=some j→ ¬ j=H.nx:=o35.ne_bk1 bx35 he
  refine ⟨H36,e36,_,by omega,i+1,v34,rfl,rfl,by omega,b36,?_,he2,fun _=>r2,((st.trans s29).then s35 fun j hj=>ow.isB_low j hj).then s36 fun j hj=>by omega⟩
  rw [List.replicate_succ']
  exact o35.step s36 np35
 ·rw [ltI_nat] at g
  have g: ¬ i<ds.length:=of_decide_eq_false g
  obtain rfl:i=ds.length:=by omega
  rw [List.drop_of_length_le (by omega),riseS] at he2
  refine k1 ?_ H.nx e vl H5 ⟨bx,he,Nat.le_refl _,ha.stay st,?_⟩ st
  ·unfold risesB
   rw [←he2,Bool.true_and,decide_eq_true_eq,hil]
   by_cases q:0<ds.length
   ·exact h4 q
   ·omega
  ·have:((List.range ds.length).map fun i=>[AV.bool (decide (i<ids.length))])=List.replicate ds.length [AV.bool true]:=by
    refine List.eq_replicate_iff.2 ⟨by simp,fun b hb=>?_⟩
    obtain ⟨j,hj,rfl⟩:=List.mem_map.1 hb
    rw [decide_eq_true (by have:=List.mem_range.1 hj;omega)]
   rw [this]
   exact ow
theorem RsAt.bit {p e:Nat} {va vl:AV} {ds:List DocP} {m:Nat→Bool} (h:RsAt H N p e va vl ds m) {j:Nat} (hj:j<ds.length): ∃ b o,ixF 1 vl (.ofNat j)=some (b,o)∧H.load b o 1=some [.bool (m j)]:=by
 obtain ⟨b,o,y1,y2,_⟩:=h.ow.sl.elem (j:=j) (by simpa using hj)
 rw [List.getElem_map,List.getElem_range] at y2
 exact ⟨b,o,y1,y2⟩
theorem rfind_ok {p e:Nat} {va vl:AV} {ds:List DocP} {m:Nat→Bool} (h:RsAt H N p e va vl ds m) (hn:ds.length≤16777216) {id:List Nat} {Q:AV→Hp→Prop}
  (k1: ∀ i (hi:i<ds.length) H',ds[i].id=id→m i=true→Stp noB H H'→Q (.tup [.int .i64 (.ofNat i), .bool true]) H')
  (k0:(∀ i (hi:i<ds.length),ds[i].id=id→m i=false)→ ∀ H',Stp noB H H'→Q (.tup [.int .i64 0, .bool false]) H'):Cal env 16 [.ptr p 0, .str id] H Q:=by
 refine Cal.start fun hO=>s16 ?_
 unfold S16
 refine nilM_i (ptrM_i ⟨va,h.bx.ld 0 rfl h.sl.sc,ds.length,by rw [h.sl.len,List.length_map],?_⟩)
 refine ⟨fun mm n H'=> ∃ i,n= .ofNat i∧mm=ds.length-i∧i≤ds.length∧(∀ j (hj:j<ds.length),j<i→ds[j].id=id→m j=false)∧Stp noB H H',⟨_,0,rfl,rfl,Nat.zero_le _,fun j hj q=>absurd q (Nat.not_lt_zero _),Stp.refl hO⟩,?_⟩
 rintro _ H7 J _ ⟨i,rfl,rfl,hi,hall,st⟩
 refine IfB.intro (fun g=>?_) (fun g=>?_)
 ·rw [ltI_nat] at g
  have g:i<ds.length:=of_decide_eq_true g
  rw [show wrapF .i64 (Int.ofNat i+1)= .ofNat (i+1) from wrap_i64 (x:=i+1) (by omega)]
  have h7:=h.quiet hO st
  obtain ⟨p9,o10,y1,y2,_⟩:=doc_elem h7.sl g
  obtain ⟨d,hde⟩: ∃ d,ds[i]=d:=⟨_,rfl⟩
  rw [hde] at y2
  refine ⟨p9,o10,y1,d.id,d.t0,d.t1,d.t2,d.t3,y2,New.stp st.ok fun H17 b17 s17=>?_⟩
  obtain ⟨H18,e18,b18,s18⟩:=b17.whole s17.ok (ds:=dc d) rfl rfl
  have t18:Stp noB H7 H18:=s17.then s18 fun j hj=>by omega
  have st18:=st.trans t18
  have h18:=h7.quiet st.ok t18
  refine ⟨H18,e18,d.id,b18.ld 0 rfl rfl,fun b H'=>b=(eqL d.id id&&m i)∧H18=H',IfB.intro (fun c=>?_) (fun c=>⟨by rw [c];rfl,rfl⟩),?_⟩
  ·obtain ⟨b27,o28,z1,z2⟩:=h18.bit g
   exact nilM_i (ptrM_i ⟨vl,h18.bx.ld 1 rfl h18.ow.sl.sc,b27,o28,z1,m i,z2,by rw [c];rfl,rfl⟩)
  rintro _ J31 _ ⟨rfl,rfl⟩
  refine IfB.intro (fun c=>?_) (fun c=>⟨_,by omega,i+1,rfl,rfl,by omega,fun j hj hlt e=>?_,st18⟩)
  ·rw [Bool.and_eq_true,eqL_dec,decide_eq_true_eq] at c
   exact k1 i g H18 (by rw [hde];exact c.1) c.2 st18
  ·by_cases hji:j<i
   ·exact hall j hj hji e
   ·obtain rfl:j=i:=by omega
    rw [hde] at e
    rw [e,eqL_dec,decide_eq_true rfl,Bool.true_and] at c
    exact c
 ·rw [ltI_nat] at g
  have g: ¬ i<ds.length:=of_decide_eq_false g
  exact k0 (fun j hj e=>hall j hj (by omega) e) H7 st
theorem rkill_ok {p e:Nat} {va vl:AV} {ds:List DocP} {m:Nat→Bool} (h:RsAt H N p e va vl ds m) (hn:ds.length≤16777216) (hN:N≤H.nx) {id:List Nat} {Q:AV→Hp→Prop}
  (k1: ∀ i (hi:i<ds.length) H',ds[i].id=id→m i=true→RsAt H' N p e va vl ds (fun j=> !(decide (j=i))&&m j)→Stp (isB vl) H H'→Q (.bool true) H')
  (k0:(∀ i (hi:i<ds.length),ds[i].id=id→m i=false)→ ∀ H',Stp noB H H'→Q (.bool false) H'):Cal env 62 [.ptr p 0, .str id] H Q:=by
 refine Cal.start fun hO=>s62 ?_
 unfold S62
 refine rfind_ok h hn (fun i hi H1 e1 hm s1=>⟨_,_,rfl,IfB.intro (fun _=>?_) (fun q=>by cases q)⟩) (fun g H1 s1=>⟨_,_,rfl,IfB.intro (fun q=>by cases q) (fun _=>k0 g H1 s1)⟩)
 have h1:=h.quiet hO s1
 obtain ⟨b,o,y1,_,_,H10,e10,o10,s10⟩:=h1.ow.setS s1.ok (j:=i) (by simpa using hi) 0 (vs:=[AV.bool false]) (by simp) rfl
 have np: ∀ j,blkOf vl=some j→ ¬ j=p:=h1.ow.ne_bk1 h1.bx h1.hi
 refine nilM_i (ptrM_i ⟨vl,h1.bx.ld 1 rfl h1.ow.sl.sc,b,o,y1,H10,e10,?_⟩)
 refine k1 i hi H10 e1 hm ⟨h1.bx.step s1.ok s10 fun q=>np _ q rfl,h1.hi,h1.lo,h1.sl.stay s10,?_⟩ (s1.of.trans s10)
 have:((List.range ds.length).map fun j=>[AV.bool (!(decide (j=i))&&m j)])=((List.range ds.length).map fun j=>[AV.bool (m j)]).set i [AV.bool false]:=by
  refine List.ext_getElem (by simp) fun j hj1 hj2=>?_
  rw [List.getElem_set,List.getElem_map,List.getElem_range]
  by_cases q:i=j
  ·rw [if_pos q,decide_eq_true q.symm];rfl
  ·rw [if_neg q,List.getElem_map,List.getElem_range,decide_eq_false (Ne.symm q)];rfl
 rw [this]
 have e0: ∀ c:List AV,c.length=1→c.take 0++([AV.bool false]++c.drop (0+[AV.bool false].length))=[AV.bool false]:=fun c hc=>by
  match c,hc with
  | [a],_=>rfl
 rw [e0 _ (by rw [List.getElem_map];rfl)] at o10
 exact o10
def dAt (ds:List DocP) (i:Nat):DocP:=ds.getD i ⟨[],[],[],[],[]⟩
theorem dAt_at {ds:List DocP} {i:Nat} (h:i<ds.length):dAt ds i=ds[i]:=getDp_at h
def liveD (ds:List DocP) (m:Nat→Bool):List DocP:=(memL m ds.length).map (dAt ds)
theorem memL_no {m:Nat→Bool} {j:Nat} (h:m j=false):memL m (j+1)=memL m j:=memL_skip (Nat.le_succ _) fun q h1 h2=>by
 obtain rfl:q=j:=by omega
 exact h
theorem rthere_ok {p e:Nat} {va vl:AV} {ds:List DocP} {m:Nat→Bool} (h:RsAt H N p e va vl ds m) (hn:ds.length≤16777216) {Q:AV→Hp→Prop}
  (k: ∀ v H',Ow H' H.nx 5 v ((liveD ds m).map dc)→Stp noB H H'→Q v H'):Cal env 20 [.ptr p 0] H Q:=by
 refine Cal.start fun hO=>s20 ?_
 unfold S20
 refine nilM_i (ptrM_i ⟨va,h.bx.ld 0 rfl h.sl.sc,ds.length,by rw [h.sl.len,List.length_map],?_⟩)
 refine ⟨fun mm v n H'=> ∃ i,n= .ofNat i∧mm=ds.length-i∧i≤ds.length∧Ow H' H.nx 5 v (((memL m i).map (dAt ds)).map dc)∧Stp noB H H',⟨_,0,rfl,rfl,Nat.zero_le _,Ow.nil,Stp.refl hO⟩,?_⟩
 rintro _ H7 J v9 _ ⟨i,rfl,rfl,hi,ow,st⟩
 refine IfB.intro (fun g=>?_) (fun g=>?_)
 ·rw [ltI_nat] at g
  have g:i<ds.length:=of_decide_eq_true g
  rw [show wrapF .i64 (Int.ofNat i+1)= .ofNat (i+1) from wrap_i64 (x:=i+1) (by omega)]
  have h7:=h.quiet hO st
  obtain ⟨p9,o10,y1,y2,_⟩:=doc_elem h7.sl g
  obtain ⟨d,hde⟩: ∃ d,ds[i]=d:=⟨_,rfl⟩
  rw [hde] at y2
  refine ⟨p9,o10,y1,d.id,d.t0,d.t1,d.t2,d.t3,y2,New.stp st.ok fun H17 b17 s17=>?_⟩
  obtain ⟨H18,e18,b18,s18⟩:=b17.whole s17.ok (ds:=dc d) rfl rfl
  have t18:Stp noB H7 H18:=s17.then s18 fun j hj=>by omega
  have st18:=st.trans t18
  have h18:=h7.quiet st.ok t18
  obtain ⟨b27,o28,z1,z2⟩:=h18.bit g
  have n18:=st18.nx
  refine ⟨H18,e18,nilM_i (ptrM_i ⟨vl,h18.bx.ld 1 rfl h18.ow.sl.sc,b27,o28,z1,m i,z2,IfB.intro (fun c=>?_) (fun c=>?_)⟩)⟩
  ·refine ⟨d.id,d.t0,d.t1,d.t2,d.t3,b18.all (cs:=dc d) rfl,?_⟩
   have ml:=memL_len m i
   refine (ow.quiet t18).appE st18.ok n18 (c:=dc d) rfl rfl (by simp only [List.length_map,room];omega) (by decide) fun v36 H37 o37 s37 f37=>⟨_,by omega,i+1,rfl,rfl,by omega,?_,st18.then s37 fun j hj=>(ow.quiet t18).isB_low j hj⟩
   rw [memL_snoc c,List.map_append,List.map_append,List.map_singleton,List.map_singleton,dAt_at g,hde]
   exact o37
  ·exact ⟨_,by omega,i+1,rfl,rfl,by omega,by rw [memL_no c];exact ow.quiet t18,st18⟩
 ·rw [ltI_nat] at g
  have g: ¬ i<ds.length:=of_decide_eq_false g
  obtain rfl:i=ds.length:=by omega
  exact k v9 H7 ow st
theorem rset_ok {p e:Nat} {va vl:AV} {ds:List DocP} {m:Nat→Bool} (h:RsAt H N p e va vl ds m) (hn:ds.length≤16777216) {Q:AV→Hp→Prop}
  (k: ∀ v H',Ow H' H.nx 1 v ((memL m ds.length).map fun j=>i8 (.ofNat j))→Stp noB H H'→Q v H'):Cal env 24 [.ptr p 0] H Q:=by
 refine Cal.start fun hO=>s24 ?_
 unfold S24
 refine nilM_i (ptrM_i ⟨vl,h.bx.ld 1 rfl h.ow.sl.sc,ds.length,by rw [h.ow.sl.len,List.length_map,List.length_range],?_⟩)
 refine ⟨fun mm v n H'=> ∃ i,n= .ofNat i∧mm=ds.length-i∧i≤ds.length∧Ow H' H.nx 1 v ((memL m i).map fun j=>i8 (.ofNat j))∧Stp noB H H',⟨_,0,rfl,rfl,Nat.zero_le _,Ow.nil,Stp.refl hO⟩,?_⟩
 rintro _ H7 J v9 _ ⟨i,rfl,rfl,hi,ow,st⟩
 refine IfB.intro (fun g=>?_) (fun g=>?_)
 ·rw [ltI_nat] at g
  have g:i<ds.length:=of_decide_eq_true g
  rw [show wrapF .i64 (Int.ofNat i+1)= .ofNat (i+1) from wrap_i64 (x:=i+1) (by omega)]
  obtain ⟨b27,o28,z1,z2⟩:=(h.quiet hO st).bit g
  refine ⟨b27,o28,z1,m i,z2,IfB.intro (fun c=>?_) (fun c=>?_)⟩
  ·have ml:=memL_len m i
   refine ow.appE st.ok st.nx (c:=i8 (.ofNat i)) rfl rfl (by simp only [List.length_map,room];omega) (by decide) fun v36 H37 o37 s37 f37=>⟨_,by omega,i+1,rfl,rfl,by omega,?_,st.then s37 fun j hj=>ow.isB_low j hj⟩
   rw [memL_snoc c,List.map_append,List.map_singleton]
   exact o37
  ·exact ⟨_,by omega,i+1,rfl,rfl,by omega,by rw [memL_no c];exact ow,st⟩
 ·rw [ltI_nat] at g
  have g: ¬ i<ds.length:=of_decide_eq_false g
  obtain rfl:i=ds.length:=by omega
  exact k v9 H7 ow st
end
section
variable {H:Hp} {N:Nat}
def mn (s:List Nat):Nat:=min s.length 8192
def sumD (d:DocP):Nat:=mn d.id+(mn d.t0+mn d.t1+mn d.t2+mn d.t3)
def TxtOk (ds:List DocP):Prop:=(ds.map sumD).sum≤8192
theorem sum_mem {l:List Nat} {x:Nat} (h:x∈l):x≤l.sum:=by
 induction l with
 | nil=>cases h
 | cons a l ih=>
  rw [List.sum_cons]
  rcases List.mem_cons.1 h with rfl | h
  ·omega
  ·have:=ih h;omega
theorem TxtOk.el {ds:List DocP} (h:TxtOk ds) {d:DocP} (hd:d∈ds):sumD d≤8192:=Nat.le_trans (sum_mem (List.mem_map.2 ⟨d,hd,rfl⟩)) h
theorem TxtOk.len {ds:List DocP} (h:TxtOk ds) {d:DocP} (hd:d∈ds) (hi:d.id≠[]): ∀ s∈d.ts,s.length<8192:=fun s hs=>by
 have h1:=h.el hd
 have h2:=List.length_pos_iff.2 hi
 unfold sumD mn at h1
 simp only [DocP.ts,List.mem_cons,List.not_mem_nil,or_false] at hs
 rcases hs with rfl | rfl | rfl | rfl <;> omega
theorem mn_step (a:Nat) (s:List Nat) (h:a≤16384):wrapF .i64 (.ofNat a+isel (ltI 8192 (.ofNat s.length)) 8192 (.ofNat s.length))= .ofNat (a+mn s):=by
 rw [isel_min]
 have e:(min (Int.ofNat s.length) 8192)= .ofNat (mn s):=by unfold mn;simp only [Int.ofNat_eq_natCast];omega
 rw [e,show Int.ofNat a+Int.ofNat (mn s)= .ofNat (a+mn s) from rfl,wrap_i64 (by unfold mn;omega)]
theorem lt8192 (a:Nat):ltI 8192 (.ofNat a)=decide (8192<a):=ltI_nat (a:=8192)
theorem takeN_str (l:List (List Nat)) (i:Nat) (hi:i<l.length):takeN (dropN (l.map AV.str) (i*1)) 1=some [.str l[i]]:=by
 rw [dropN_eq,Nat.mul_one,takeN_eq,if_pos (by rw [List.length_drop,List.length_map];omega), ←List.map_drop,List.drop_eq_getElem_cons hi]
 rfl
theorem texts_ok {va:AV} {ds:List DocP} {fz:Bool} (ha:Sl H 5 va (ds.map dc) fz) (hn:ds.length≤16777216) {Q:AV→Hp→Prop} (k: ∀ b H',(b=true→TxtOk ds)→Stp noB H H'→Q (.bool b) H'):Cal env 60 [va] H Q:=by
 refine Cal.start fun hO=>s60 ?_
 unfold S60
 refine ⟨ds.length,by rw [ha.len,List.length_map],fun mm n5 n6 H'=> ∃ i,n6= .ofNat i∧mm=ds.length-i∧i≤ds.length∧n5= .ofNat ((ds.take i).map sumD).sum∧((ds.take i).map sumD).sum≤8192∧Stp noB H H',⟨_,0,rfl,rfl,Nat.zero_le _,rfl,Nat.zero_le _,Stp.refl hO⟩,?_⟩
 rintro _ H3 J _ _ ⟨i,rfl,rfl,hi,rfl,hs,st⟩
 obtain ⟨S,hS⟩: ∃ S,((ds.take i).map sumD).sum=S:=⟨_,rfl⟩
 rw [hS] at hs ⊢
 refine IfB.intro (fun g=>?_) (fun g=>?_)
 ·rw [ltI_nat] at g
  have g:i<ds.length:=of_decide_eq_true g
  rw [show wrapF .i64 (Int.ofNat i+1)= .ofNat (i+1) from wrap_i64 (x:=i+1) (by omega)]
  obtain ⟨p9,o10,y1,y2,_⟩:=doc_elem (ha.quiet hO st) g
  obtain ⟨d,hde⟩: ∃ d,ds[i]=d:=⟨_,rfl⟩
  rw [hde] at y2
  refine ⟨p9,o10,y1,d.id,d.t0,d.t1,d.t2,d.t3,y2,New.stp st.ok fun H17 b17 s17=>?_⟩
  obtain ⟨H18,e18,b18,s18⟩:=b17.whole s17.ok (ds:=dc d) rfl rfl
  have t18:Stp noB H3 H18:=s17.then s18 fun j hj=>by have:=s17.ok.lt b17;omega
  have st18:=st.trans t18
  refine ⟨H18,e18,d.id,b18.ld 0 rfl rfl,?_⟩
  rw [mn_step S d.id (by omega),lt8192]
  refine IfB.intro (fun _=>k false H18 (fun q=>by cases q) st18) (fun c=>?_)
  have c:S+mn d.id≤8192:=by have:=of_decide_eq_false c;omega
  refine ⟨d.t0,d.t1,d.t2,d.t3,b18.load 1 4 rfl,?_⟩
  have hts:[d.t0,d.t1,d.t2,d.t3]=d.ts:=rfl
  refine ⟨fun mm n27 n28 H'=> ∃ f,n28= .ofNat f∧mm=4-f∧f≤4∧n27= .ofNat (S+mn d.id+((d.ts.take f).map mn).sum)∧S+mn d.id+((d.ts.take f).map mn).sum≤8192∧Stp noB H H',⟨_,0,rfl,rfl,by omega,rfl,by simpa using c,st18⟩,?_⟩
  rintro _ H25 J26 _ _ ⟨f,rfl,rfl,hf,rfl,hs2,st25⟩
  obtain ⟨T,hT⟩: ∃ T,S+mn d.id+((d.ts.take f).map mn).sum=T:=⟨_,rfl⟩
  rw [hT] at hs2 ⊢
  rw [show (4:Int)= .ofNat 4 from rfl,ltI_nat]
  refine IfB.intro (fun z=>?_) (fun z=>?_)
  ·have z:f<4:=of_decide_eq_true z
   have zl:f<d.ts.length:=z
   refine ⟨f,rfl,z,d.ts[f],takeN_str d.ts f zl,?_⟩
   have:=mn_step T d.ts[f] (by omega)
   rw [this,lt8192]
   refine IfB.intro (fun _=>k false H25 (fun q=>by cases q) st25) (fun c2=>?_)
   have c2:T+mn d.ts[f]≤8192:=by have:=of_decide_eq_false c2;omega
   have e:S+mn d.id+((d.ts.take (f+1)).map mn).sum=T+mn d.ts[f]:=by
    rw [List.take_succ_eq_append_getElem zl,List.map_append,List.sum_append,List.map_singleton,List.sum_singleton]
    omega
   rw [show wrapF .i64 (Int.ofNat f+1)= .ofNat (f+1) from wrap_i64 (x:=f+1) (by omega)]
   exact ⟨_,by omega,f+1,rfl,rfl,by omega,by rw [e],by rw [e];exact c2,st25⟩
  ·have z:f=4:=by have:=of_decide_eq_false z;omega
   subst z
   have e:((ds.take (i+1)).map sumD).sum=T:=by
    rw [List.take_succ_eq_append_getElem g,List.map_append,List.sum_append,List.map_singleton,List.sum_singleton,hS,hde, ←hT,show d.ts.take 4=[d.t0,d.t1,d.t2,d.t3] from rfl]
    unfold sumD
    simp only [List.map_cons,List.map_nil,List.sum_cons,List.sum_nil]
    omega
   exact ⟨_,by omega,i+1,rfl,rfl,by omega,by rw [e],by rw [e];exact hs2,st25⟩
 ·rw [ltI_nat] at g
  have g: ¬ i<ds.length:=of_decide_eq_false g
  rw [List.take_of_length_le (by omega)] at hS
  exact k true H3 (fun _=>by unfold TxtOk;rw [hS];exact hs) st
theorem short_ok {v:AV} {vs:List AV} {L:List (List DocP)} {fz fz':Bool} (hv:Sl H 1 v (vs.map fun v=>[v]) fz) (hL:all2 (fun v ds=>Sl H 5 v (ds.map dc) fz') vs L) (hn:L.length≤1000) {Q:AV→Hp→Prop} (k: ∀ b H',(b=true→ ∀ ds∈L,ds.length≤20∧TxtOk ds)→Stp noB H H'→Q (.bool b) H'):Cal env 12 [v] H Q:=by
 refine Cal.start fun hO=>s12 ?_
 unfold S12
 have hvl:=all2_len hL
 refine ⟨vs.length,by rw [hv.len,List.length_map],fun mm n5 n6 H'=> ∃ i a,n6= .ofNat i∧mm=vs.length-i∧i≤vs.length∧n5= .ofNat a∧a≤20∧(∀ j (hj:j<L.length),j<i→L[j].length≤20∧TxtOk L[j])∧Stp noB H H',⟨_,0,0,rfl,rfl,Nat.zero_le _,rfl,Nat.zero_le _,fun j hj q=>absurd q (Nat.not_lt_zero _),Stp.refl hO⟩,?_⟩
 rintro _ H3 J _ _ ⟨i,a,rfl,rfl,hi,rfl,ha,hall,st⟩
 refine IfB.intro (fun g=>?_) (fun g=>?_)
 ·rw [ltI_nat] at g
  have g:i<vs.length:=of_decide_eq_true g
  have g2:i<L.length:=by omega
  rw [show wrapF .i64 (Int.ofNat i+1)= .ofNat (i+1) from wrap_i64 (x:=i+1) (by omega)]
  obtain ⟨p8,o9,y1,y2,_⟩:=(hv.quiet hO st).elem (j:=i) (by simpa using g)
  rw [List.getElem_map] at y2
  have hsl:=(all2_at hL i g g2).quiet hO st
  refine ⟨p8,o9,y1,vs[i],y2,L[i].length,by rw [hsl.len,List.length_map],?_⟩
  have e1:wrapF .i64 (Int.ofNat a+isel (ltI 100 (Int.ofNat L[i].length)) 100 (Int.ofNat L[i].length))= .ofNat (a+min L[i].length 100):=by
   rw [isel_min,show min (Int.ofNat L[i].length) 100= .ofNat (min L[i].length 100) by simp only [Int.ofNat_eq_natCast];omega]
   exact wrap_i64 (by omega)
  rw [e1,show (20:Int)= .ofNat 20 from rfl,ltI_nat]
  refine ⟨fun b H'=>(b=false→a+min L[i].length 100≤20∧TxtOk L[i])∧Stp noB H H',IfB.intro (fun c=>?_) (fun c=>⟨fun q=>(by cases q),st⟩),?_⟩
  ·rw [Bool.not_eq_true',decide_eq_false_iff_not] at c
   refine texts_ok hsl (by omega) fun b H14 hb s14=>⟨b,rfl,fun q=>⟨by omega,hb (by simpa using q)⟩,st.trans s14⟩
  rintro H16 J17 b ⟨hb,s16⟩
  refine IfB.intro (fun c=>k false H16 (fun q=>by cases q) s16) (fun c=>?_)
  obtain ⟨c1,c2⟩:=hb c
  refine ⟨_,by omega,i+1,a+min L[i].length 100,rfl,rfl,by omega,rfl,c1,fun j hj hlt=>?_,s16⟩
  by_cases hji:j<i
  ·exact hall j hj hji
  ·obtain rfl:j=i:=by omega
   exact ⟨by omega,c2⟩
 ·rw [ltI_nat] at g
  have g: ¬ i<vs.length:=of_decide_eq_false g
  exact k true H3 (fun _ ds hds=>by
   obtain ⟨j,hj,rfl⟩:=List.getElem_of_mem hds
   exact hall j hj (by omega)) st
theorem equalI_ok {u v:AV} {xs:List Int} {fz fz':Bool} (hu:Sl H 1 u (xs.map i8) fz) (hv:Sl H 1 v (xs.map i8) fz') (hl:xs.length<4611686018427387904) {Q:AV→Hp→Prop} (k: ∀ H',Stp noB H H'→Q (.bool true) H'):Cal env 21 [u,v] H Q:=by
 refine Cal.start fun hO=>s21 ?_
 unfold S21
 refine ⟨xs.length,by rw [hu.len,List.length_map],xs.length,by rw [hv.len,List.length_map],?_⟩
 rw [eqI_nat,decide_eq_true rfl]
 refine IfB.intro (fun q=>by cases q) (fun _=>?_)
 refine ⟨xs.length,by rw [hu.len,List.length_map],fun mm n H'=> ∃ i,n= .ofNat i∧mm=xs.length-i∧i≤xs.length∧Stp noB H H',⟨_,0,rfl,rfl,Nat.zero_le _,Stp.refl hO⟩,?_⟩
 rintro _ H5 J _ ⟨i,rfl,rfl,hi,st⟩
 refine IfB.intro (fun g=>?_) (fun g=>?_)
 ·rw [ltI_nat] at g
  have g:i<xs.length:=of_decide_eq_true g
  rw [show wrapF .i64 (Int.ofNat i+1)= .ofNat (i+1) from wrap_i64 (x:=i+1) (by omega)]
  refine letUp st.ok (by omega) fun H9 s9 _ _=>?_
  have st9:=st.trans s9
  obtain ⟨p,o,y1,y2⟩:=Is.elem (hu.quiet hO st9) g
  obtain ⟨p2,o2,z1,z2⟩:=Is.elem (hv.quiet hO st9) g
  refine ⟨p,o,y1,_,y2,p2,o2,z1,_,z2,IfB.intro (fun q=>?_) (fun _=>⟨_,by omega,i+1,rfl,rfl,by omega,st9⟩)⟩
  rw [eqI_dec,decide_eq_true rfl] at q
  cases q
 ·exact k H5 st
end
section
variable {H:Hp} {N:Nat}
def DsB (ds:List DocP):Prop:= ∀ d∈ds,(∀ b∈d.id,b<256)∧ ∀ s∈d.ts, ∀ b∈s,b<256
def idsOf (ds:List DocP):List (List Nat):=ds.map (·.id)
theorem ids_at {ds:List DocP} {j:Nat} (h:j<ds.length) (h2:j<(idsOf ds).length):(idsOf ds)[j]=ds[j].id:=List.getElem_map _
theorem ids_len (ds:List DocP):(idsOf ds).length=ds.length:=List.length_map _
theorem eqB_self (b:Bool):eqB b b=true:=by cases b <;> rfl
theorem made_ok (hG:GlOk H) {va vg:AV} {ds:List DocP} {gone:List (List Nat)} (ha:Sl H 5 va (ds.map dc) true) (hg:StR H vg gone) (hgl:gone.length≤9223372036854775807) (hb:DsB ds) (hs:ds.length≤20) (ht:TxtOk ds) {Q:AV→Hp→Prop}
  (k0:risesB (idsOf ds)=false→ ∀ H',Stp noB H H'→Q (.tup [.nilp, .nilp, .bool true]) H')
  (k1:risesB (idsOf ds)=true→ ∀ Lp ps p q c p2 e vl m H',AllOf ds Lp ps→SegR H' p q c (segOf ds (tsOf ps) []) m→RsAt H' H.nx p2 e va vl ds m→Stp noB H H'→Q (.tup [.ptr p 0, .ptr p2 0, .bool true]) H'):Cal env 14 [va,vg] H Q:=by
 refine Cal.start fun hO=>s14 ?_
 unfold S14
 have hbr:risesB (ds.map (·.id))=true→ ∀ d∈ds, ∀ s∈d.ts,(∀ b∈s,b<256)∧s.length≤1099511627776:=fun q d hd s hsd=>by
  have h1:=((rises_srt q).2 d.id (List.mem_map.2 ⟨d,hd,rfl⟩)).1
  have:=ht.len hd h1 s hsd
  exact ⟨(hb d hd).2 s hsd,by omega⟩
 have hbb: ∀ d∈ds, ∀ s∈d.ts, ∀ b∈s,b<256:=fun d hd s hsd=>(hb d hd).2 s hsd
 refine build_ok (xs:=[]) hG ha hbr (by omega) (fun _ Lp ps all=>all.layOk hbb (by omega)) (fun q H1 s1=>?_) (fun q Lp ps p q1 c H1 all sg hp hq hc s1=>?_)
 ·refine ⟨_,_,rfl,rbuild_ok (ha.stay s1) (by omega) (fun _ H5 s5=>⟨_,_,rfl,?_⟩) (fun q2=>by rw [q] at q2;cases q2)⟩
  have st5:=s1.trans s5
  refine ⟨fun b H'=>b=false∧H5=H',?_,?_⟩
  ·rw [eqI_dec,decide_eq_true rfl]
   refine IfB.intro (fun _=>?_) (fun q=>by cases q)
   rw [eqM_nn,eqM_nn]
   exact ⟨rfl,rfl⟩
  rintro _ _ J ⟨rfl,rfl⟩
  refine IfB.intro (fun q=>by cases q) (fun _=>⟨gone.length,hg.len,?_⟩)
  refine ⟨fun mm n H'=> ∃ i,n= .ofNat i∧mm=gone.length-i∧i≤gone.length∧Stp noB H H',⟨_,0,rfl,rfl,Nat.zero_le _,st5⟩,?_⟩
  rintro _ H17 J18 _ ⟨i,rfl,rfl,hi,st⟩
  refine IfB.intro (fun g=>?_) (fun _=>k0 q H17 st)
  rw [ltI_nat] at g
  have g:i<gone.length:=of_decide_eq_true g
  rw [show wrapF .i64 (Int.ofNat i+1)= .ofNat (i+1) from wrap_i64 (x:=i+1) (by omega)]
  obtain ⟨p21,o22,y1,y2⟩:=sc_elem (hg.mono st.mo).sl g
  refine ⟨p21,o22,y1,_,y2,?_⟩
  rw [eqM_nn]
  refine ⟨fun b H'=>b=false∧H17=H',IfB.intro (fun q=>by cases q) (fun _=>⟨rfl,rfl⟩),?_⟩
  rintro _ _ J ⟨rfl,rfl⟩
  refine ⟨fun b H'=>b=false∧H17=H',IfB.intro (fun q=>by cases q) (fun _=>⟨rfl,rfl⟩),?_⟩
  rintro _ _ J ⟨rfl,rfl⟩
  exact IfB.intro (fun q=>by cases q) (fun _=>⟨_,by omega,i+1,rfl,rfl,by omega,st⟩)
 ·obtain ⟨l1,l2,l3⟩:=sg.lt s1.ok
  refine ⟨_,_,rfl,rbuild_ok (ha.stay s1) (by omega) (fun q2=>by rw [q] at q2;cases q2) (fun _ p2 e vl H5 rs s5=>⟨_,_,rfl,?_⟩)⟩
  have st5:=s1.trans s5
  refine ⟨fun b H'=>b=false∧H5=H',?_,?_⟩
  ·rw [eqI_dec,decide_eq_true rfl]
   refine IfB.intro (fun _=>?_) (fun q=>by cases q)
   rw [eqM_pn,eqM_pn]
   exact ⟨rfl,rfl⟩
  rintro _ _ J ⟨rfl,rfl⟩
  refine IfB.intro (fun q=>by cases q) (fun _=>⟨gone.length,hg.len,?_⟩)
  have hsrt:SrtS (idsOf ds):=(rises_srt q).1
  obtain ⟨S,hS⟩: ∃ S,segOf ds (tsOf ps) []=S:=⟨_,rfl⟩
  have hSi:S.ids=idsOf ds:=by rw [←hS];rfl
  have hSn:S.n=S.ids.length:=by rw [←hS];rfl
  have hil:=ids_len ds
  rw [hS] at sg
  refine ⟨fun mm n H'=> ∃ i m,n= .ofNat i∧mm=gone.length-i∧i≤gone.length∧SegR H' p q1 c S m∧RsAt H' H1.nx p2 e va vl ds m∧Stp noB H H'∧Stp (fun j=>H.nx≤j) H1 H',⟨_,0,_,rfl,rfl,Nat.zero_le _,sg.step s1.ok s5,rs,st5,s5.of⟩,?_⟩
  rintro _ H17 J18 _ ⟨i,m,rfl,rfl,hi,sg17,rs17,st,s17⟩
  have n17:=s17.nx
  refine IfB.intro (fun g=>?_) (fun _=>k1 q Lp ps p q1 c p2 e vl m H17 all (by rw [hS];exact sg17) ⟨rs17.bx,rs17.hi,by have:=rs17.lo;have:=s1.nx;omega,rs17.sl,rs17.ow.low s1.nx⟩ st)
  rw [ltI_nat] at g
  have g:i<gone.length:=of_decide_eq_true g
  rw [show wrapF .i64 (Int.ofNat i+1)= .ofNat (i+1) from wrap_i64 (x:=i+1) (by omega)]
  obtain ⟨p21,o22,y1,y2⟩:=sc_elem (hg.mono st.mo).sl g
  refine ⟨p21,o22,y1,gone[i],y2,?_⟩
  rw [eqM_pn]
  refine ⟨fun b H'=>H17=H',IfB.intro (fun _=>rfl) (fun _=>rfl),?_⟩
  rintro _ J b28 rfl
  refine ⟨fun b H'=>b=false∧ ∃ m,SegR H' p q1 c S m∧RsAt H' H1.nx p2 e va vl ds m∧Stp noB H H'∧Stp (fun j=>H.nx≤j) H1 H',IfB.intro (fun _=>?_) (fun _=>⟨rfl,m,sg17,rs17,st,s17⟩),?_⟩
  ·refine skill_ok sg17 (by rw [hSi];exact hsrt) (by rw [hSi];omega) hSn (fun j hj H31 e1 hm sg31 s31=>⟨_,rfl,?_⟩) (fun hno=>⟨_,rfl,?_⟩)
   ·have hj2:j<(idsOf ds).length:=by rw [←hSi];exact hj
    have e1':(idsOf ds)[j]=gone[i]:=by simp only [hSi] at e1;exact e1
    have lo2:=rs17.lo
    have rs31:=rs17.keep st.ok s31 (by omega) fun b hb q=>by have:=rs17.ow.isB_low b hb;omega
    refine rkill_ok rs31 (by omega) (by have:=s31.nx;omega) (fun j2 hj3 H34 e2 hm2 rs34 s34=>⟨_,rfl,eqB_self true |>.symm ▸ rfl,?_⟩) (fun hno H34 s34=>?_)
    ·obtain rfl:j=j2:=srt_inj hsrt hj2 (by omega) (by rw [e1',ids_at hj3,e2])
     have low: ∀ b,isB vl b→H1.nx≤b:=fun b hb=>rs31.ow.isB_low b hb
     refine ⟨_,sg31.stepG s31.ok s34 (fun q=>by have:=low _ q;omega) (fun q=>by have:=low _ q;omega),rs34,?_,?_⟩
     ·exact (st.then s31 fun b hb=>by omega).then s34 fun b hb=>by have:=low b hb;have:=s1.nx;omega
     ·exact s17.trans ((s31.wide fun b _ hb=>by have:b=c:=hb;omega).trans (s34.wide fun b _ hb=>by have:=low b hb;have:=s1.nx;omega))
    ·have:=hno j (by omega) (by rw [←ids_at (by omega) hj2];exact e1')
     rw [hm] at this
     cases this
   ·refine rkill_ok rs17 (by omega) (by omega) (fun j2 hj3 H34 e2 hm2 rs34 s34=>?_) (fun _ H34 s34=>⟨_,rfl,rfl,m,sg17.step st.ok s34,rs17.quiet st.ok s34,st.trans s34,s17.trans s34.of⟩)
    have:=hno j2 (by rw [hSi];omega) (by simp only [hSi];rw [ids_at hj3];exact e2)
    rw [hm2] at this
    cases this
  rintro H36 J37 _ ⟨rfl,m',sg36,rs36,st36,s36⟩
  exact IfB.intro (fun q=>by cases q) (fun _=>⟨_,by omega,i+1,m',rfl,rfl,by omega,sg36,rs36,st36,s36⟩)
theorem find2_ok {p q c:Nat} {s:Seg} {m:Nat→Bool} {p2 e:Nat} {va vl:AV} {ds:List DocP} (sg:SegR H p q c s m) (rs:RsAt H N p2 e va vl ds m) (hi:s.ids=idsOf ds) (hr:SrtS (idsOf ds)) (hn:ds.length≤65536) {id:List Nat} {Q:Int→Bool→Int→Bool→Hp→Prop}
  (k: ∀ n b H',Stp noB H H'→Q n b n b H'):Cal env 15 [.ptr p 0, .str id] H fun v H1=> ∃ (n:Int) (b:Bool),v= .tup [.int .i64 n, .bool b]∧Cal env 16 [.ptr p2 0, .str id] H1 fun v2 H2=> ∃ (n2:Int) (b2:Bool),v2= .tup [.int .i64 n2, .bool b2]∧Q n b n2 b2 H2:=by
 have hil:=ids_len ds
 refine sfind_ok sg (by rw [hi];exact hr) (by rw [hi];omega) (fun j hj e1 hm=>⟨_,_,rfl,?_⟩) (fun hno=>⟨_,_,rfl,?_⟩)
 ·have hj2:j<(idsOf ds).length:=by rw [←hi];exact hj
  have e1':(idsOf ds)[j]=id:=by simp only [hi] at e1;exact e1
  refine rfind_ok rs (by omega) (fun j2 hj3 H2 e2 hm2 s2=>⟨_,_,rfl,?_⟩) (fun hno H2 s2=>?_)
  ·obtain rfl:j=j2:=srt_inj hr hj2 (by omega) (by rw [e1',ids_at hj3,e2])
   exact k _ _ _ s2
  ·have:=hno j (by omega) (by rw [←ids_at (by omega) hj2];exact e1')
   rw [hm] at this
   cases this
 ·refine rfind_ok rs (by omega) (fun j2 hj3 H2 e2 hm2 s2=>?_) (fun _ H2 s2=>⟨_,_,rfl,k _ _ _ s2⟩)
  have:=hno j2 (by rw [hi];omega) (by simp only [hi];rw [ids_at hj3];exact e2)
  rw [hm2] at this
  cases this
theorem sid2_ok {p q c:Nat} {s:Seg} {m:Nat→Bool} (h:SegR H p q c s m) (hl:s.ids.length≤65536) {i:Int} {Q:AV→Hp→Prop}
  (k: ∀ w,(¬ (0≤i∧i<s.ids.length)→w=[])→(∀ (j:Nat) (hj:j<s.ids.length),i= .ofNat j→w=s.ids[j])→Q (.tup [.str w, .bool (decide (0≤i∧i<s.ids.length))]) H):Cal env 17 [.ptr p 0, .int .i64 i] H Q:=by
 refine sid_ok h hl (fun j hj e=>?_) (fun hno=>?_)
 ·have hin:0≤i∧i<s.ids.length:=by rw [e];exact ⟨Int.natCast_nonneg j,Int.ofNat_lt.2 hj⟩
  have:=k s.ids[j] (fun q=>absurd hin q) (fun j2 hj2 e2=>by
   obtain rfl:j=j2:=Int.ofNat.inj (e.symm.trans e2)
   rfl)
  rw [decide_eq_true hin] at this
  exact this
 ·have:=k [] (fun _=>rfl) (fun j hj e=>absurd (by rw [e];exact ⟨Int.natCast_nonneg j,Int.ofNat_lt.2 hj⟩) hno)
  rw [decide_eq_false hno] at this
  exact this
theorem segDocs_ok (hG:GlOk H) (haw: ∀ H',Mo H H'→ ∀ Q:AV→Hp→Prop,(Ok H'→Q (.bool true) H')→Cal env 13 [] H' Q) {va vg:AV} {ds:List DocP} {gone:List (List Nat)} (ha:Sl H 5 va (ds.map dc) true) (hg:StR H vg gone) (hgl:gone.length≤9223372036854775807) (hb:DsB ds) {id:List Nat} {i:Int}:Cal env 3 [va,vg, .str id, .int .i64 i] H fun v _=>v= .bool true:=by
 refine Cal.start fun hO=>s3 ?_
 unfold S3
 have sva:va.sc=true:=ha.sc
 have hlen:lenS va=some ds.length:=by rw [ha.len,List.length_map]
 refine Chk.intro sva (Chk.intro (by simp [scAll,sva]) (New.stp hO fun H1 b1 s1=>?_))
 refine short_ok (vs:=[va]) (L:=[ds]) (lit_sl b1 rfl (by simp [scAll,sva])) ⟨ha.stay s1,trivial⟩ (by simp) fun b H3 hsh s3=>⟨b,rfl,?_⟩
 have st3:=s1.trans s3
 cases b with
 | false=>exact IfB.intro (fun _=>haw H3 st3.mo _ fun _=>⟨_,rfl,rfl⟩) (fun q=>by cases q)
 | true=>
 refine IfB.intro (fun q=>by cases q) (fun _=>?_)
 obtain ⟨hs20,htx⟩:=hsh rfl ds (by simp)
 refine made_ok (hG.mono st3.mo) (ha.stay st3) (hg.mono st3.mo) hgl hb hs20 htx (fun _ H9 s9=>⟨_,_,_,rfl,?_⟩) (fun q Lp ps p q1 c p2 e vl m H9 all sg rs s9=>⟨_,_,_,rfl,?_⟩)
 ·have st9:=st3.trans s9
  refine ⟨fun b H'=>b=true∧H9=H',IfB.intro (fun _=>?_) (fun q=>by cases q),?_⟩
  ·rw [eqM_nn];exact ⟨rfl,rfl⟩
  rintro _ _ J ⟨rfl,rfl⟩
  refine IfB.intro (fun _=>?_) (fun q=>by cases q)
  refine ⟨fun b H'=>b=true,IfB.intro (fun _=>haw H9 st9.mo _ fun _=>⟨_,rfl,rfl⟩) (fun q=>by cases q),?_⟩
  rintro _ _ J rfl
  rfl
 have st9:=st3.trans s9
 have hsrt:SrtS (idsOf ds):=(rises_srt q).1
 have hil:=ids_len ds
 obtain ⟨S,hS⟩: ∃ S,segOf ds (tsOf ps) []=S:=⟨_,rfl⟩
 have hSi:S.ids=idsOf ds:=by rw [←hS];rfl
 have hSn:S.n=ds.length:=by rw [←hS];exact hil
 rw [hS] at sg
 refine ⟨fun b H'=>b=false∧H9=H',IfB.intro (fun _=>?_) (fun q=>by cases q),?_⟩
 ·rw [eqM_pn];exact ⟨rfl,rfl⟩
 rintro _ _ J ⟨rfl,rfl⟩
 refine IfB.intro (fun q=>by cases q) (fun _=>?_)
 refine find2_ok sg rs hSi hsrt (by omega) fun n b H30 s30=>?_
 have sg30:=sg.step s9.ok s30
 have rs30:=rs.quiet s9.ok s30
 have st30:=st9.trans s30
 have hSl:S.ids.length=ds.length:=by rw [hSi];exact hil
 refine sid2_ok sg30 (by omega) fun w hw0 hw1=>⟨_,_,rfl,?_⟩
 rw [hSl] at hw0
 simp only [hSl]
 obtain ⟨inn,hinn⟩: ∃ inn,decide (0≤i∧i<(ds.length:Int))=inn:=⟨_,rfl⟩
 rw [hinn]
 refine ⟨fun b H'=>inn=b∧H30=H',IfB.intro (fun g=>⟨_,hlen,Eq.symm ?_,rfl⟩) (fun g=>⟨Eq.symm ?_,rfl⟩),?_⟩
 ·rw [ltI_eq,Bool.not_eq_true',decide_eq_false_iff_not] at g
  rw [ltI_eq, ←hinn]
  exact decide_eq_decide.2 ⟨fun q=>⟨by omega,q⟩,fun q=>q.2⟩
 ·rw [ltI_eq,Bool.not_eq_false',decide_eq_true_eq] at g
  rw [←hinn,decide_eq_false (by omega)]
 rintro _ _ J40 ⟨rfl,rfl⟩
 refine ⟨fun b H'=>b=true∧H30=H',IfB.intro (fun _=>⟨eqB_self _,rfl⟩) (fun q=>by rw [eqI_dec,decide_eq_true rfl] at q;cases q),?_⟩
 rintro _ _ J44 ⟨rfl,rfl⟩
 refine ⟨fun b H'=>b=true∧H30=H',IfB.intro (fun _=>⟨eqB_self _,rfl⟩) (fun q=>by cases q),?_⟩
 rintro _ _ J48 ⟨rfl,rfl⟩
 refine ⟨fun b H'=>b=true∧H30=H',IfB.intro (fun _=>?_) (fun q=>by cases q),?_⟩
 ·cases inn with
  | false=>
   have hno: ¬ (0≤i∧i<(ds.length:Int)):=of_decide_eq_false hinn
   refine ⟨fun b H'=>b=true∧H30=H',IfB.intro (fun _=>⟨by rw [hw0 hno];rfl,rfl⟩) (fun q=>by cases q),?_⟩
   rintro _ _ J53 ⟨rfl,rfl⟩
   refine ⟨fun b H'=>b=true∧H30=H',IfB.intro (fun q=>by cases q) (fun _=>⟨rfl,rfl⟩),?_⟩
   rintro _ _ J64 ⟨rfl,rfl⟩
   exact ⟨rfl,rfl⟩
  | true=>
   have hin:0≤i∧i<(ds.length:Int):=of_decide_eq_true hinn
   refine ⟨fun b H'=>b=false∧H30=H',IfB.intro (fun q=>by cases q) (fun _=>⟨rfl,rfl⟩),?_⟩
   rintro _ _ J53 ⟨rfl,rfl⟩
   refine ⟨fun b H'=>b=true∧H30=H',IfB.intro (fun _=>?_) (fun q=>by cases q),?_⟩
   ·refine ⟨fun b H'=>b=true∧H30=H',IfB.intro (fun _=>?_) (fun q=>by cases q),?_⟩
    ·obtain ⟨j,rfl⟩: ∃ j:Nat,i= .ofNat j:=⟨i.toNat,by simp only [Int.ofNat_eq_natCast];omega⟩
     have hj:j<ds.length:=by have:=hin.2;simp only [Int.ofNat_eq_natCast] at this;omega
     obtain ⟨p57,o58,y1,_,y3⟩:=doc_elem (ha.stay st30) hj
     refine ⟨p57,o58,y1,_,y3,?_,rfl⟩
     have e:=hw1 j (by omega) rfl
     simp only [hSi] at e
     rw [e,ids_at hj,eqL_refl]
    rintro _ _ J61 ⟨rfl,rfl⟩
    exact ⟨rfl,rfl⟩
   rintro _ _ J64 ⟨rfl,rfl⟩
   exact ⟨rfl,rfl⟩
 rintro _ _ J67 ⟨rfl,rfl⟩
 refine ⟨fun b H'=>b=true∧H30=H',IfB.intro (fun _=>?_) (fun q=>by cases q),?_⟩
 ·refine ssize_ok sg30 ⟨_,rfl,_,hlen,?_,rfl⟩
  rw [hSl,eqI_nat,decide_eq_true rfl]
 rintro _ _ J75 ⟨rfl,rfl⟩
 refine ⟨fun b H'=>b=true∧Stp noB H30 H',IfB.intro (fun _=>?_) (fun q=>by cases q),?_⟩
 ·refine slive_ok sg30 fun H79 s79=>⟨_,rfl,?_⟩
  refine rthere_ok (rs30.quiet st30.ok s79) (by omega) fun v81 H82 o82 s82=>⟨_,rfl,_,o82.sl.len,?_,s79.trans s82⟩
  unfold liveD cntM
  rw [hSn,List.length_map,List.length_map,eqI_nat,decide_eq_true rfl]
 rintro H85 J86 _ ⟨rfl,s85⟩
 have st85:=st30.trans s85
 have sg85:=sg30.step st30.ok s85
 have rs85:=rs30.quiet st30.ok s85
 refine ⟨fun b H'=>b=true∧Stp noB H85 H',IfB.intro (fun _=>?_) (fun q=>by cases q),?_⟩
 ·refine sset_ok sg85 fun b' c' ws' H90 set90 _ _ s90=>⟨_,rfl,?_⟩
  refine list_ok (hG.mono (st85.trans s90).mo) set90 fun v94 H93 o93 s93=>⟨_,rfl,?_⟩
  have s93':=s90.trans s93
  refine rset_ok (rs85.quiet st85.ok s93') (by omega) fun v97 H96 o96 s96=>⟨_,rfl,?_⟩
  have em: ∀ n,((memL m n).map fun j=>i8 (.ofNat j))=((memL m n).map fun j=>Int.ofNat j).map i8:=fun n=>by rw [List.map_map];rfl
  have ml:=memL_len m ds.length
  have o93':=(o93.quiet s96).sl
  rw [hSn,em] at o93'
  have o96':=o96.sl
  rw [em] at o96'
  exact equalI_ok o93' o96' (by rw [List.length_map];omega) fun H99 s99=>⟨_,rfl,rfl,(s93'.trans s96).trans s99⟩
 rintro H101 J102 _ ⟨rfl,s101⟩
 have st101:=st85.trans s101
 have sg101:=sg85.step st85.ok s101
 refine ⟨fun b H'=>b=true∧Stp noB H101 H',IfB.intro (fun _=>?_) (fun q=>by cases q),?_⟩
 ·refine sset_ok sg101 fun b' c' ws' H106 set106 _ _ s106=>⟨_,rfl,?_⟩
  exact size_ok set106 ⟨_,rfl,_,hlen,by rw [hSn,eqI_nat,decide_eq_true rfl],s106⟩
 rintro H112 J113 _ ⟨rfl,s112⟩
 refine ⟨fun b H'=>b=true,IfB.intro (fun _=>haw H112 (st101.trans s112).mo _ fun _=>⟨_,rfl,rfl⟩) (fun q=>by cases q),?_⟩
 rintro _ _ J120 rfl
 rfl
end
section
variable {H:Hp}
theorem law_ok {va vg:AV} {ds:List DocP} {gone:List (List Nat)} {id:List Nat} {i:Int} (hL:LaidZ laidLit H) (ha:Sl H 5 va (ds.map dc) true) (hg:StR H vg gone) (hgl:gone.length≤9223372036854775807) (hb:DsB ds):Cal env 3 [va,vg, .str id, .int .i64 i] H fun v _=>v= .bool true:=
 segDocs_ok hL (fun H' m Q k=>cal_closed (L:=laidLit) rfl rfl (hL.mono m).laid k) ha hg hgl hb
end
end Go.Proofs.YtgfcgkbbmcgjmaaGreatDoor.Eng
