/- What the functions answer, part Bc2. -/
import Derived.Test.YtgfcgkbbmcgjmaaGreatDoorDBc1
namespace Go.Proofs.YtgfcgkbbmcgjmaaGreatDoor.Eng
set_option linter.unusedVariables false
set_option linter.unusedSimpArgs false
section
variable {H:Hp} {N:Nat}
theorem enc_ok {a:AV} {l:List Post} (hv:PoR H a l) (hl:PoLn l) {Q:AV→Hp→Prop} (k0:chkB l=false→ ∀ H',Stp noB H H'→Q (.tup [.nils, .int .i64 1]) H')
  (k1:chkB l=true→ ∀ v' H',Ob H' H.nx v' (encB l)→Stp noB H H'→Q (.tup [v', .int .i64 0]) H'):Cal env 177 [a] H Q:=by
 refine Cal.start fun hO=>s177 ?_
 unfold S177
 refine check_ok hv hl fun H1 s1=>⟨_,rfl,IfB.intro (fun q=>?_) (fun q=>?_)⟩
 ·cases hc:chkB l with
  | true=>rw [hc] at q;exact absurd q (by decide)
  | false=>exact k0 hc H1 s1
 have hc:chkB l=true:=by
  cases hc:chkB l with
  | true=>rfl
  | false=>rw [hc] at q;exact absurd q (by decide)
 have k1:=k1 hc
 have hln:l.length≤65536:=by
  have:=chkGo_len l none (-1) (.inr ⟨rfl,rfl⟩) (by omega) (by omega) hc
  omega
 have hsp: ∀ x∈l,SpLn x.2∧0≤x.1∧x.1<65536:=fun x hx=>fits_ln (chkGo_all l none hc x hx).1
 have asc:a.sc=true:=by obtain ⟨cs,c1,_⟩:=hv;exact c1.sc
 refine ⟨l.length,hv.len,num_ok (l:=[]) (fz:=true) Sl.nil (fun b hb=>by cases hb) (by simp) (by simp only [Int.ofNat_eq_natCast];omega) fun v4 H5 o5 s5=>⟨_,rfl,?_⟩⟩
 have t5:=s1.trans s5
 refine New.stp t5.ok fun H8 b8 s8=>Chk.intro o5.ow.sl.sc ?_
 obtain ⟨H9,e9,b9,s9⟩:=b8.stp s8.ok (o:=0) (vs:=[v4]) rfl (by simp only [scAll,o5.ow.sl.sc])
 refine ⟨H9,e9,New.stp s9.ok fun H11 b11 s11=>?_⟩
 obtain ⟨H12,e12,b12,s12⟩:=b11.stp s11.ok (o:=0) (vs:=[.int .i64 (-1)]) rfl rfl
 refine ⟨H12,e12,s223 ?_⟩
 unfold S223
 refine Chk.intro asc (Chk.intro (by simp only [scAll,asc]) (New.stp s12.ok fun H20 b20 s20=>New.stp s20.ok fun H21 b21 s21=>⟨4,b21.ld 0 rfl rfl,IfB.intro (fun q=>absurd q (by decide)) (fun _=>⟨_,rfl,?_⟩)⟩))
 -- where things lie
 have n7:H5.nx<H8.nx:=s8.ok.lt b8
 have n9:H9.nx<H11.nx:=s11.ok.lt b11
 have n12:H12.nx<H20.nx:=s20.ok.lt b20
 have n20:H20.nx<H21.nx:=s21.ok.lt b21
 have m5:=t5.nx
 have m9:=s9.nx
 have m12:=s12.nx
 obtain ⟨p7,hp7⟩: ∃ p,H5.nx=p:=⟨_,rfl⟩
 obtain ⟨p10,hp10⟩: ∃ p,H9.nx=p:=⟨_,rfl⟩
 obtain ⟨p0,hp0⟩: ∃ p,H12.nx=p:=⟨_,rfl⟩
 obtain ⟨p2,hp2⟩: ∃ p,H20.nx=p:=⟨_,rfl⟩
 have u8:Stp noB H5 H9:=s8.then s9 fun i hi=>by rw [hi];exact Nat.le_refl _
 have u11:Stp noB H9 H12:=s11.then s12 fun i hi=>by rw [hi];exact Nat.le_refl _
 have q7:=((b9.step s9.ok u11 (fun q=>q)).step s12.ok s20 (fun q=>q)).step s20.ok s21 (fun q=>q)
 have q10:=(b12.step s12.ok s20 (fun q=>q)).step s20.ok s21 (fun q=>q)
 have q0:=b20.step s20.ok s21 (fun q=>q)
 have q2:=b21
 rw [hp7] at q7
 rw [hp10] at q10
 rw [hp0] at q0
 rw [hp2] at q2
 obtain ⟨t7,t0,st0⟩: ∃ t7 t0,EncAt t7 t0 H H21 a l p7 p10 p0 p2 0 v4 (numB l.length) (-1):=
  ⟨_,_,t5.trans (u8.trans (u11.trans (s20.trans s21))),q7,⟨(((o5.ow.low s1.nx).quiet u8).quiet u11 |>.quiet s20).quiet s21,o5.lt⟩,q10,q0,q2,by omega⟩
 have d1:p10≠p7:=by omega
 have d2:p0≠p7:=by omega
 have d3:p2≠p7:=by omega
 have d4:p0≠p10:=by omega
 have d5:p2≠p10:=by omega
 have l7:H.nx≤p7:=by omega
 have l10:H.nx≤p10:=by omega
 have up:Stp noB H21 ⟨H21.m,H21.nx+1⟩:=up_stp (Stp.refl s21.ok) _ (by omega)
 have st1:=st0.step up
 show rgOf env fa 253 _ [.yld H21.nx, .ptr H12.nx 0, .ptr H20.nx 0] ⟨H21.m,H21.nx+1⟩ _
 rw [hp7,hp10,hp0,hp2]
 refine chunk_it (e1:=tagN+t0) (e2:=tagN+3) (a:=a) (l:=l) (by omega) (fun i H'=> ∃ vb bs last,EncAt t7 t0 H H' a l p7 p10 p0 p2 i vb bs last∧bs++encGo (l.length-i) last (l.drop i)=encB l∧bs.length≤9+20000*i∧i<65540) ⟨v4,numB l.length, -1,st1,rfl,?_,by omega⟩ ?_ ?_ ?_
 ·have:=numB_len9 l.length (by omega)
  omega
 ·rintro i H' ⟨vb,bs,last,e,_⟩
  exact ⟨e.st.ok,e.b0,e.b2,hv.mono e.st.mo⟩
 ·rintro i H' v ⟨vb,bs,last,e,he,hbl,hi4⟩ hi hr Q hQ
  have ux:Stp noB H' ⟨H'.m,H'.nx+7⟩:=up_stp (Stp.refl e.st.ok) _ (by omega)
  have eX:=e.step ux
  generalize Hp.mk H'.m (H'.nx+7)=H10 at hr eX
  obtain ⟨r,hrd⟩: ∃ r,(l.drop i).take 4=r:=⟨_,rfl⟩
  have hstep:=encGo_step hi last
  rw [hrd] at hr hstep
  have hrs: ∀ x∈r,SpLn x.2∧0≤x.1∧x.1<65536:=fun x hx=>hsp x (List.mem_of_mem_drop (List.mem_of_mem_take (hrd ▸ hx)))
  have hr4:r.length≤4:=by rw [←hrd,List.length_take];omega
  have htk: ∀ j, ∀ x∈r.take j,SpLn x.2∧0≤x.1∧x.1<65536:=fun j x hx=>hrs x (List.mem_of_mem_take hx)
  have hrb: ∀ j,(runB last (r.take j)).length≤10000:=fun j=>by
   have:=run_len (htk j) e.la.1
   have h2:(r.take j).length≤4:=by rw [List.length_take];omega
   omega
  refine ⟨rfl,v,rfl,last,eX.b10.ld 0 rfl rfl,r.length,hr.len,fun m w n H26=> ∃ j,n= .ofNat j∧j≤r.length∧m=r.length-j∧EncAt t7 t0 H H26 a l p7 p10 p0 p2 i vb bs (lastP last (r.take j))∧Ob H26 H.nx w (runB last (r.take j))∧Mo H10 H26,
   ⟨r.length,0,rfl,by omega,by omega,eX,⟨Ow.nil,fun b hb=>by cases hb⟩,Mo.refl _⟩,?_⟩
  rintro m H26 J w _ ⟨j,rfl,hj,rfl,eJ,ow,mo⟩
  refine IfB.intro (fun q=>?_) (fun q=>?_)
  ·rw [ltI_nat] at q
   have q:j<r.length:=of_decide_eq_true q
   obtain ⟨b,o,u,g1,g2,_,g4⟩:=(hr.mono mo).elem q
   obtain ⟨w1,w2,w3⟩:=hrs _ (List.getElem_mem q)
   have ht:=take_snoc q
   obtain ⟨y,hy⟩: ∃ y,r[j]=y:=⟨_,rfl⟩
   rw [hy] at g2 g4 w1 w2 w3 ht
   have hl':lastP last (r.take (j+1))=y.1:=by rw [ht,lastP_snoc]
   have hr':runB last (r.take (j+1))=runB last (r.take j)++putB y.1 (lastP last (r.take j)) y.2:=by rw [ht,runB_snoc]
   refine ⟨b,o,g1,_,_,g2,New.stp eJ.st.ok fun H36 b36 s36=>?_⟩
   obtain ⟨H37,e37,b37,s37⟩:=b36.stp s36.ok (o:=0) (vs:=[.int .i64 y.1,u]) rfl (by simp only [scAll,g4.sc];rfl)
   have t37:Stp noB H26 H37:=s36.then s37 fun i hi=>by rw [hi];exact Nat.le_refl _
   have eK:=eJ.step t37
   have hjl:=hrb j
   have hjla:=eJ.la
   refine ⟨H37,e37,_,_,b37.load 0 2 (by simp only [dropN,takeC,g4.sc];rfl),_,eK.b10.ld 0 rfl rfl,bput_ok (ow.ow.quiet t37).sl ow.lt (g4.mono t37.mo) w1 (by omega) ⟨by omega,by omega⟩ ⟨by omega,by omega⟩ fun v41 H42 o42 s42=>⟨_,rfl,_,(b37.step t37.ok s42 (fun q=>q)).ld 0 rfl rfl,?_⟩⟩
   have e42:=eK.step s42
   obtain ⟨H45,e45,b45,s45⟩:=e42.b10.stp e42.st.ok (o:=0) (vs:=[.int .i64 y.1]) rfl rfl
   have o42':=o42.ow.low eK.st.nx
   refine ⟨H45,e45,r.length-(j+1),by omega,j+1,wrap_i64 (x:=j+1) (by omega),q,rfl,?_,?_,((mo.trans t37.mo).trans s42.mo).trans s45.mo⟩
   ·rw [hl']
    exact ⟨e42.st.then s45 fun i hi=>by rw [hi];exact l10,e42.b7.step e42.st.ok s45 (fun q=>d1 q.symm),⟨e42.ob.ow.step s45 (e42.ob.ow.ne_bk e42.b10 (by simp only [esU,tagN];omega)),e42.ob.lt⟩,b45,e42.b0.step e42.st.ok s45 d4,e42.b2.step e42.st.ok s45 d5,by omega⟩
   ·rw [hr']
    exact ⟨o42'.step s45 (o42'.ne_bk e42.b10 (by simp only [esU,tagN];omega)),o42.lt⟩
  ·rw [ltI_nat] at q
   have q:j=r.length:=by have:=of_decide_eq_false q;omega
   subst q
   have hjl:=hrb r.length
   rw [List.take_length] at eJ ow hjl
   rw [letH_eq]
   have u46:Stp noB H26 ⟨H26.m,H26.nx+10⟩:=up_stp (Stp.refl eJ.st.ok) _ (by omega)
   have e46:=eJ.step u46
   have ow46:=ow.ow.quiet u46
   generalize Hp.mk H26.m (H26.nx+10)=H46 at e46 ow46
   have hjla:=eJ.la
   have hla:=e.la
   refine ⟨vb,e46.b7.ld 0 rfl e46.ob.ow.sl.sc,e46.ob.ow.sl.isS.rf ⟨_,e46.b10.ld 0 rfl rfl,?_⟩⟩
   rw [wid (n:=lastP last r-last) (by omega) (by omega),wid (n:=lastP last r-last-1) (by omega) (by omega)]
   have nn:=numB_len9 (lastP last r-last-1).toNat (by omega)
   refine num_ok e46.ob.ow.sl e46.ob.lt (by omega) (by omega) fun v49 H50 o50 s50=>⟨_,rfl,runB last r,toStr_ok (ow46.quiet s50).sl ow.lt,toStr_ok ow46.sl ow.lt,text_ok o50.ow.sl o50.lt ow.lt (by rw [List.length_append];omega) fun v53 H54 o54 s54=>⟨_,rfl,Chk.intro o54.ow.sl.sc ?_⟩⟩
   have e50:=e46.step s50
   have e54:=e50.step s54
   obtain ⟨H56,e56,b56,s56⟩:=e54.b7.stp e54.st.ok (o:=0) (vs:=[v53]) rfl (by simp only [scAll,o54.ow.sl.sc])
   have o54':=o54.ow.low e50.st.nx
   have n8:=numB_len9 (runB last r).length (by omega)
   refine ⟨H56,e56,hQ H56 ⟨v53,_,lastP last r,⟨e54.st.then s56 fun i hi=>by rw [hi];exact l7,b56,⟨o54'.step s56 (o54'.ne_bk e54.b7 (by simp only [esU,tagN];omega)),o54.lt⟩,e54.b10.step e54.st.ok s56 d1,e54.b0.step e54.st.ok s56 d2,e54.b2.step e54.st.ok s56 d3,hjla⟩,?_,?_,by omega⟩⟩
   ·rw [←he,hstep]
    simp only [List.append_assoc]
   ·have:(txtB (runB last r)).length≤10009:=by unfold txtB;rw [List.length_append];omega
    rw [List.length_append,List.length_append]
    omega
 ·rintro i H' ⟨vb,bs,last,e,he,hbl,hi4⟩ hi
  have:encGo (l.length-i) last (l.drop i)=[]:=by
   rw [List.drop_of_length_le hi,show l.length-i=0 by omega]
   rfl
  rw [this,List.append_nil] at he
  subst he
  exact ⟨vb,e.b7.ld 0 rfl e.ob.ow.sl.sc,k1 vb H' e.ob e.st⟩
end
section
variable {H:Hp} {N:Nat}
def likeN:List Nat→List Nat→Nat
 | a::l,b::r=>if a=b then likeN l r+1 else 0
 | _,_=>0
theorem likeN_nil (l:List Nat):likeN l []=0:=by cases l <;> rfl
theorem like_ok {a b:List Nat} (ha:a.length<4611686018427387904) (hb:b.length<4611686018427387904) {Q:AV→Hp→Prop} (k: ∀ H',Stp noB H H'→Q (.int .i64 (.ofNat (likeN a b))) H'):Cal env 130 [.str a, .str b] H Q:=by
 refine Cal.start fun hO=>s130 ?_
 unfold S130
 refine ⟨fun m n H'=>Stp noB H H'∧ ∃ j,n= .ofNat j∧j≤a.length∧m=a.length-j∧j+likeN (a.drop j) (b.drop j)=likeN a b,⟨a.length,Stp.refl hO,0,rfl,by omega,by omega,by simp⟩,?_⟩
 rintro m H2 J _ ⟨st,j,rfl,hj,rfl,he⟩
 rw [letH_eq]
 have s6:=st.trans (up_stp (G:=noB) (Stp.refl st.ok) (H2.nx+16) (by omega))
 generalize Hp.mk H2.m (H2.nx+16)=H6 at s6
 have k:=k H6 s6
 have emin:isel (ltI (.ofNat b.length) (.ofNat a.length)) (.ofNat b.length) (.ofNat a.length)= .ofNat (min a.length b.length):=by
  rw [isel_min]
  simp only [Int.ofNat_eq_natCast]
  omega
 rw [emin]
 refine IfB.intro (fun q=>?_) (fun q=>?_)
 ·rw [ltI_nat] at q
  have q:j<min a.length b.length:=of_decide_eq_true q
  have qa:j<a.length:=by omega
  have qb:j<b.length:=by omega
  rw [List.drop_eq_getElem_cons qa,List.drop_eq_getElem_cons qb,likeN] at he
  refine ⟨_,sixF_ok qa,_,sixF_ok qb,IfB.intro (fun q2=>?_) (fun q2=>?_)⟩
  ·have q2:a[j]=b[j]:=by
    rw [eqI_eq] at q2
    simp only [beq_iff_eq,Int.ofNat_eq_natCast] at q2
    omega
   rw [if_pos q2] at he
   exact ⟨a.length-(j+1),by omega,s6,j+1,wrap_i64 (x:=j+1) (by omega),qa,rfl,by omega⟩
  ·have q2:a[j]≠b[j]:=by
    rw [eqI_eq] at q2
    simp only [beq_eq_false_iff_ne,Int.ofNat_eq_natCast,ne_eq] at q2
    omega
   rw [if_neg q2,Nat.add_zero] at he
   rw [he]
   exact k
 ·rw [ltI_nat] at q
  have q: ¬ j<min a.length b.length:=of_decide_eq_false q
  have:likeN (a.drop j) (b.drop j)=0:=by
   rcases Nat.lt_or_ge j b.length with h | h
   ·rw [List.drop_of_length_le (show a.length≤j by omega)]
    rfl
   ·rw [List.drop_of_length_le h,likeN_nil]
  rw [this,Nat.add_zero] at he
  rw [he]
  exact k
def StR (H:Hp) (v:AV) (l:List (List Nat)):Prop:=Sl H 1 v (l.map fun s=>[AV.str s]) true
theorem StR.mono {H':Hp} {v:AV} {l:List (List Nat)} (h:StR H v l) (m:Mo H H'):StR H' v l:=Sl.mono h m
theorem StR.len {v:AV} {l:List (List Nat)} (h:StR H v l):lenS v=some l.length:=by rw [Sl.len h,List.length_map]
end
section
variable {H:Hp} {N:Nat}
def behS:Option (List Nat)→List Nat→Bool
 | some q,s=>ltL s q||eqL s q
 | none,_=>false
def badS (p:Option (List Nat)) (s:List Nat):Bool:=(eqL s []||decide (12<s.length))||behS p s
def riseS:Option (List Nat)→List (List Nat)→Bool
 | _,[]=>true
 | p,s::l=>if badS p s=true then false else riseS (some s) l
theorem riseS_cons (p:Option (List Nat)) (s:List Nat) (l:List (List Nat)):riseS p (s::l)=if badS p s=true then false else riseS (some s) l:=by cases p <;> rfl
def risesB (l:List (List Nat)):Bool:=riseS none l&&decide (l.length≤4096)
def prevS (l:List (List Nat)) (j:Nat):Option (List Nat):=if j=0 then none else l[j-1]?
theorem rises_ok {v:AV} {l:List (List Nat)} {fz:Bool} (hv:Sl H 1 v (l.map fun s=>[AV.str s]) fz) (hl:l.length<4611686018427387904) {Q:AV→Hp→Prop} (k:Q (.bool (risesB l)) H):Cal env 101 [v] H Q:=by
 refine s101 ?_
 unfold S101
 unfold risesB at k
 have hlen:lenS v=some l.length:=by rw [hv.len,List.length_map]
 have helem: ∀ {j:Nat} (hj:j<l.length), ∃ b o,ixF 1 v (.ofNat j)=some (b,o)∧H.load b o 1=some [.str l[j]]:=fun {j} hj=>by
  obtain ⟨b,o,g1,g2,_⟩:=hv.elem (j:=j) (by simpa using hj)
  exact ⟨b,o,g1,by rw [g2,List.getElem_map]⟩
 refine ⟨l.length,hlen,fun m n H'=>H=H'∧ ∃ j,n= .ofNat j∧j≤l.length∧m=l.length-j∧riseS (prevS l j) (l.drop j)=riseS none l,⟨l.length,rfl,0,rfl,by omega,by omega,rfl⟩,?_⟩
 rintro m _ J _ ⟨rfl,j,rfl,hj,rfl,he⟩
 refine IfB.intro (fun q=>?_) (fun q=>?_)
 ·rw [ltI_nat] at q
  have q:j<l.length:=of_decide_eq_true q
  obtain ⟨b,o,g1,g2⟩:=helem q
  rw [List.drop_eq_getElem_cons q,riseS_cons] at he
  have hnext:prevS l (j+1)=some l[j]:=by
   unfold prevS
   rw [if_neg (by omega),Nat.add_sub_cancel,List.getElem?_eq_getElem q]
  rw [←hnext] at he
  refine ⟨b,o,g1,_,g2,fun c H'=>c=(eqL l[j] []||decide (12<l[j].length))∧H=H',IfB.intro (fun q2=>⟨?_,rfl⟩) (fun q2=>⟨?_,rfl⟩),?_⟩
  ·have q2:eqL l[j] []=false:=by simpa using q2
   rw [q2,Bool.false_or]
   exact ltI_nat (a:=12) (b:=l[j].length)
  ·have q2:eqL l[j] []=true:=by simpa using q2
   rw [q2,Bool.true_or]
  rintro _ J2 _ ⟨rfl,rfl⟩
  refine ⟨fun c H'=>c=badS (prevS l j) l[j]∧H=H',IfB.intro (fun q2=>?_) (fun q2=>⟨?_,rfl⟩),?_⟩
  ·have q2:(eqL l[j] []||decide (12<l[j].length))=false:=by simpa only [Bool.not_eq_true'] using q2
   refine ⟨fun c H'=>c=behS (prevS l j) l[j]∧H=H',IfB.intro (fun q3=>?_) (fun q3=>⟨?_,rfl⟩),?_⟩
   ·have q3:0<j:=of_decide_eq_true ((ltI_nat (a:=0) (b:=j)).symm.trans q3)
    obtain ⟨b',o',f1,f2⟩:=str_elem hv (j:=j-1) (by omega)
    have hp:prevS l j=some (l[j-1]'(by omega)):=by
     unfold prevS
     rw [if_neg (by omega),List.getElem?_eq_getElem (by omega)]
    refine ⟨b',o',?_,_,f2,?_,rfl⟩
    ·rw [show (1:Int)= .ofNat 1 from rfl,subN (a:=j) (b:=1) q3 (by omega)]
     exact f1
    ·rw [hp];rfl
   ·have q3: ¬ 0<j:=of_decide_eq_false ((ltI_nat (a:=0) (b:=j)).symm.trans q3)
    unfold prevS
    rw [if_pos (by omega)]
    rfl
   rintro _ J3 _ ⟨rfl,rfl⟩
   exact ⟨by unfold badS;rw [q2,Bool.false_or],rfl⟩
  ·have q2:(eqL l[j] []||decide (12<l[j].length))=true:=by simpa only [Bool.not_eq_false'] using q2
   unfold badS
   rw [q2,Bool.true_or]
  rintro _ J3 _ ⟨rfl,rfl⟩
  refine IfB.intro (fun q2=>?_) (fun q2=>?_)
  ·rw [if_pos q2] at he
   rw [←he,Bool.false_and] at k
   exact k
  ·rw [if_neg (by rw [q2];simp)] at he
   exact ⟨l.length-(j+1),by omega,rfl,j+1,wrap_i64 (x:=j+1) (by omega),q,rfl,he⟩
 ·rw [ltI_nat] at q
  have q:j=l.length:=by have:=of_decide_eq_false q;omega
  subst q
  rw [List.drop_of_length_le (Nat.le_refl _),riseS] at he
  rw [←he,Bool.true_and] at k
  refine ⟨_,hlen,?_⟩
  rw [show (4096:Int)= .ofNat 4096 from rfl,not_ltI]
  exact k
end
section
variable {H:Hp} {N:Nat}
def SrtS (l:List (List Nat)):Prop:= ∀ i j (hi:i<l.length) (hj:j<l.length),i<j→l[i]<l[j]
end
section
variable {H:Hp} {N:Nat}
theorem cnanS_ok {x:List Nat} {Q:AV→Hp→Prop} (h:Q (.bool false) H):Cal env 189 [.str x] H Q:=by
 refine s189 ?_
 unfold S189
 rw [eqL_eq]
 simpa using h
theorem snanS_ok {x:List Nat} {Q:AV→Hp→Prop} (h:Q (.bool false) H):Cal env 125 [.str x] H Q:=by
 refine s125 ?_
 unfold S125
 rw [eqL_eq]
 simpa using h
theorem lessS_ok {a b:List Nat} {Q:AV→Hp→Prop} (k:Q (.bool (ltL a b)) H):Cal env 124 [.str a, .str b] H Q:=by
 refine s124 ?_
 unfold S124
 refine cnanS_ok ⟨_,rfl,fun c H'=>c=false∧H=H',IfB.intro (fun q=>by cases q) (fun _=>⟨rfl,rfl⟩),?_⟩
 rintro _ J _ ⟨rfl,rfl⟩
 refine ⟨fun c H'=>c=ltL a b∧H=H',IfB.intro (fun _=>⟨rfl,rfl⟩) (fun q=>by cases q),?_⟩
 rintro _ J2 _ ⟨rfl,rfl⟩
 exact k
theorem bsearchS_ok {v:AV} {l:List (List Nat)} (hv:StR H v l) (hr:SrtS l) (hl:l.length<4611686018427387904) {a:List Nat} {Q:AV→Hp→Prop}
  (k: ∀ i,i≤l.length→(∀ q (hq:q<l.length),q<i→l[q]<a)→(∀ q (hq:q<l.length),i≤q→ ¬ l[q]<a)→Q (.tup [.int .i64 (.ofNat i), .bool (decide (∃ h:i<l.length,l[i]=a))]) H):Cal env 64 [v, .str a] H Q:=by
 refine s64 ?_
 unfold S64
 refine ⟨l.length,hv.len,fun m x y H'=>H=H'∧ ∃ i j,x= .ofNat i∧y= .ofNat j∧i≤j∧j≤l.length∧m=j-i∧(∀ q (hq:q<l.length),q<i→l[q]<a)∧(∀ q (hq:q<l.length),j≤q→ ¬ l[q]<a),
  ⟨l.length,rfl,0,l.length,rfl,rfl,by omega,by omega,rfl,fun q _ h=>absurd h (Nat.not_lt_zero q),fun q hq h=>absurd hq (by omega)⟩,?_⟩
 rintro m _ J _ _ ⟨rfl,i,j,rfl,rfl,hij,hjl,rfl,hlo,hhi⟩
 rw [half (by omega)]
 refine IfB.intro (fun q=>?_) (fun q=>?_)
 ·rw [ltI_nat] at q
  have q:i<j:=of_decide_eq_true q
  have hm:(i+j) / 2<l.length:=by omega
  obtain ⟨b,o,g1,g2⟩:=str_elem hv hm
  refine ⟨b,o,g1,_,g2,lessS_ok ⟨_,rfl,?_⟩⟩
  rw [ltL_eq]
  refine IfB.intro (fun q2=>?_) (fun q2=>?_)
  ·have q2:=of_decide_eq_true q2
   refine ⟨j-((i+j) / 2+1),by omega,rfl,(i+j) / 2+1,j,wrap_i64 (x:=(i+j) / 2+1) (by omega),rfl,by omega,hjl,rfl,fun z hz hzi=>?_,hhi⟩
   rcases Nat.lt_or_ge z ((i+j) / 2) with h | h
   ·exact List.lt_trans (hr z _ hz hm h) q2
   ·have:z=(i+j) / 2:=by omega
    subst this
    exact q2
  ·have q2:=of_decide_eq_false q2
   refine ⟨(i+j) / 2-i,by omega,rfl,i,(i+j) / 2,rfl,rfl,by omega,by omega,rfl,hlo,fun z hz hzi=>?_⟩
   rcases Nat.lt_or_ge ((i+j) / 2) z with h | h
   ·exact fun hlt=>q2 (List.lt_trans (hr _ z hm hz h) hlt)
   ·have:z=(i+j) / 2:=by omega
    subst this
    exact q2
 ·rw [ltI_nat] at q
  have q: ¬ i<j:=of_decide_eq_false q
  have hij2:i=j:=by omega
  subst hij2
  have k:=k i hjl hlo hhi
  refine ⟨fun c H'=>c=decide (∃ h:i<l.length,l[i]=a)∧H=H',IfB.intro (fun q2=>?_) (fun q2=>⟨?_,rfl⟩),?_⟩
  ·rw [ltI_nat] at q2
   have q2:i<l.length:=of_decide_eq_true q2
   obtain ⟨b,o,g1,g2⟩:=str_elem hv q2
   refine ⟨b,o,g1,_,g2,fun c H'=>c=decide (∃ h:i<l.length,l[i]=a)∧H=H',IfB.intro (fun q3=>?_) (fun q3=>?_),fun _ _ _ h=>h⟩
   ·have q3:eqL l[i] a=false:=by simpa using q3
    rw [eqL_eq,beq_eq_false_iff_ne] at q3
    refine ⟨b,o,g1,_,g2,snanS_ok ⟨_,rfl,fun c H'=>c=false∧H=H',IfB.intro (fun q=>by cases q) (fun _=>⟨rfl,rfl⟩),?_⟩⟩
    rintro _ J2 _ ⟨rfl,rfl⟩
    exact ⟨(decide_eq_false fun h=>q3 h.2).symm,rfl⟩
   ·have q3:eqL l[i] a=true:=by simpa using q3
    rw [eqL_eq,beq_iff_eq] at q3
    exact ⟨(decide_eq_true ⟨q2,q3⟩).symm,rfl⟩
  ·rw [ltI_nat] at q2
   have q2: ¬ i<l.length:=of_decide_eq_false q2
   exact (decide_eq_false fun h=>q2 h.1).symm
  rintro _ J2 _ ⟨rfl,rfl⟩
  exact k
end
section
variable {H:Hp} {N:Nat}
def Fk (H:Hp) (b:Nat) (cells:List AV):Prop:= ∃ es,H.m.get b=some ⟨cells,es,false⟩
theorem Fk.mono {H':Hp} {b:Nat} {cells:List AV} (h:Fk H b cells) (m:Mo H H'):Fk H' b cells:=by
 obtain ⟨es,h⟩:=h
 exact ⟨es,m.fz _ _ h rfl⟩
theorem Fk.load {b:Nat} {cells:List AV} (h:Fk H b cells) (o n:Nat) {l:List AV} (hl:takeC (dropN cells o) n=some l):H.load b o n=some l:=by
 obtain ⟨es,h⟩:=h
 simp only [Hp.load,h]
 exact hl
theorem Fk.ld {b:Nat} {cells:List AV} (h:Fk H b cells) (o:Nat) {c:AV} (hc:nthV cells o=some c) (hs:c.sc=true):H.load b o 1=some [c]:=h.load o 1 (takeC_one _ _ _ hc hs)
theorem Bk.fk {b:Nat} {cells:List AV} {es:Nat} (h:Bk H b cells es) {l:List Nat} (hb:b∈l):Fk (Eng.frz H l) b cells:=by
 refine ⟨es,?_⟩
 rw [frz_get,show H.m.get b=_ from h]
 have:memN b l=true:=by
  induction l with
  | nil=>cases hb
  | cons a l ih=>
   unfold memN
   split
   ·rfl
   ·rename_i hq
    rcases List.mem_cons.1 hb with rfl | hb
    ·rw [Nat.beq_refl] at hq;cases hq
    ·exact ih hb
 simp [this]
def sc1 (s:List Nat):List AV:=[.str s]
def wrdB (last w:List Nat):List Nat:=numB (likeN w last)++txtB (w.drop (likeN w last))
def blkB:List Nat→List (List Nat)→List Nat
 | _,[]=>[]
 | last,w::l=>wrdB last w++blkB w l
theorem blkB_snoc: ∀ (l:List (List Nat)) (last w:List Nat),blkB last (l++[w])=blkB last l++wrdB (l.getLastD last) w
 | [],last,w=>by simp [blkB]
 | x::l,last,w=>by
  rw [List.cons_append,blkB,blkB,blkB_snoc l x w,List.append_assoc]
  congr 2
  cases l <;> rfl
def hds (l:List (List Nat)):List (List Nat):=(List.range ((l.length+3) / 4)).map fun g=>l.getD (4*g) []
def bks (l:List (List Nat)):List (List Nat):=(List.range ((l.length+3) / 4)).map fun g=>blkB (l.getD (4*g) []) ((l.drop (4*g+1)).take 3)
theorem hds_len (l:List (List Nat)):(hds l).length=(l.length+3) / 4:=by simp [hds]
theorem bks_len (l:List (List Nat)):(bks l).length=(l.length+3) / 4:=by simp [bks]
theorem getD_app {l:List (List Nat)} {w:List Nat} {i:Nat} (h:i<l.length):(l++[w]).getD i []=l.getD i []:=by
 simp [List.getD_eq_getElem?_getD,List.getElem?_append_left h]
theorem hds_snoc (l:List (List Nat)) (w:List Nat):hds (l++[w])=if l.length%4=0 then hds l++[w] else hds l:=by
 unfold hds
 split
 ·rename_i h
  have e:((l++[w]).length+3) / 4=(l.length+3) / 4+1:=by simp;omega
  rw [e,List.range_succ,List.map_append]
  congr 1
  ·refine List.map_congr_left fun g hg=>getD_app ?_
   rw [List.mem_range] at hg;omega
  ·simp only [List.map_cons,List.map_nil]
   rw [show 4*((l.length+3) / 4)=l.length by omega]
   simp [List.getD_eq_getElem?_getD]
 ·rename_i h
  have e:((l++[w]).length+3) / 4=(l.length+3) / 4:=by simp;omega
  rw [e]
  refine List.map_congr_left fun g hg=>getD_app ?_
  rw [List.mem_range] at hg;omega
theorem bks_snoc0 (l:List (List Nat)) (w:List Nat) (h:l.length%4=0):bks (l++[w])=bks l++[[]]:=by
 unfold bks
 have e:((l++[w]).length+3) / 4=(l.length+3) / 4+1:=by simp;omega
 rw [e,List.range_succ,List.map_append]
 congr 1
 ·refine List.map_congr_left fun g hg=>?_
  rw [List.mem_range] at hg
  rw [getD_app (by omega),List.drop_append_of_le_length (by omega),List.take_append_of_le_length (by rw [List.length_drop];omega)]
 ·simp only [List.map_cons,List.map_nil]
  rw [show 4*((l.length+3) / 4)=l.length by omega,List.drop_of_length_le (by simp)]
  rfl
theorem bks_snoc1 (l:List (List Nat)) (w:List Nat) (h:l.length%4≠0): ∃ a b,bks l=a++[b]∧bks (l++[w])=a++[b++wrdB (l.getLastD []) w]:=by
 obtain ⟨G,hG⟩: ∃ G,(l.length+3) / 4=G+1:=⟨(l.length+3) / 4-1,by omega⟩
 refine ⟨(List.range G).map fun g=>blkB (l.getD (4*g) []) ((l.drop (4*g+1)).take 3),blkB (l.getD (4*G) []) ((l.drop (4*G+1)).take 3),?_,?_⟩
 ·unfold bks
  rw [hG,List.range_succ,List.map_append]
  rfl
 ·unfold bks
  have e:((l++[w]).length+3) / 4=G+1:=by simp;omega
  rw [e,List.range_succ,List.map_append]
  congr 1
  ·refine List.map_congr_left fun g hg=>?_
   rw [List.mem_range] at hg
   rw [getD_app (by omega),List.drop_append_of_le_length (by omega),List.take_append_of_le_length (by rw [List.length_drop];omega)]
  ·simp only [List.map_cons,List.map_nil]
   congr 1
   rw [getD_app (by omega),List.drop_append_of_le_length (by omega),List.take_of_length_le (by simp;omega),List.take_of_length_le (by simp;omega),blkB_snoc]
   congr 2
   have h4:4*G<l.length:=by omega
   have e2:l=l.take (4*G)++(l[4*G]::l.drop (4*G+1)):=by rw [←List.drop_eq_getElem_cons h4,List.take_append_drop]
   have e3:l.getD (4*G) []=l[4*G]:=by simp [List.getD_eq_getElem?_getD,List.getElem?_eq_getElem h4]
   have key: ∀ (a b:List (List Nat)) (x:List Nat),(a++x::b).getLastD []=b.getLastD x:=fun a b x=>by
    simp [List.getLastD_eq_getLast?,List.getLast?_append,List.getLast?_cons]
   rw [e3, ←key (l.take (4*G)) (l.drop (4*G+1)) l[4*G], ←e2]
structure DcAt (H:Hp) (N p e:Nat) (vh vb:AV) (l:List (List Nat)):Prop where
 bx:Bk H p [.int .i64 (.ofNat l.length),vh,vb] e
 hi:esU<e
 lo:N≤p
 oh:Ow H N 1 vh ((hds l).map sc1)
 ob:Ow H N 1 vb ((bks l).map sc1)
 ne: ∀ i,blkOf vh=some i→blkOf vb≠some i
end
section
variable {H:Hp} {N:Nat}
theorem Ow.lt {es:Nat} {v:AV} {cs:List (List AV)} (h:Ow H N es v cs): ∀ i,blkOf v=some i→i<H.nx:=fun i hi=>by
 rcases h.at_ with ⟨rfl,_⟩ | ⟨b,c,e,bl,rfl,_,h2,_⟩
 ·cases hi
 ·cases hi;exact h2
theorem tmod4 (i:Nat):eqI (Int.tmod (.ofNat i) 4) 0=decide (i%4=0):=by
 rw [eqI_eq]
 simp only [Int.ofNat_eq_natCast]
 have:Int.tmod (i:Int) 4=((i%4:Nat):Int):=by
  rw [Int.tmod_eq_emod_of_nonneg (by omega)];omega
 rw [this]
 rw [Bool.eq_iff_iff]
 simp only [beq_iff_eq,decide_eq_true_eq]
 omega
theorem likeN_le: ∀ a b:List Nat,likeN a b≤a.length∧likeN a b≤b.length
 | [],b=>by simp [likeN]
 | a::l,[]=>by simp [likeN]
 | a::l,b::r=>by
  rw [likeN]
  have:=likeN_le l r
  split
  ·simp only [List.length_cons];omega
  ·simp
theorem wrdB_lt {last w:List Nat} (hw: ∀ b∈w,b<256) (hl:w.length≤64):(∀ b∈wrdB last w,b<256)∧(wrdB last w).length≤100:=by
 have h1:=(likeN_le w last).1
 constructor
 ·intro b hb
  unfold wrdB txtB at hb
  rw [List.mem_append,List.mem_append] at hb
  rcases hb with hb | hb | hb
  ·exact numB_lt (by omega) b hb
  ·exact numB_lt (by rw [List.length_drop];omega) b hb
  ·exact hw b (List.mem_of_mem_drop hb)
 ·unfold wrdB txtB
  have h2:=numB_len9 (likeN w last) (by omega)
  have h3:=numB_len9 (w.drop (likeN w last)).length (by rw [List.length_drop];omega)
  simp only [List.length_append,List.length_drop] at h3 ⊢
  omega
theorem dadd_ok {p e:Nat} {vh vb:AV} {l:List (List Nat)} (h:DcAt H N p e vh vb l) (hN:N≤H.nx) (hln:l.length<16384) (hbk: ∀ b∈bks l,b.length≤400) {w last:List Nat} (hlast:last=l.getLastD []) (hw: ∀ b∈w,b<256) (hl:w.length≤64) (hl2:last.length≤64) {Q:AV→Hp→Prop}
  (k: ∀ vh' vb' H',DcAt H' N p e vh' vb' (l++[w])→Stp (fun i=>N≤i) H H'→Q (.tup []) H'):Cal env 201 [.ptr p 0, .str w, .str last, .int .i64 (.ofNat l.length)] H Q:=by
 refine Cal.start fun hO=>s201 ?_
 unfold S201
 have wide: ∀ {G:Nat→Prop} {H1 H2:Hp},Stp G H1 H2→(∀ i,i<H1.nx→G i→N≤i)→Stp (fun i=>N≤i) H1 H2:=fun s q=>s.wide q
 refine ⟨_,h.bx.ld 0 rfl rfl,?_⟩
 obtain ⟨H7,e7,b7,s7⟩:=h.bx.stp hO (o:=0) (vs:=[.int .i64 (wrapF .i64 (Int.ofNat l.length+1))]) rfl rfl
 refine ⟨H7,e7,?_⟩
 have en:wrapF .i64 (Int.ofNat l.length+1)= .ofNat (l.length+1):=wrap_i64 (x:=l.length+1) (by omega)
 rw [en] at b7
 have nh: ∀ i,blkOf vh=some i→ ¬ i=p:=h.oh.ne_bk h.bx h.hi
 have nb: ∀ i,blkOf vb=some i→ ¬ i=p:=h.ob.ne_bk h.bx h.hi
 have oh7:=h.oh.step s7 nh
 have ob7:=h.ob.step s7 nb
 have hp:p<H7.nx:=s7.ok.lt b7
 have w7:Stp (fun i=>N≤i) H H7:=wide s7 fun i _ q=>by rw [q];exact h.lo
 have hn7:H.nx≤H7.nx:=s7.nx
 rw [tmod4]
 refine IfB.intro (fun q=>?_) (fun q=>?_)
 ·have q:l.length%4=0:=of_decide_eq_true q
  rw [letH_eq]
  have u8:Stp noB H7 ⟨H7.m,H7.nx+21⟩:=up_stp (Stp.refl s7.ok) _ (by omega)
  have b8:=b7.step s7.ok u8 (fun q=>q)
  have oh8:=oh7.quiet u8
  have ob8:=ob7.quiet u8
  have hnx8:(Hp.mk H7.m (H7.nx+21)).nx=H7.nx+21:=rfl
  have hno: ∀ i,H7.nx≤i→(Hp.mk H7.m (H7.nx+21)).m.get i=none:=fun i hi=>s7.ok i hi
  generalize Hp.mk H7.m (H7.nx+21)=H8 at u8 b8 oh8 ob8 hnx8 hno
  have hsh:=oh8.sl.sc
  have hsb:=ob8.sl.sc
  refine ⟨vh,b8.ld 1 rfl hsh,oh8.sl.rf ?_⟩
  rw [letH_eq]
  have m13:Stp noB H7 ⟨H8.m.set (H7.nx+7) (some ⟨[.str w],1,true⟩),H8.nx⟩:=mk_stp u8 H8.nx (H7.nx+7) [.str w] 1 (by omega) (by omega) (Nat.le_refl _) (hno _ (by omega))
  have c13:Bk ⟨H8.m.set (H7.nx+7) (some ⟨[.str w],1,true⟩),H8.nx⟩ (H7.nx+7) [.str w] 1:=mk_bk H8 H8.nx (H7.nx+7) [.str w] 1
  have hno13: ∀ i,H7.nx≤i→i≠H7.nx+7→(Hp.mk (H8.m.set (H7.nx+7) (some ⟨[.str w],1,true⟩)) H8.nx).m.get i=none:=fun i hi hn=>by
   show (H8.m.set _ _).get i=none
   rw [Tr.get_set_ne _ _ hn];exact hno i hi
  have hnx13:(Hp.mk (H8.m.set (H7.nx+7) (some ⟨[.str w],1,true⟩)) H8.nx).nx=H7.nx+21:=hnx8
  generalize Hp.mk (H8.m.set (H7.nx+7) (some ⟨[.str w],1,true⟩)) H8.nx=H13 at m13 c13 hno13 hnx13
  have oh13:=oh7.quiet m13
  have ob13:=ob7.quiet m13
  have b13:=b7.step s7.ok m13 (fun q=>q)
  refine oh13.appS m13.ok (by omega) (lit_sl c13 rfl rfl) (by simp [hds_len,room];omega) (by decide) fun vh' H15 o15 t15 f15=>?_
  have b15:=b13.step m13.ok t15 (fun q=>nh _ q rfl)
  have ob15:=ob13.step t15 (fun i hi hg=>h.ne i hg hi)
  refine ⟨vb,b15.ld 2 rfl hsb,ob15.sl.rf ⟨b8.ld 2 rfl hsb,ob15.sl.rf ?_⟩⟩
  rw [letH_eq]
  have u15:Stp (isB vh) H7 H15:=m13.of.trans t15
  have hnx15:H7.nx+21≤H15.nx:=by have:=t15.nx;omega
  have f20:H15.m.get (H7.nx+13)=none:=t15.mo.no _ (by omega) (hno13 _ (by omega) (by omega))
  have m20:Stp (isB vh) H7 ⟨H15.m.set (H7.nx+13) (some ⟨[.str []],1,true⟩),H15.nx⟩:=mk_stp u15 H15.nx (H7.nx+13) [.str []] 1 (by omega) (by omega) (Nat.le_refl _) f20
  have c20:Bk ⟨H15.m.set (H7.nx+13) (some ⟨[.str []],1,true⟩),H15.nx⟩ (H7.nx+13) [.str []] 1:=mk_bk H15 H15.nx (H7.nx+13) [.str []] 1
  have g20:Gr (fun i=>i=H7.nx+13) H15 ⟨H15.m.set (H7.nx+13) (some ⟨[.str []],1,true⟩),H15.nx⟩:=fun i _ hi=>Tr.get_set_ne _ _ hi
  have n20:(Hp.mk (H15.m.set (H7.nx+13) (some ⟨[.str []],1,true⟩)) H15.nx).nx=H15.nx:=rfl
  generalize Hp.mk (H15.m.set (H7.nx+13) (some ⟨[.str []],1,true⟩)) H15.nx=H20 at m20 c20 g20 n20
  have lh: ∀ i,blkOf vh=some i→i<H7.nx:=oh7.lt
  have lb: ∀ i,blkOf vb=some i→i<H7.nx:=ob7.lt
  have fh': ∀ i,blkOf vh'=some i→blkOf vh=some i∨H7.nx+21≤i:=fun i hi=>(f15 i hi).imp id fun q=>by omega
  have oh20:=o15.keep (by omega) g20 fun i hi=>by rcases fh' i hi with h1 | h1;have:=lh i h1;omega;omega
  have ob20:=ob15.keep (by omega) g20 fun i hi=>by have:=lb i hi;omega
  have b20:=b15.keep (by omega) g20 (by omega)
  refine ob20.appS m20.ok (by omega) (lit_sl c20 rfl rfl) (by simp [bks_len,room];omega) (by decide) fun vb' H22 o22 t22 f22=>?_
  have fb': ∀ i,blkOf vb'=some i→blkOf vb=some i∨H7.nx+21≤i:=fun i hi=>(f22 i hi).imp id fun q=>by omega
  have b22:=b20.step m20.ok t22 (fun q=>nb _ q rfl)
  have oh22:=oh20.step t22 (fun i hi hg=>by
   rcases fh' i hi with h1 | h1
   ·exact h.ne i h1 hg
   ·have:=lb i hg;omega)
  refine Chk.intro oh22.sl.sc ?_
  obtain ⟨H26,e26,b26,s26⟩:=b22.stp t22.ok (o:=1) (vs:=[vh']) rfl (by simp only [scAll,oh22.sl.sc])
  refine ⟨H26,e26,Chk.intro o22.sl.sc ?_⟩
  obtain ⟨H30,e30,b30,s30⟩:=b26.stp s26.ok (o:=2) (vs:=[vb']) rfl (by simp only [scAll,o22.sl.sc])
  refine ⟨H30,e30,?_⟩
  have ph': ∀ i,blkOf vh'=some i→ ¬ i=p:=oh22.ne_bk b22 h.hi
  have pb': ∀ i,blkOf vb'=some i→ ¬ i=p:=o22.ne_bk b22 h.hi
  have oh30:=(oh22.step s26 ph').step s30 ph'
  have ob30:=(o22.step s26 pb').step s30 pb'
  refine k vh' vb' H30 ⟨?_,h.hi,h.lo,?_,?_,fun i hi hg=>?_⟩ ?_
  ·rw [List.length_append];exact b30
  ·rw [hds_snoc,if_pos q,List.map_append];exact oh30
  ·rw [bks_snoc0 _ _ q,List.map_append];exact ob30
  ·rcases fh' i hi with h1 | h1
   ·rcases fb' i hg with h2 | h2
    ·exact h.ne i h1 h2
    ·have:=lh i h1;omega
   ·rcases f22 i hg with h2 | h2
    ·have:=lb i h2;omega
    ·rcases f15 i hi with h3 | h3
     ·have:=lh i h3;omega
     ·have:=oh20.lt i hi
      omega
  ·refine w7.trans ((wide m20 fun i _ hg=>oh7.isB_low i hg).trans ((wide t22 fun i _ hg=>ob20.isB_low i hg).trans ((wide s26 fun i _ q=>by rw [q];exact h.lo).trans (wide s30 fun i _ q=>by rw [q];exact h.lo))))
 ·have q:l.length%4≠0:=of_decide_eq_false q
  refine like_ok (by omega) (by omega) fun H32 s32=>⟨_,rfl,?_⟩
  rw [letH_eq]
  have u34:Stp noB H7 ⟨H32.m,H32.nx+7⟩:=up_stp s32 _ (by omega)
  generalize Hp.mk H32.m (H32.nx+7)=H34 at u34
  have hk:=(likeN_le w last).1
  refine num_ok (l:=[]) (Sl.nil (fz:=true)) (fun _ h=>by cases h) (by simp) (by simp only [Int.ofNat_eq_natCast];omega) fun v35 H36 o36 s36=>⟨v35,rfl,w.drop (likeN w last),?_,?_⟩
  ·rw [subF_ok (lo:=likeN w last) (hi:=w.length) (.inl ⟨_,rfl⟩) (.inr ⟨rfl,rfl⟩) hk (Nat.le_refl _),List.take_of_length_le (by simp)]
  have e0:[]++numB (Int.ofNat (likeN w last)).toNat=numB (likeN w last):=rfl
  rw [e0] at o36
  have h9:=numB_len9 (likeN w last) (by omega)
  refine text_ok o36.sl o36.lt (s:=w.drop (likeN w last)) (fun b hb=>hw b (List.mem_of_mem_drop hb)) (by rw [List.length_drop];omega) fun v39 H40 o40 s40=>⟨v39,rfl,?_⟩
  rw [letH_eq]
  have u42:Stp noB H7 ⟨H40.m,H40.nx+17⟩:=up_stp (u34.trans (s36.trans s40)) _ (by omega)
  have u42':Stp noB H40 ⟨H40.m,H40.nx+17⟩:=up_stp (Stp.refl s40.ok) _ (by omega)
  generalize Hp.mk H40.m (H40.nx+17)=H42 at u42 u42'
  have o42:Ob H42 H36.nx v39 (wrdB last w):=⟨o40.ow.quiet u42',o40.lt⟩
  have b42:=b7.step s7.ok u42 (fun q=>q)
  have oh42:=oh7.quiet u42
  have ob42:=ob7.quiet u42
  refine ⟨vb,b42.ld 2 rfl ob42.sl.sc,ob42.sl.rf ⟨vb,b42.ld 2 rfl ob42.sl.sc,ob42.sl.rf ?_⟩⟩
  obtain ⟨a,b,ea,eb⟩:=bks_snoc1 l w q
  have hlen:(bks l).length=a.length+1:=by rw [ea];simp
  rw [ea,List.map_append] at ob42
  have hlen2:(List.map sc1 a++List.map sc1 [b]).length=a.length+1:=by simp
  refine ⟨a.length+1,by rw [ob42.sl.len,hlen2],?_⟩
  have ej:wrapF .i64 (Int.ofNat (a.length+1)-1)= .ofNat a.length:=by
   rw [show (1:Int)= .ofNat 1 from rfl]
   have:=subN (a:=a.length+1) (b:=1) (by omega) (by rw [bks_len] at hlen;omega)
   rw [this];rfl
  rw [ej]
  have hbl:b.length≤400:=hbk b (by rw [ea];simp)
  have hb':(b++wrdB last w).length≤600:=by
   have:=(wrdB_lt (last:=last) hw hl).2
   rw [List.length_append];omega
  have hj:a.length<(List.map sc1 a++List.map sc1 [b]).length:=by omega
  have hel:(List.map sc1 a++List.map sc1 [b])[a.length]=[AV.str b]:=by
   rw [List.getElem_append_right (by simp)]
   simp [sc1]
  obtain ⟨bb,oo,g1,g2,g3,H58,e58,o58,s58⟩:=ob42.setS u42.ok hj 0 (vs:=[.str (b++wrdB last w)]) (by simp) rfl
  rw [hel] at g2
  refine ⟨bb,oo,g1,b,g2,wrdB last w,toStr_bt o42.sl o42.lt,Chk.intro (bleT (by rw [List.length_append] at hb';omega)) ⟨bb,oo,g1,H58,e58,?_⟩⟩
  have pb': ∀ i,isB vb i→N≤i:=fun i hi=>ob42.isB_low i hi
  have b58:=b42.step u42.ok s58 (fun q=>nb _ q rfl)
  have oh58:=oh42.step s58 (fun i hi hg=>h.ne i hi hg)
  refine k vh vb H58 ⟨?_,h.hi,h.lo,?_,?_,h.ne⟩ (w7.trans ((wide u42 fun i _ q=>q.elim).trans (wide s58 fun i _ hg=>pb' i hg)))
  ·rw [List.length_append];exact b58
  ·rw [hds_snoc,if_neg q];exact oh58
  ·rw [eb, ←hlast,List.map_append]
   have e9:(List.map sc1 a++List.map sc1 [b]).set a.length (List.take 0 (List.map sc1 a++List.map sc1 [b])[a.length]++([AV.str (b++wrdB last w)]++List.drop (0+[AV.str (b++wrdB last w)].length) (List.map sc1 a++List.map sc1 [b])[a.length]))=List.map sc1 a++List.map sc1 [b++wrdB last w]:=by
    rw [hel,List.set_append_right _ _ (by simp)]
    simp [sc1]
   rw [e9] at o58
   exact o58
end
section
variable {H:Hp} {N:Nat}
def gdW:List Nat→List (List Nat)→Prop
 | _,[]=>True
 | last,w::l=>last<w∧w.length≤64∧(∀ b∈w,b<256)∧gdW w l
theorem gdW_all: ∀ {l:List (List Nat)} {last:List Nat},gdW last l→ ∀ w∈l,w.length≤64∧ ∀ b∈w,b<256
 | [],_,_,w,hw=>by cases hw
 | x::l,last,h,w,hw=>by
  obtain ⟨h1,h2,h3,h4⟩:=h
  rcases List.mem_cons.1 hw with rfl | hw
  ·exact ⟨h2,h3⟩
  ·exact gdW_all h4 w hw
theorem gdW_at: ∀ {l:List (List Nat)} {last:List Nat},gdW last l→ ∀ (i:Nat) (h:i<l.length),(l.take i).getLastD last<l[i]
 | x::l,last,h,0,_=>by simpa using h.1
 | x::l,last,h,i+1,hi=>by
  have:=gdW_at h.2.2.2 i (by simpa using hi)
  rw [List.take_succ_cons,List.getLastD_cons,List.getElem_cons_succ]
  exact this
theorem blkB_len: ∀ (l:List (List Nat)) (last:List Nat),(∀ w∈l,w.length≤64∧ ∀ b∈w,b<256)→(blkB last l).length≤100*l.length
 | [],_,_=>by simp [blkB]
 | w::l,last,h=>by
  have h1:=blkB_len l w fun x hx=>h x (List.mem_cons_of_mem _ hx)
  obtain ⟨h2,h3⟩:=h w List.mem_cons_self
  have h4:=(wrdB_lt (last:=last) h3 h2).2
  rw [blkB,List.length_append,List.length_cons]
  omega
theorem bks_small {l:List (List Nat)} (h: ∀ w∈l,w.length≤64∧ ∀ b∈w,b<256): ∀ b∈bks l,b.length≤400:=fun b hb=>by
 obtain ⟨g,_,rfl⟩:=List.mem_map.1 hb
 have:=blkB_len ((l.drop (4*g+1)).take 3) (l.getD (4*g) []) fun w hw=>h w (List.mem_of_mem_drop (List.mem_of_mem_take hw))
 have h3:((l.drop (4*g+1)).take 3).length≤3:=by rw [List.length_take];omega
 omega
def DcR (H:Hp) (p:Nat) (l:List (List Nat)):Prop:= ∃ vh vb,Fk H p [.int .i64 (.ofNat l.length),vh,vb]∧StR H vh (hds l)∧StR H vb (bks l)
theorem DcR.mono {H':Hp} {p:Nat} {l:List (List Nat)} (h:DcR H p l) (m:Mo H H'):DcR H' p l:=by
 obtain ⟨vh,vb,h1,h2,h3⟩:=h
 exact ⟨vh,vb,h1.mono m,h2.mono m,h3.mono m⟩
theorem Sl.frz_any {es:Nat} {v:AV} {cs:List (List AV)} {fz:Bool} (h:Sl H es v cs fz) {l:List Nat} (hl: ∀ i,blkOf v=some i→i∈l):Sl (Eng.frz H l) es v cs true:=
 ⟨h.rw,h.at_.imp id fun ⟨b,o,c,e,bl,h1,h2,h3,h4,h5⟩=>⟨b,o,c,e,⟨bl.cells,bl.es,bl.rw&& !(memN b l)⟩,h1,h2,by rw [frz_get,h3];rfl,h4,fun _=>by
  have hb:b∈l:=hl b (by rw [h1];rfl)
  have:memN b l=true:=by
   clear hl
   induction l with
   | nil=>cases hb
   | cons a l ih=>
    unfold memN
    split
    ·rfl
    ·rename_i hq
     rcases List.mem_cons.1 hb with rfl | hb
     ·rw [Nat.beq_refl] at hq;cases hq
     ·exact ih hb
  simp [this]⟩⟩
theorem mem_blks {v:AV} {i:Nat} (h:blkOf v=some i):i∈blks v:=by
 unfold blks
 rw [h]
 exact List.mem_singleton.2 rfl
theorem DcAt.frz {p e:Nat} {vh vb:AV} {l:List (List Nat)} (h:DcAt H N p e vh vb l):DcR (Eng.frz H (p::(blks vh++blks vb))) p l:=
 ⟨vh,vb,h.bx.fk List.mem_cons_self,h.oh.sl.frz_any fun i hi=>List.mem_cons_of_mem _ (List.mem_append_left _ (mem_blks hi)),h.ob.sl.frz_any fun i hi=>List.mem_cons_of_mem _ (List.mem_append_right _ (mem_blks hi))⟩
theorem sc_elem {v:AV} {l:List (List Nat)} {fz:Bool} (h:Sl H 1 v (l.map sc1) fz) {j:Nat} (hj:j<l.length): ∃ b o,ixF 1 v (.ofNat j)=some (b,o)∧H.load b o 1=some [.str l[j]]:=by
 obtain ⟨b,o,g1,g2,_⟩:=h.elem (j:=j) (by simpa using hj)
 exact ⟨b,o,g1,by rw [g2,List.getElem_map];rfl⟩
theorem dbuild_ok {v:AV} {l:List (List Nat)} {fz:Bool} (hv:Sl H 1 v (l.map sc1) fz) (hg:gdW [] l) (hl:l.length≤16384) {Q:AV→Hp→Prop}
  (k: ∀ p H',DcR H' p l→H.nx≤p→Stp noB H H'→Q (.tup [.ptr p 0, .int .i64 0]) H'):Cal env 156 [v] H Q:=by
 refine Cal.start fun hO=>Cal.behind (s156 ?_)
 unfold S156
 have hlen:lenS v=some l.length:=by rw [hv.len,List.length_map]
 have hall:=gdW_all hg
 refine ⟨l.length,hlen,IfB.intro (fun q=>?_) (fun _=>?_)⟩
 ·rw [show (16384:Int)= .ofNat 16384 from rfl,ltI_nat] at q
  have:=of_decide_eq_true q
  omega
 refine New.stp hO fun H2 b2 s2=>⟨l.length,hlen,?_⟩
 have lo2:H.nx<H2.nx:=s2.ok.lt b2
 refine ⟨fun m s n H'=> ∃ i vh vb e,n= .ofNat i∧i≤l.length∧m=l.length-i∧s=(l.take i).getLastD []∧DcAt H' H.nx H.nx e vh vb (l.take i)∧Stp noB H H',
  ⟨l.length,0, .nils, .nils,_,rfl,by omega,by omega,by simp,by rw [List.take_zero];exact ⟨b2,by simp only [esU,tagN];omega,Nat.le_refl _,Ow.nil,Ow.nil,fun i h=>by cases h⟩,s2⟩,?_⟩
 rintro m H6 J s n ⟨i,vh,vb,e,rfl,hi,rfl,rfl,hd,st⟩
 refine IfB.intro (fun q=>?_) (fun q=>?_)
 ·rw [ltI_nat] at q
  have q:i<l.length:=of_decide_eq_true q
  have sl6:=hv.quiet hO st
  obtain ⟨p,o,g1,g2⟩:=sc_elem sl6 q
  refine ⟨p,o,g1,l[i],g2,?_⟩
  have hlt:=gdW_at hg i q
  obtain ⟨hw1,hw2⟩:=hall l[i] (List.getElem_mem q)
  refine ⟨fun c H'=>c=false∧H6=H',IfB.intro (fun _=>⟨?_,rfl⟩) (fun q2=>?_),?_⟩
  ·rw [show (64:Int)= .ofNat 64 from rfl,ltI_nat]
   exact decide_eq_false (by omega)
  ·rw [ltL_eq,decide_eq_false (List.lt_asymm hlt),Bool.false_or,Bool.not_eq_false'] at q2
   rw [eqL_eq,beq_iff_eq] at q2
   rw [q2] at hlt
   exact absurd hlt (List.lt_irrefl _)
  rintro _ J2 _ ⟨rfl,rfl⟩
  have hlast:((l.take i).getLastD []).length≤64:=by
   rw [List.getLastD_eq_getLast?]
   cases h:(l.take i).getLast? with
   | none=>simp
   | some x=>exact (hall x (List.mem_of_mem_take (List.mem_of_getLast? h))).1
  have hlt16:(l.take i).length=i:=by rw [List.length_take];omega
  have key:=dadd_ok (Q:=fun v18 H19=>v18= .tup []∧ ∃ m10,m10<l.length-i∧ ∃ i' vh vb e,wrapF .i64 (Int.ofNat i+1)= .ofNat i'∧i'≤l.length∧m10=l.length-i'∧l[i]=(l.take i').getLastD []∧DcAt H19 H.nx H.nx e vh vb (l.take i')∧Stp noB H H19) hd (by have:=st.nx;omega) (by omega) (bks_small fun w hw=>hall w (List.mem_of_mem_take hw)) (w:=l[i]) (last:=(l.take i).getLastD []) rfl hw2 hw1 hlast fun vh' vb' H' hd' s'=>?_
  ·rw [hlt16] at key;exact key
  ·refine ⟨rfl,l.length-(i+1),by omega,i+1,vh',vb',e,wrap_i64 (x:=i+1) (by omega),q,rfl,?_,?_,st.then s' fun j hj=>hj⟩
   ·rw [List.getLastD_eq_getLast?,take_snoc q,List.getLast?_append];rfl
   ·rw [take_snoc q];exact hd'
 ·rw [ltI_nat] at q
  have q:i=l.length:=by have:=of_decide_eq_false q;omega
  subst q
  rw [List.take_length] at hd
  refine ⟨H.nx::(blks vh++blks vb),k H.nx _ hd.frz (Nat.le_refl _) (st.frz fun i hi=>?_)⟩
  rcases List.mem_cons.1 hi with rfl | hi
  ·exact Nat.le_refl _
  ·rcases List.mem_append.1 hi with hi | hi
   ·exact hd.oh.blks_low i hi
   ·exact hd.ob.blks_low i hi
end
theorem snoc_ind {α:Type} {P:List α→Prop} (h0:P []) (h1: ∀ l a,P l→P (l++[a])) (l:List α):P l:=by
 have key: ∀ m:List α,P m.reverse:=fun m=>by
  induction m with
  | nil=>exact h0
  | cons a m ih=>rw [List.reverse_cons];exact h1 _ _ ih
 have:=key l.reverse
 rwa [List.reverse_reverse] at this
section
variable {H:Hp} {N:Nat}
theorem bk_one {p:Nat} {c:List AV} {es:Nat} (h:Bk H p c es) (hc:c.length=es) (hs:scAll c=true) (hN:N≤p) (hp:p<H.nx):Ow H N es (.slice p 0 1 1 true) [c]:=
 ⟨fun x hx=>by rw [List.mem_singleton] at hx;subst hx;exact ⟨hc,hs⟩, .inr ⟨p,1,true,_,rfl,hN,hp,Nat.le_refl _,h,rfl, .inl rfl,by rw [hc,Nat.one_mul],⟨[],by simp [dropN]⟩,fun _=>rfl⟩⟩
theorem StR.sl {v:AV} {l:List (List Nat)} (h:StR H v l):Sl H 1 v (l.map sc1) true:=h
end
section
variable {H:Hp} {N:Nat}
theorem letUp {n:Nat} {K:Hp→Prop} (hO:Ok H) (hn:H.nx≤n) (k: ∀ H',Stp noB H H'→H'.nx=n→(∀ i,H'.m.get i=H.m.get i)→K H'):letH ⟨H.m,n⟩ K:=by
 rw [letH_eq]
 exact k _ (up_stp (Stp.refl hO) _ hn) rfl fun _=>rfl
def Kp (H H':Hp):Prop:=H.nx≤H'.nx∧ ∀ j bl,H.m.get j=some bl→H'.m.get j=some bl
theorem letMk {G:Nat→Prop} {H0:Hp} {i n es:Nat} {c:List AV} {K:Hp→Prop} (s:Stp G H0 H) (h0:H0.nx≤i) (hi:i<n) (hn:H.nx≤n) (hf:H.m.get i=none) (k: ∀ H',Stp G H0 H'→Bk H' i c es→H'.nx=n→Kp H H'→(∀ j,j≠i→H'.m.get j=H.m.get j)→K H'):letH ⟨H.m.set i (some ⟨c,es,true⟩),n⟩ K:=by
 rw [letH_eq]
 exact k _ (mk_stp s n i c es h0 hi hn hf) (mk_bk H n i c es) rfl ⟨hn,fun j bl hj=>(Tr.get_set_ne _ _ fun q=>by rw [q,hf] at hj;cases hj).trans hj⟩ fun j hj=>Tr.get_set_ne _ _ hj
section
variable {H1:Hp} {b:Nat} {cells:List AV} {es:Nat} {v:AV} {cs:List (List AV)} {fz:Bool}
theorem Bk.kp (h:Bk H b cells es) (g:Kp H H1):Bk H1 b cells es:=g.2 _ _ h
theorem Ow.kp (h:Ow H N es v cs) (g:Kp H H1):Ow H1 N es v cs:=⟨h.rw,h.at_.imp id fun ⟨b,c,e,bl,h1,h2,h3,h4,h5,h6⟩=>⟨b,c,e,bl,h1,h2,Nat.lt_of_lt_of_le h3 g.1,h4,g.2 _ _ h5,h6⟩⟩
end
end
section
variable {H:Hp} {N:Nat}
def all2 {α β:Type} (R:α→β→Prop):List α→List β→Prop
 | [],[]=>True
 | a::l,b::r=>R a b∧all2 R l r
 | _,_=>False
theorem all2_mono {α β:Type} {R S:α→β→Prop} (h: ∀ a b,R a b→S a b): ∀ {l:List α} {r:List β},all2 R l r→all2 S l r
 | [],[],_=>trivial
 | _::_,_::_,q=>⟨h _ _ q.1,all2_mono h q.2⟩
 | [],_::_,q=>q.elim
 | _::_,[],q=>q.elim
theorem all2_snoc {α β:Type} {R:α→β→Prop} {a:α} {b:β} (hab:R a b): ∀ {l:List α} {r:List β},all2 R l r→all2 R (l++[a]) (r++[b])
 | [],[],_=>⟨hab,trivial⟩
 | _::_,_::_,q=>⟨q.1,all2_snoc hab q.2⟩
 | [],_::_,q=>q.elim
 | _::_,[],q=>q.elim
theorem all2_len {α β:Type} {R:α→β→Prop}: ∀ {l:List α} {r:List β},all2 R l r→l.length=r.length
 | [],[],_=>rfl
 | _::_,_::_,q=>by simp [all2_len q.2]
 | [],_::_,q=>q.elim
 | _::_,[],q=>q.elim
theorem all2_at {α β:Type} {R:α→β→Prop}: ∀ {l:List α} {r:List β},all2 R l r→ ∀ i (h:i<l.length) (h2:i<r.length),R l[i] r[i]
 | _::_,_::_,q,0,_,_=>q.1
 | _::_,_::_,q,i+1,h,h2=>all2_at q.2 i (by simpa using h) (by simpa using h2)
theorem all2_of {α β:Type} {R:α→β→Prop}: ∀ {l:List α} {r:List β},l.length=r.length→(∀ i (h:i<l.length) (h2:i<r.length),R l[i] r[i])→all2 R l r
 | [],[],_,_=>trivial
 | _::_,_::_,h,q=>⟨q 0 (by simp) (by simp),all2_of (by simpa using h) fun i h1 h2=>q (i+1) (by simpa using h1) (by simpa using h2)⟩
 | [],_::_,h,_=>by cases h
 | _::_,[],h,_=>by cases h
def atR (H:Hp) (c:Int × AV) (x:Int × List Int):Prop:=c.1=x.1∧AtR H c.2 x.2
def spR (H:Hp) (c:Int × AV) (x:Post):Prop:=c.1=x.1∧SpR H c.2 x.2
theorem SpR.of {v:AV} {cs:List (Int × AV)} {l:List (Int × List Int)} (h:Sl H 2 v (cs.map pc) true) (q:all2 (atR H) cs l):SpR H v l:=⟨cs,h,all2_len q,fun i h1 h2=>all2_at q i h1 h2⟩
theorem PoR.of {v:AV} {cs:List (Int × AV)} {l:List Post} (h:Sl H 2 v (cs.map pc) true) (q:all2 (spR H) cs l):PoR H v l:=⟨cs,h,all2_len q,fun i h1 h2=>all2_at q i h1 h2⟩
theorem spR.mono {H':Hp} {c:Int × AV} {x:Post} (h:spR H c x) (m:Mo H H'):spR H' c x:=⟨h.1,h.2.mono m⟩
theorem scPc {n:Int} {v:AV} (h:v.sc=true):scAll [.int .i64 n,v]=true:=by simp only [scAll,h];rfl
end
section
variable {H:Hp} {N:Nat}
theorem eqI_dec (a b:Int):eqI a b=decide (a=b):=by rw [eqI_eq,Bool.eq_iff_iff];simp
end
section
variable {H:Hp} {N:Nat}
theorem lt_tri: ∀ s w:List Nat,s<w∨s=w∨w<s
 | [],[]=> .inr (.inl rfl)
 | [],_::_=> .inl (List.nil_lt_cons _ _)
 | _::_,[]=> .inr (.inr (List.nil_lt_cons _ _))
 | a::l,b::r=>by
  rw [List.cons_lt_cons_iff,List.cons_lt_cons_iff,List.cons.injEq]
  rcases Nat.lt_trichotomy a b with h | h | h
  ·exact .inl (.inl h)
  ·rcases lt_tri l r with g | g | g
   ·exact .inl (.inr ⟨h,g⟩)
   ·exact .inr (.inl ⟨h,g⟩)
   ·exact .inr (.inr (.inr ⟨h.symm,g⟩))
  ·exact .inr (.inr (.inl h))
end
section
variable {H:Hp} {N:Nat}
structure Seg where
 ids:List (List Nat)
 n:Nat
 xs:List Int
 words:List (List Nat)
 lists:List (List Nat)
structure SegR (H:Hp) (p q c:Nat) (s:Seg) (m:Nat→Bool):Prop where
 at_: ∃ vi w vl ws,Fk H p [vi, .ptr w 0,vl, .ptr q 0]∧StR H vi s.ids∧DcR H w s.words∧StR H vl s.lists∧SetAt H q c s.n m ws
end
section
variable {H:Hp} {N:Nat}
def Kx (X:Nat→Prop) (H H':Hp):Prop:=H.nx≤H'.nx∧ ∀ j bl,H.m.get j=some bl→(bl.rw=false∨ ¬ X j)→H'.m.get j=some bl
section
variable {H1:Hp} {X:Nat→Prop} {b:Nat} {cells:List AV} {es:Nat} {v:AV} {cs:List (List AV)}
theorem Bk.kx (h:Bk H b cells es) (g:Kx X H H1) (hb: ¬ X b):Bk H1 b cells es:=g.2 _ _ h (.inr hb)
theorem Ow.kx (h:Ow H N es v cs) (g:Kx X H H1) (hx: ∀ i,blkOf v=some i→ ¬ X i):Ow H1 N es v cs:=⟨h.rw,h.at_.imp id fun ⟨b,c,e,bl,h1,h2,h3,h4,h5,h6⟩=>⟨b,c,e,bl,h1,h2,Nat.lt_of_lt_of_le h3 g.1,h4,g.2 _ _ h5 (.inr (hx b (by rw [h1];rfl))),h6⟩⟩
end
theorem fldapp {H15 H20:Hp} {G:Nat→Prop} {p0 e o i:Nat} {cells:List AV} {vi:AV} {cs:List (List AV)} {s:List Nat} {e1:Nat} {K:Hp→Prop} (st:Stp G H15 H20) (hi0:H15.nx≤i) (hi:i<H20.nx) (hf:H20.m.get i=none) (b:Bk H20 p0 cells e) (he:esU<e) (hp:p0<H15.nx) (ow:Ow H20 N 1 vi cs) (hv: ∀ j,blkOf vi=some j→j<H15.nx) (hN:N≤H15.nx) (hb:(cs.length+1)*16≤room)
  (k: ∀ v' cells' H',over cells o [v']=some cells'→Bk H' p0 cells' e→Ow H' N 1 v' (cs++[[.str s]])→Kx (fun j=>j=p0∨isB vi j) H20 H'→Stp (fun j=>G j∨(j=p0∨isB vi j)) H15 H'→(∀ j,blkOf v'=some j→blkOf vi=some j∨H20.nx≤j)→K H') (ho: ∀ v, ∃ cells',over cells o [v]=some cells'):
  letH ⟨H20.m.set i (some ⟨[.str s],e1,true⟩),H20.nx⟩ fun H23=> ∃ v24 H25,appF 1 16 H23 vi (.slice i 0 1 1 true)=some (v24,H25)∧Chk (AV.sc v24) (∃ H26,Hp.store H25 p0 o [v24]=some H26∧K H26):=by
 refine letMk st hi0 hi (Nat.le_refl _) hf fun H23 s23 b23 n23 kp23 g23=>?_
 have ow23:=ow.kp kp23
 have bx23:=b.kp kp23
 have n20:=st.nx
 refine ow23.appS s23.ok (by omega) (lit_sl b23 rfl rfl) (by simpa using hb) (by decide) fun v24 H25 o25 s25 f25=>?_
 have nv: ∀ j,blkOf vi=some j→ ¬ j=p0:=ow23.ne_bk bx23 he
 have bx25:=bx23.step s23.ok s25 (fun q=>nv p0 q rfl)
 refine Chk.intro o25.sl.sc ?_
 obtain ⟨cells',hc⟩:=ho v24
 obtain ⟨H26,e26,b26,s26⟩:=bx25.stp s25.ok (o:=o) (vs:=[v24]) hc (by simp only [scAll,o25.sl.sc])
 have nv24: ∀ j,blkOf v24=some j→ ¬ j=p0:=o25.ne_bk bx25 he
 refine ⟨H26,e26,k v24 cells' H26 hc b26 (o25.step s26 nv24) ?_ ?_ fun j hj=>(f25 j hj).imp id fun q=>by omega⟩
 ·refine ⟨by have:=kp23.1;have:=s25.nx;have:=s26.nx;omega,fun j bl hj q=>?_⟩
  have h23:=kp23.2 _ _ hj
  rcases q with q | q
  ·exact s26.mo.fz _ _ (s25.mo.fz _ _ h23 q) q
  ·have h25:=(s25.gr j (s23.ok.lt h23) fun x=>q (.inr x)).trans h23
   exact (s26.gr j (s25.ok.lt h25) fun x=>q (.inl x)).trans h25
 ·exact (s23.wide fun j _ x=> .inl x).trans ((s25.wide fun j _ x=> .inr (.inr x)).trans (s26.wide fun j _ x=> .inr (.inl x)))
end
section
variable {H:Hp} {N:Nat}
theorem blks_mem {v:AV} {i:Nat} (h:i∈blks v):blkOf v=some i:=by
 unfold blks at h
 split at h
 ·rename_i b hb;rw [List.mem_singleton] at h;subst h;exact hb
 ·cases h
theorem Ow.frzk {es:Nat} {v:AV} {cs:List (List AV)} (h:Ow H N es v cs) {l:List Nat} (hl: ∀ i,blkOf v=some i→i ∉ l):Ow (Eng.frz H l) N es v cs:=
 ⟨h.rw,h.at_.imp id fun ⟨b,c,e,bl,h1,h2,h3,h4,h5,h6⟩=>⟨b,c,e,bl,h1,h2,by rw [frz_nx];exact h3,h4,(frz_keep (hl b (by rw [h1];rfl))).trans h5,h6⟩⟩
theorem SetAt.frzk {b c n:Nat} {m:Nat→Bool} {ws:List Nat} (h:SetAt H b c n m ws) {l:List Nat} (hb:b ∉ l) (hc:c ∉ l):SetAt (Eng.frz H l) b c n m ws:=by
 obtain ⟨es,hd⟩:=h.hd
 exact ⟨⟨es,hd.frz hb⟩,h.ow.frzk (fun i hi=>by cases hi;exact hc),h.ne,h.len,h.le,h.lt,h.mem,h.out⟩
end
section
variable {H:Hp} {N:Nat}
theorem SegR.step {p q c:Nat} {s:Seg} {m:Nat→Bool} {H1:Hp} (h:SegR H p q c s m) (hO:Ok H) (st:Stp noB H H1):SegR H1 p q c s m:=by
 obtain ⟨vi,w,vl,ws,h1,h2,h3,h4,h5⟩:=h
 exact ⟨vi,w,vl,ws,h1.mono st.mo,h2.mono st.mo,h3.mono st.mo,h4.mono st.mo,h5.step hO st (fun q=>q) (fun q=>q)⟩
theorem smade_ok {p q c:Nat} {s:Seg} {m:Nat→Bool} (h:SegR H p q c s m) {Q:AV→Hp→Prop} (k:Q (.bool true) H):Cal env 63 [.ptr p 0] H Q:=by
 refine s63 ?_
 unfold S63
 obtain ⟨vi,w,vl,ws,h1,h2,h3,h4,h5⟩:=h
 rw [eqM_pn]
 refine ⟨fun c H'=>c=true∧H=H',⟨_,h1.ld 1 rfl rfl,by rw [eqM_pn];exact ⟨rfl,rfl⟩⟩,?_⟩
 rintro _ J _ ⟨rfl,rfl⟩
 exact k
theorem ssize_ok {p q c:Nat} {s:Seg} {m:Nat→Bool} (h:SegR H p q c s m) {Q:AV→Hp→Prop} (k:Q (.int .i64 (.ofNat s.ids.length)) H):Cal env 18 [.ptr p 0] H Q:=by
 refine s18 ?_
 unfold S18
 refine smade_ok h ⟨_,rfl,IfB.intro (fun q=>by cases q) (fun _=>?_)⟩
 obtain ⟨vi,w,vl,ws,h1,h2,h3,h4,h5⟩:=h
 exact ⟨vi,h1.ld 0 rfl h2.sc,_,h2.len,k⟩
theorem slive_ok {p q c:Nat} {s:Seg} {m:Nat→Bool} (h:SegR H p q c s m) {Q:AV→Hp→Prop} (k: ∀ H',Stp noB H H'→Q (.int .i64 (.ofNat (cntM m s.n))) H'):Cal env 19 [.ptr p 0] H Q:=by
 refine s19 ?_
 unfold S19
 refine smade_ok h ⟨_,rfl,IfB.intro (fun q=>by cases q) (fun _=>?_)⟩
 obtain ⟨vi,w,vl,ws,h1,h2,h3,h4,h5⟩:=h
 exact ⟨_,h1.ld 3 rfl rfl,count_ok h5 fun H' st=>⟨_,rfl,k H' st⟩⟩
theorem sset_ok {p q c:Nat} {s:Seg} {m:Nat→Bool} (h:SegR H p q c s m) {Q:AV→Hp→Prop} (k: ∀ b' c' ws' H',SetAt H' b' c' s.n m ws'→H.nx≤b'→H.nx≤c'→Stp noB H H'→Q (.ptr b' 0) H'):Cal env 22 [.ptr p 0] H Q:=by
 refine s22 ?_
 unfold S22
 refine smade_ok h ⟨_,rfl,IfB.intro (fun q=>by cases q) (fun _=>?_)⟩
 obtain ⟨vi,w,vl,ws,h1,h2,h3,h4,h5⟩:=h
 exact ⟨_,h1.ld 3 rfl rfl,clone_ok h5 fun b' c' ws' H' a1 a2 a3 a4=>⟨_,rfl,k b' c' ws' H' a1 a2 a3 a4⟩⟩
end
section
variable {H:Hp} {N:Nat}
theorem eqL_refl (a:List Nat):eqL a a=true:=by rw [eqL_eq];simp
end
section
variable {H:Hp} {N es bytes:Nat}
theorem Lq.kill {A:Hp} (h:Lq H A) (b:Nat):Lq (H.kill b) (A.kill b):=by
 unfold Hp.kill
 exact h.set b none none (.inl ⟨rfl,rfl⟩)
theorem Lq.insertA {A:Hp} (h:Lq H A) {args:List AV} {v:AV} {H':Hp} (e:Eng.insertA es bytes args H=some (v,H')): ∃ A',Eng.insertA es bytes args A=some (v,A')∧Lq H' A':=by
 unfold Eng.insertA at e ⊢
 split at e
 ·rename_i s i b2 o2 m c2 ex2
  simp only [h.firsts]
  split at e
  ·rename_i new hm hn
   split at e
   ·split at e
    ·rename_i hi
     exact h.append e
    ·cases e
   ·rename_i b o n c ex
    split at e
    ·rename_i hi
     exact h.append e
    ·rename_i hi
     split at e
     ·rename_i bl bl2 old h1 h2 h3
      split at e
      ·rename_i hq
       split at e
       ·rename_i a ha
        simp only [Option.some.injEq,Prod.mk.injEq] at e
        obtain ⟨rfl,rfl⟩:=e
        obtain ⟨r1,g1,k1⟩:=h.so _ _ h1
        obtain ⟨r2,g2,k2⟩:=h.so _ _ h2
        have h3':A.load b 0 (n*es)=some old:=(h.load _ _ _).trans h3
        have hq':insChk es bytes b o n c ex i b2 m ⟨bl.cells,bl.es,r1⟩ ⟨bl2.cells,bl2.es,r2⟩=true:=by
         unfold insChk at hq ⊢
         simp only [Bool.and_eq_true] at hq ⊢
         obtain ⟨q1,q2,q3,q4,q5,q6,q7,q8⟩:=hq
         exact ⟨q1,q2,q3,q4,k1 q5,q6,k2 q7,q8⟩
        simp only [g1,g2,h3',hq',ha,h.nx]
        exact ⟨_,rfl,⟨rfl,((h.set b none none (.inl ⟨rfl,rfl⟩)).set (H.nx+11) _ _ (.inr ⟨_,true,rfl,rfl,fun _=>rfl⟩)).no,((h.set b none none (.inl ⟨rfl,rfl⟩)).set (H.nx+11) _ _ (.inr ⟨_,true,rfl,rfl,fun _=>rfl⟩)).so⟩⟩
       ·cases e
      ·cases e
     ·cases e
   ·cases e
  ·cases e
 ·cases e
theorem Lq.insertB {A:Hp} (h:Lq H A) {args:List AV} {v:AV} {H':Hp} (e:Eng.insertB es bytes args H=some (v,H')): ∃ A',Eng.insertB es bytes args A=some (v,A')∧Lq H' A':=by
 unfold Eng.insertB at e ⊢
 split at e
 ·rename_i b o n c ex i x
  split at e
  ·rename_i h1 h2 h3
   split at e
   ·rename_i bl hb
    split at e
    ·rename_i C hq hC
     obtain ⟨r1,g1,k1⟩:=h.so _ _ hb
     have hq':(r1&&(Nat.beq bl.es es&&(Nat.beq bl.cells.length (c*es)&&(Nat.ble n c&&(Nat.blt 1 es&&Nat.blt es esU)))))=true:=by
      rw [Bool.and_eq_true] at hq ⊢
      exact ⟨k1 hq.1,hq.2⟩
     simp only [g1,hq',hC,h2,h3,h.nx]
     have:=((h.kill b).new C es).insertA e
     simpa [Hp.kill] using this
    ·cases e
   ·cases e
  ·exact h.insertA e
 ·rename_i hn
  exact h.insertA e
end
section
variable {H:Hp} {N es bytes:Nat}
def NEx (v:AV):Prop:=v= .nils∨ ∃ b o n c,v= .slice b o n c false
structure InsOut (H:Hp) (N es:Nat) (v:AV) (ds:List (List AV)) (v':AV) (H':Hp):Prop where
 ow:Ow H' N es v' ds
 ne:NEx v'
 st:Stp (isB v) H H'
 bl: ∀ j,blkOf v'=some j→blkOf v=some j∨H.nx≤j
theorem takeN_flat {l:List (List AV)} (h:Rw es l) {i:Nat} (hi:i≤l.length):takeN l.flatten (i*es)=some (l.take i).flatten:=by
 rw [takeN_eq,if_pos (by rw [flat_len h];exact Nat.mul_le_mul_right _ hi),flat_take i h]
theorem firsts_lit {p:Nat} {c:List AV} (h:Bk H p c es) (hc:c.length=es) (hs:scAll c=true):firsts H es 1 (.slice p 0 1 1 true)=some c:=by
 have:=(lit_sl h hc hs).all
 simpa using this
theorem Ow.insEnd {v:AV} {cs:List (List AV)} (h:Ow H N es v cs) (hx:NEx v) (hO:Ok H) (hN:N≤H.nx) {c:List AV} (hc:c.length=es) (hs:scAll c=true) (h2:es<esU) (hb:(cs.length+1)*bytes≤room):
  ∃ v' H',Eng.append es bytes H v c 1=some (v',H')∧InsOut H N es v (cs++[c]) v' H':=by
 have hd:Rw es [c]:=fun x hx=>by rw [List.mem_singleton] at hx;subst hx;exact ⟨hc,hs⟩
 obtain ⟨v',H',e1,e2,e3,e4,e5⟩:=h.append hN hd (bytes:=bytes) (by simpa using hb) h2
 have e1':Eng.append es bytes H v c 1=some (v',H'):=by simpa using e1
 refine ⟨v',H',e1',e2,?_,⟨(hO.append e1').1,(hO.append e1').2,e4⟩,e5⟩
 unfold Eng.append at e1'
 split at e1'
 ·split at e1'
  ·rename_i hq;cases hq
  ·split at e1'
   ·cases e1';exact .inr ⟨_,_,_,_,rfl⟩
   ·cases e1'
 ·rename_i b o len cap ex
  have hex:ex=false:=by
   rcases hx with hx | ⟨_,_,_,_,hx⟩
   ·cases hx
   ·cases hx;rfl
  subst hex
  split at e1'
  ·split at e1'
   ·cases e1';exact .inr ⟨_,_,_,_,rfl⟩
   ·cases e1'
  ·split at e1'
   ·cases e1'
   ·split at e1'
    ·cases e1'
    ·simp only at e1'
     split at e1'
     ·cases e1'
     ·split at e1'
      ·cases e1';exact .inr ⟨_,_,_,_,rfl⟩
      ·cases e1'
 ·cases e1'
theorem beqN_f {a b:Nat} (h:a≠b):Nat.beq a b=false:=by
 cases q:Nat.beq a b with
 | true=>exact absurd (Tr.beq_t q) h
 | false=>rfl
theorem Ow.insA {b:Nat} {cs:List (List AV)} (h:Ow H N es (.slice b 0 cs.length cs.length false) cs) (hO:Ok H) (hN:N≤H.nx) {i:Nat} (hi:i≤cs.length) {p:Nat} {c:List AV} (hp:Bk H p c es) (hpb:p≠b) (hc:c.length=es) (hs:scAll c=true) (h1:1<es) (h2:es<esU) (hb:(cs.length+1)*bytes≤room) (hr:cs.length+1≤room):
  ∃ v' H',insertA es bytes [.slice b 0 cs.length cs.length false, .int .i64 (.ofNat i), .slice p 0 1 1 true] H=some (v',H')∧InsOut H N es (.slice b 0 cs.length cs.length false) (cs.take i++(c::cs.drop i)) v' H':=by
 unfold insertA
 simp only [firsts_lit hp hc hs,show Nat.beq 1 0=false from rfl]
 by_cases hin:i=cs.length
 ·subst hin
  simp only [Nat.beq_refl]
  have:=h.insEnd (.inr ⟨_,_,_,_,rfl⟩) hO hN hc hs h2 hb
  rw [List.take_length,List.drop_length]
  exact this
 ·simp only [beqN_f hin]
  have hat:=h.at_
  rcases hat with ⟨hh,_⟩ | ⟨b',c',e,bl,hh,a1,a2,a3,a4,a5,a6,a7,a8,a9⟩
  ·cases hh
  cases hh
  have hes:bl.es=es:=by rcases a6 with q | ⟨q,_⟩;exact q;omega
  have hld:H.load b 0 (cs.length*es)=some cs.flatten:=a8.load a4 (by rw [flat_len h.rw]) h.rw.sc
  have hchk:insChk es bytes b 0 cs.length cs.length false i p 1 bl ⟨c,es,true⟩=true:=by
   unfold insChk
   simp only [Bool.and_eq_true,Bool.not_false,Nat.beq_refl,a5,hes,true_and,Bool.not_eq_true']
   exact ⟨bltT (by omega),beqN_f (fun q=>hpb q.symm),by rw [a7];exact Nat.beq_refl _,bleT hb,bleT hr,bltT h1,bltT h2⟩
  have hgp:H.m.get p=some ⟨c,es,true⟩:=hp
  simp only [a4,hgp,hld,hchk,takeN_flat h.rw hi]
  have hdr:dropN cs.flatten (i*es)=(cs.drop i).flatten:=by rw [dropN_eq,flat_drop i h.rw]
  have hrw:Rw es (cs.take i++(c::cs.drop i)):=(h.rw.take i).append fun x hx=>by
   rcases List.mem_cons.1 hx with rfl | hx
   ·exact ⟨hc,hs⟩
   ·exact h.rw x (List.mem_of_mem_drop hx)
  have hfl:(cs.take i).flatten++(c++(cs.drop i).flatten)=(cs.take i++(c::cs.drop i)).flatten:=by simp
  have hlen:(cs.take i++(c::cs.drop i)).length=cs.length+1:=by simp;omega
  rw [hdr,hfl]
  refine ⟨_,_,rfl,⟨hrw, .inr ⟨H.nx+11,cs.length+1,false,_,by rw [hlen],by omega,by simp only;omega,by rw [hlen];exact Nat.le_refl _,Tr.get_set_same _ _ _,rfl, .inl rfl,by rw [flat_len hrw,hlen],⟨[],by simp [dropN]⟩,fun q=>by cases q⟩⟩, .inr ⟨_,_,_,_,rfl⟩,⟨fun j hj=>?_,⟨by simp only;omega,fun j hj hn=>?_,fun j bj hj hr=>?_⟩,fun j hj hg=>?_⟩,fun j hj=> .inr (by cases hj;omega)⟩
  ·simp only at hj ⊢
   rw [Tr.get_set_ne _ _ (by omega),Tr.get_set_ne _ _ (by omega)]
   exact hO j (by omega)
  ·simp only
   rw [Tr.get_set_ne _ _ (by omega)]
   by_cases hq:j=b
   ·rw [hq];exact Tr.get_set_same _ _ _
   ·rw [Tr.get_set_ne _ _ hq];exact hn
  ·simp only
   have hjb:j≠b:=fun q=>by rw [q,a4] at hj;cases hj;rw [a5] at hr;cases hr
   have:=hO.lt hj
   rw [Tr.get_set_ne _ _ (by omega),Tr.get_set_ne _ _ hjb]
   exact hj
  ·simp only
   rw [Tr.get_set_ne _ _ (by omega),Tr.get_set_ne _ _ fun q=>hg (by rw [q];rfl)]
theorem Ow.ins {v:AV} {cs:List (List AV)} (h:Ow H N es v cs) (hx:NEx v) (hO:Ok H) (hN:N≤H.nx) {i:Nat} (hi:i≤cs.length) {p:Nat} {c:List AV} (hp:Bk H p c es) (hpv: ¬ isB v p) (hc:c.length=es) (hs:scAll c=true) (h1:1<es) (h2:es<esU) (hb:(cs.length+1)*bytes≤room) (hr:cs.length+1≤room):
  ∃ v' H',insertB es bytes [v, .int .i64 (.ofNat i), .slice p 0 1 1 true] H=some (v',H')∧InsOut H N es v (cs.take i++(c::cs.drop i)) v' H':=by
 have hat:=h.at_
 rcases hat with ⟨rfl,rfl⟩ | ⟨b,cc,e,bl,rfl,a1,a2,a3,a4,a5,a6,a7,a8,a9⟩
 ·have:i=0:=by simpa using hi
  subst this
  unfold insertB insertA
  simp only [firsts_lit hp hc hs,show Nat.beq 1 0=false from rfl,Nat.beq_refl]
  exact h.insEnd hx hO hN hc hs h2 hb
 ·have he:e=false:=by
   rcases hx with hx | ⟨_,_,_,_,hx⟩
   ·cases hx
   ·cases hx;rfl
  subst he
  have hpb:p≠b:=fun q=>hpv (by rw [q];rfl)
  unfold insertB
  by_cases hcn:cc=cs.length
  ·subst hcn
   simp only [Nat.beq_refl]
   exact h.insA hO hN hi hp hpb hc hs h1 h2 hb hr
  ·simp only [Nat.beq_refl,beqN_f hcn]
   have hes:bl.es=es:=by rcases a6 with q | ⟨q,_⟩;exact q;omega
   have hq:(bl.rw&&(Nat.beq bl.es es&&(Nat.beq bl.cells.length (cc*es)&&(Nat.ble cs.length cc&&(Nat.blt 1 es&&Nat.blt es esU)))))=true:=by
    rw [a5,hes,Nat.beq_refl,a7,Nat.beq_refl,bleT a3,bltT h1,bltT h2];rfl
   have htk:takeN bl.cells (cs.length*es)=some cs.flatten:=by
    rw [a8.drop0,takeN_eq,if_pos (by rw [List.length_append,flat_len h.rw];omega),List.take_left' (flat_len h.rw)]
   simp only [a4,hq,htk]
   have ho1:Ok ((H.kill b).new cs.flatten es):=(hO.kill b).new _ _
   have hk: ∀ j,j<H.nx→j≠b→((H.kill b).new cs.flatten es).m.get j=H.m.get j:=fun j hj hjb=>by
    simp only [Hp.new,Hp.kill]
    rw [Tr.get_set_ne _ _ (by omega),Tr.get_set_ne _ _ hjb]
   have hb1:((H.kill b).new cs.flatten es).m.get b=none:=by
    simp only [Hp.new,Hp.kill]
    rw [Tr.get_set_ne _ _ (by omega)]
    exact Tr.get_set_same _ _ _
   have ow1:Ow ((H.kill b).new cs.flatten es) N es (.slice H.nx 0 cs.length cs.length false) cs:=⟨h.rw, .inr ⟨H.nx,cs.length,false,⟨cs.flatten,es,true⟩,rfl,hN,Nat.lt_succ_self _,Nat.le_refl _,Tr.get_set_same _ _ _,rfl, .inl rfl,flat_len h.rw,⟨[],by simp [dropN]⟩,fun q=>by cases q⟩⟩
   have hpl:p<H.nx:=hO.lt hp
   have hp1:Bk ((H.kill b).new cs.flatten es) p c es:=(hk p hpl hpb).trans hp
   obtain ⟨v',H',e1,e2⟩:=ow1.insA ho1 (Nat.le_succ_of_le hN) hi hp1 (by omega) hc hs h1 h2 hb hr
   have n1:((H.kill b).new cs.flatten es).nx=H.nx+1:=rfl
   refine ⟨v',H',e1,e2.ow,e2.ne,⟨e2.st.ok,⟨by have:=e2.st.nx;omega,fun j hj hn=>?_,fun j bj hj hr=>?_⟩,fun j hj hg=>?_⟩,fun j hj=> .inr ?_⟩
   ·refine e2.st.mo.no j (by omega) ?_
    by_cases hq:j=b
    ·rw [hq];exact hb1
    ·rw [hk j hj hq];exact hn
   ·have hjb:j≠b:=fun q=>by rw [q,a4] at hj;cases hj;rw [a5] at hr;cases hr
    refine e2.st.mo.fz j bj ?_ hr
    rw [hk j (hO.lt hj) hjb];exact hj
   ·have hjb:j≠b:=fun q=>hg (by rw [q];rfl)
    refine (e2.st.gr j (by omega) fun q=>?_).trans (hk j hj hjb)
    cases q
    omega
   ·rcases e2.bl j hj with q | q
    ·cases q;exact Nat.le_refl _
    ·omega
theorem tinsert_ok {v:AV} {cs:List (List AV)} (h:Ow H N 2 v cs) (hx:NEx v) (hO:Ok H) (hN:N≤H.nx) {i:Nat} (hi:i≤cs.length) {p:Nat} {c:List AV} (hp:Bk H p c 2) (hpv: ¬ isB v p) (hc:c.length=2) (hs:scAll c=true) (hb:(cs.length+1)*40≤room) {Q:AV→Hp→Prop}
  (k: ∀ v' H',InsOut H N 2 v (cs.take i++(c::cs.drop i)) v' H'→Q v' H'):Cal env 280 [v, .int .i64 (.ofNat i), .slice p 0 1 1 true] H Q:=by
 obtain ⟨v',H',e1,e2⟩:=h.ins (bytes:=40) hx hO hN hi hp hpv hc hs (by decide) (by decide) hb (by simp only [room] at hb ⊢; omega)
 exact cal_given rfl (fun A hA=>hA.insertB e1) (fun _=>⟨e2.st.ok,e2.st.mo⟩) (k v' H' e2)
end
section
variable {H:Hp} {N:Nat}
theorem Ow.ne_es {v u:AV} {cs ds:List (List AV)} (h:Ow H N 2 v cs) {M:Nat} (k:Ow H M 1 u ds): ∀ b,blkOf v=some b→blkOf u≠some b:=fun b hv hu=>by
 rcases h.at_ with ⟨rfl,_⟩ | ⟨b1,_,_,bl1,rfl,_,_,_,a4,_,a6,_⟩
 ·cases hv
 ·rcases k.at_ with ⟨rfl,_⟩ | ⟨b2,_,_,bl2,rfl,_,_,_,c4,_,c6,_⟩
  ·cases hu
  ·cases hv;cases hu
   rw [a4] at c4
   obtain rfl:=Option.some.inj c4
   rcases a6 with a6 | ⟨a6,_⟩
   ·rcases c6 with c6 | ⟨_,c6⟩
    ·omega
    ·rw [a6] at c6;cases c6
   ·omega
theorem Ow.ne_bk1 {es:Nat} {v:AV} {cs:List (List AV)} (h:Ow H N es v cs) {p e:Nat} {cells:List AV} (b:Bk H p cells e) (he:esU<e) (hes:es<esU:=by decide): ∀ i,blkOf v=some i→ ¬ i=p:=by
 rcases h.at_ with ⟨rfl,_⟩ | ⟨b',c,e',bl,rfl,_,_,_,h4,_,h6,_⟩
 ·intro i hi;cases hi
 ·intro i hi hip
  cases hi
  subst hip
  rw [b] at h4
  cases h4
  rcases h6 with h6 | ⟨_,h6⟩
  ·simp only at h6;omega
  ·simp only at h6;omega
def atO (H:Hp) (N:Nat) (c:Int × AV) (x:Int × List Int):Prop:=c.1=x.1∧Ow H N 1 c.2 (x.2.map i8)
structure SpO (H:Hp) (N:Nat) (v:AV) (S:List (Int × AV)) (T:List (Int × List Int)):Prop where
 ow:Ow H N 2 v (S.map pc)
 cel:all2 (atO H N) S T
 di: ∀ i j (hi:i<S.length) (hj:j<S.length),i≠j→ ∀ b,blkOf S[i].2=some b→blkOf S[j].2≠some b
def spBlk (v:AV) (S:List (Int × AV)) (b:Nat):Prop:=blkOf v=some b∨ ∃ c∈S,blkOf c.2=some b
theorem all2_mem {α β:Type} {R:α→β→Prop}: ∀ {l:List α} {r:List β},all2 R l r→ ∀ a∈l, ∃ b,R a b
 | x::_,y::_,q,a,ha=>by
  rcases List.mem_cons.1 ha with rfl | ha
  ·exact ⟨y,q.1⟩
  ·exact all2_mem q.2 a ha
theorem all2_monoM {α β:Type} {R S:α→β→Prop}: ∀ {l:List α} {r:List β},(∀ a∈l, ∀ b,R a b→S a b)→all2 R l r→all2 S l r
 | [],[],_,_=>trivial
 | x::_,_::_,h,q=>⟨h x List.mem_cons_self _ q.1,all2_monoM (fun a ha=>h a (List.mem_cons_of_mem _ ha)) q.2⟩
 | [],_::_,_,q=>q.elim
 | _::_,[],_,q=>q.elim
theorem SpO.nil:SpO H N .nils [] []:=⟨Ow.nil,trivial,fun i _ hi=>by cases hi⟩
theorem SpO.keep {v:AV} {S:List (Int × AV)} {T:List (Int × List Int)} {G:Nat→Prop} {H1:Hp} (h:SpO H N v S T) (s:Stp G H H1) (hg: ∀ b,spBlk v S b→ ¬ G b):SpO H1 N v S T:=
 ⟨h.ow.step s fun i hi=>hg i (.inl hi),all2_monoM (fun a ha b r=>⟨r.1,r.2.step s fun i hi=>hg i (.inr ⟨a,ha,hi⟩)⟩) h.cel,h.di⟩
theorem SpO.lt {v:AV} {S:List (Int × AV)} {T:List (Int × List Int)} (h:SpO H N v S T) {b:Nat} (hb:spBlk v S b):N≤b∧b<H.nx:=by
 rcases hb with hb | ⟨c,hc,hb⟩
 ·exact ⟨h.ow.isB_low b hb,h.ow.lt b hb⟩
 ·obtain ⟨x,hx⟩:=all2_mem h.cel c hc
  exact ⟨hx.2.isB_low b hb,hx.2.lt b hb⟩
def spAdd (T:List (Int × List Int)) (f a:Int):List (Int × List Int):=
 match T.getLast? with
 | some x=>if x.1=f then T.dropLast++[(f,x.2++[a])] else T++[(f,[a])]
 | none=>T++[(f,[a])]
structure TbX (H:Hp) (N p e:Nat) (vl:AV) (ks:List (List Nat)) (V:List Nat→AV) (S:List Nat→List (Int × AV)) (T:List Nat→List (Int × List Int)) (P:List Nat→Prop):Prop where
 bx:Bk H p [vl] e
 hi:esU<e
 lo:N≤p
 ow:Ow H N 2 vl (ks.map fun k=>[.str k,V k])
 nx:NEx vl
 srt:SrtS ks
 ln:ks.length≤16777216
 row: ∀ k∈ks,P k→SpO H N (V k) (S k) (T k)
 d0: ∀ k∈ks,P k→ ∀ b,blkOf vl=some b→ ¬ spBlk (V k) (S k) b
 dr: ∀ k∈ks,P k→ ∀ k'∈ks,P k'→k≠k'→ ∀ b,spBlk (V k) (S k) b→ ¬ spBlk (V k') (S k') b
section
variable {p e:Nat} {vl:AV} {ks:List (List Nat)} {V:List Nat→AV} {S:List Nat→List (Int × AV)} {T:List Nat→List (Int × List Int)} {P:List Nat→Prop}
theorem TbX.keep {G:Nat→Prop} {H1:Hp} (h:TbX H N p e vl ks V S T P) (hO:Ok H) (s:Stp G H H1) (hp: ¬ G p) (hv: ∀ b,blkOf vl=some b→ ¬ G b) (hk: ∀ k∈ks,P k→ ∀ b,spBlk (V k) (S k) b→ ¬ G b):TbX H1 N p e vl ks V S T P:=
 ⟨h.bx.step hO s hp,h.hi,h.lo,h.ow.step s hv,h.nx,h.srt,h.ln,fun k hm hP=>(h.row k hm hP).keep s (hk k hm hP),h.d0,h.dr⟩
theorem TbX.quiet {H1:Hp} (h:TbX H N p e vl ks V S T P) (hO:Ok H) (s:Stp noB H H1):TbX H1 N p e vl ks V S T P:=h.keep hO s (fun q=>q) (fun _ _ q=>q) fun _ _ _ _ _ q=>q
theorem TbX.sub {R:List Nat→Prop} (h:TbX H N p e vl ks V S T P) (hr: ∀ k,R k→P k):TbX H N p e vl ks V S T R:=
 ⟨h.bx,h.hi,h.lo,h.ow,h.nx,h.srt,h.ln,fun k hm hR=>h.row k hm (hr k hR),fun k hm hR=>h.d0 k hm (hr k hR),fun k hm hR k' hm' hR'=>h.dr k hm (hr k hR) k' hm' (hr k' hR')⟩
theorem TbX.tb (h:TbX H N p e vl ks V S T P):TbAt H p (ks.map fun k=>(k,V k)) false:=by
 refine ⟨vl,e,h.bx,?_,fun i j hi hj hij=>?_,by rw [List.length_map];have:=h.ln;omega⟩
 ·have:=h.ow.sl
  rw [List.map_map]
  exact this
 ·simp only [List.getElem_map]
  exact h.srt i j (by simpa using hi) (by simpa using hj) hij
theorem tget_ok (h:TbX H N p e vl ks V S T P) {a:List Nat} {Q:AV→Hp→Prop} (kt:a∈ks→ ∀ H',Stp noB H H'→Q (.tup [V a, .bool true]) H') (kf:a ∉ ks→ ∀ H',Stp noB H H'→Q (.tup [.nils, .bool false]) H'):Cal env 233 [.ptr p 0, .str a] H Q:=by
 refine Cal.start fun hO=>s233 ?_
 unfold S233
 refine seek_ok h.tb fun i H1 hi hlo hhi s1=>⟨_,_,rfl,?_⟩
 have hll:(ks.map fun k=>(k,V k)).length=ks.length:=List.length_map _
 have h1:=h.quiet hO s1
 refine IfB.intro (fun q=>?_) (fun q=>?_)
 ·have q: ¬ ∃ h:i<(ks.map fun k=>(k,V k)).length,((ks.map fun k=>(k,V k))[i]).1=a:=by simpa using q
  refine kf (fun hm=>?_) H1 s1
  obtain ⟨j,hj,rfl⟩:=List.getElem_of_mem hm
  rcases Nat.lt_trichotomy j i with g | g | g
  ·have:=hlo j (by omega) g
   simp only [List.getElem_map] at this
   exact List.lt_irrefl _ this
  ·subst g
   exact q ⟨by omega,by simp⟩
  ·have h1:=hhi i (by omega) (Nat.le_refl _)
   simp only [List.getElem_map] at h1
   exact h1 (h.srt i j (by omega) hj g)
 ·have q: ∃ h:i<(ks.map fun k=>(k,V k)).length,((ks.map fun k=>(k,V k))[i]).1=a:=by simpa using q
  obtain ⟨hil,hia⟩:=q
  simp only [List.getElem_map] at hia
  obtain ⟨p8,o9,g1,g2,g3⟩:=h1.ow.sl.elem (j:=i) (by rw [List.length_map];omega)
  refine ⟨vl,h1.bx.ld 0 rfl h1.ow.sl.sc,p8,o9,g1,V a,?_,kt (hia ▸ List.getElem_mem _) H1 s1⟩
  have:=g3 1 1 (by omega)
  rw [this,List.getElem_map,hia]
  rfl
theorem tlen_ok (h:TbX H N p e vl ks V S T P) {Q:AV→Hp→Prop} (k:Q (.int .i64 (.ofNat ks.length)) H):Cal env 259 [.ptr p 0] H Q:=by
 refine s259 ?_
 unfold S259
 rw [eqM_pn]
 exact ⟨vl,h.bx.ld 0 rfl h.ow.sl.sc,_,by rw [h.ow.sl.len,List.length_map],k⟩
end
end
section
variable {H:Hp} {N:Nat}
def updF {α β:Type} [DecidableEq α] (f:α→β) (a:α) (x:β):α→β:=fun k=>if k=a then x else f k
theorem updF_same {α β:Type} [DecidableEq α] (f:α→β) (a:α) (x:β):updF f a x a=x:=if_pos rfl
theorem updF_ne {α β:Type} [DecidableEq α] (f:α→β) {a k:α} (x:β) (h:k≠a):updF f a x k=f k:=if_neg h
theorem SrtS.pw {l:List (List Nat)}:SrtS l↔l.Pairwise (· < ·):=by
 rw [List.pairwise_iff_getElem]
 exact ⟨fun h i j hi hj hij=>h i j hi hj hij,fun h i j hi hj hij=>h i j hi hj hij⟩
section
variable {p e:Nat} {vl:AV} {ks:List (List Nat)} {V:List Nat→AV} {S:List Nat→List (Int × AV)} {T:List Nat→List (Int × List Int)}
theorem tput_ok {a:List Nat} (h:TbX H N p e vl ks V S T (· ≠a)) (hO:Ok H) (hN:N≤H.nx) {v':AV} {S':List (Int × AV)} {T':List (Int × List Int)} (hn:SpO H N v' S' T') (hd0: ∀ b,blkOf vl=some b→ ¬ spBlk v' S' b) (hdr: ∀ k∈ks,k≠a→ ∀ b,spBlk (V k) (S k) b→ ¬ spBlk v' S' b) (hl:ks.length<16777216) {Q:AV→Hp→Prop}
  (k: ∀ vl' ks' c H',TbX H' N p e vl' ks' (updF V a v') (updF S a S') (updF T a T') (fun _=>True)→(∀ x,x∈ks'↔x∈ks∨x=a)→ks'.length≤ks.length+1→Stp (fun i=>i=p∨isB vl i) H H'→Q (.bool c) H'):Cal env 258 [.ptr p 0, .str a,v'] H Q:=by
 refine s258 ?_
 unfold S258
 rw [eqM_pn]
 refine seek_ok h.tb fun i H1 hi hlo hhi s1=>⟨_,_,rfl,?_⟩
 have hll:(ks.map fun k=>(k,V k)).length=ks.length:=List.length_map _
 have h1:=h.quiet hO s1
 have hn1:=hn.keep s1 fun _ _ q=>q
 have n1:=s1.nx
 have hsv:=hn1.ow.sl.sc
 have w1:Stp (fun i=>i=p∨isB vl i) H H1:=s1.of
 have nvp: ∀ j,blkOf vl=some j→ ¬ j=p:=h1.ow.ne_bk1 h1.bx h1.hi
 have nvn: ∀ b,spBlk v' S' b→ ¬ b=p:=fun b hb q=>by
  rcases hb with hb | ⟨c,hc,hb⟩
  ·exact (hn1.ow.ne_bk1 h1.bx h1.hi: ∀ i,blkOf v'=some i→ ¬ i=p) b hb q
  ·obtain ⟨x,hx⟩:=all2_mem hn1.cel c hc
   exact hx.2.ne_bk h1.bx h1.hi b hb q
 have nvr: ∀ k∈ks,k≠a→ ∀ b,spBlk (V k) (S k) b→ ¬ b=p:=fun k hk hka b hb q=>by
  have hr:=h1.row k hk hka
  rcases hb with hb | ⟨c,hc,hb⟩
  ·exact (hr.ow.ne_bk1 h1.bx h1.hi: ∀ i,blkOf (V k)=some i→ ¬ i=p) b hb q
  ·obtain ⟨x,hx⟩:=all2_mem hr.cel c hc
   exact hx.2.ne_bk h1.bx h1.hi b hb q
 -- all together again
 have join: ∀ {vl':AV} {ks':List (List Nat)} {H':Hp},Bk H' p [vl'] e→Ow H' N 2 vl' (ks'.map fun k=>[.str k,updF V a v' k])→NEx vl'→SrtS ks'→ks'.length≤16777216→(∀ x,x∈ks'↔x∈ks∨x=a)→(∀ b,blkOf vl'=some b→blkOf vl=some b∨H1.nx≤b)→Stp (fun i=>i=p∨isB vl i) H1 H'→TbX H' N p e vl' ks' (updF V a v') (updF S a S') (updF T a T') (fun _=>True):=fun {vl' ks' H'} hb ho hx hs hl hm hbl st=>by
  have free: ∀ k∈ks,k≠a→ ∀ b,spBlk (V k) (S k) b→ ¬ (b=p∨isB vl b):=fun k hk hka b hb g=>by
   rcases g with g | g
   ·exact nvr k hk hka b hb g
   ·exact h1.d0 k hk hka b g hb
  have freen: ∀ b,spBlk v' S' b→ ¬ (b=p∨isB vl b):=fun b hb g=>by
   rcases g with g | g
   ·exact nvn b hb g
   ·exact hd0 b g hb
  have old: ∀ k∈ks',k≠a→k∈ks:=fun k hk hka=>by rcases (hm k).1 hk with q | q;exact q;exact absurd q hka
  refine ⟨hb,h.hi,h.lo,ho,hx,hs,hl,fun t hk _=>?_,fun t hk _ b hb1=>?_,fun t hk _ t2 hk2 _ hne b hb1=>?_⟩
  ·by_cases hka:t=a
   ·rw [hka,updF_same,updF_same,updF_same]
    exact hn1.keep st freen
   ·rw [updF_ne V _ hka,updF_ne S _ hka,updF_ne T _ hka]
    exact (h1.row t (old t hk hka) hka).keep st (free t (old t hk hka) hka)
  ·by_cases hka:t=a
   ·rw [hka,updF_same,updF_same]
    intro hb2
    rcases hbl b hb1 with q | q
    ·exact hd0 b q hb2
    ·have:=(hn1.lt hb2).2;omega
   ·rw [updF_ne V _ hka,updF_ne S _ hka]
    intro hb2
    rcases hbl b hb1 with q | q
    ·exact h1.d0 t (old t hk hka) hka b q hb2
    ·have:=((h1.row t (old t hk hka) hka).lt hb2).2;omega
  ·by_cases hka:t=a
   ·have hk2a:t2≠a:=fun q=>hne (hka.trans q.symm)
    rw [hka,updF_same,updF_same] at hb1
    rw [updF_ne V _ hk2a,updF_ne S _ hk2a]
    exact fun q=>hdr t2 (old t2 hk2 hk2a) hk2a b q hb1
   ·rw [updF_ne V _ hka,updF_ne S _ hka] at hb1
    by_cases hk2a:t2=a
    ·rw [hk2a,updF_same,updF_same]
     exact hdr t (old t hk hka) hka b hb1
    ·rw [updF_ne V _ hk2a,updF_ne S _ hk2a]
     exact h1.dr t (old t hk hka) hka t2 (old t2 hk2 hk2a) hk2a hne b hb1
 refine IfB.intro (fun q=>?_) (fun q=>?_)
 ·obtain ⟨hil,hia⟩:=of_decide_eq_true q
  simp only [List.getElem_map] at hia
  rw [hll] at hil
  have hja:i<(ks.map fun k=>[AV.str k,V k]).length:=by rw [List.length_map];exact hil
  obtain ⟨bb,oo,g1,_,_,H11,e11,o11,s11⟩:=h1.ow.setS s1.ok hja 1 (vs:=[v']) (by simp) (by simp only [scAll,hsv])
  refine ⟨vl,h1.bx.ld 0 rfl h1.ow.sl.sc,bb,oo,g1,Chk.intro hsv ⟨H11,e11,?_⟩⟩
  have e1:(ks.map fun k=>[AV.str k,V k]).set i (((ks.map fun k=>[AV.str k,V k])[i]).take 1++([v']++((ks.map fun k=>[AV.str k,V k])[i]).drop (1+[v'].length)))=ks.map fun k=>[.str k,updF V a v' k]:=by
   refine List.ext_getElem (by simp) fun j hj1 hj2=>?_
   simp only [List.getElem_set,List.getElem_map]
   split
   ·rename_i hij
    subst hij
    simp [hia,updF_same]
   ·rename_i hij
    have hja2:ks[j]'(by simpa using hj2)≠a:=fun q2=>by
     have q2:=q2.trans hia.symm
     rcases Nat.lt_trichotomy j i with g | g | g
     ·have:=h.srt j i (by simpa using hj2) hil g
      rw [q2] at this
      exact List.lt_irrefl _ this
     ·exact hij g.symm
     ·have:=h.srt i j hil (by simpa using hj2) g
      rw [q2] at this
      exact List.lt_irrefl _ this
    rw [updF_ne V _ hja2]
  rw [e1] at o11
  have st11:Stp (fun i=>i=p∨isB vl i) H1 H11:=s11.wide fun i _ q=> .inr q
  have hm: ∀ x,x∈ks↔x∈ks∨x=a:=fun x=>⟨.inl,fun q=>by rcases q with q | q;exact q;rw [q, ←hia];exact List.getElem_mem _⟩
  exact k vl ks false H11 (join (h1.bx.step s1.ok s11 fun q=>nvp p q rfl) o11 h1.nx h1.srt h1.ln hm (fun b hb=> .inl hb) st11) hm (by omega) (w1.trans st11)
 ·have q: ¬ ∃ h:i<(ks.map fun k=>(k,V k)).length,((ks.map fun k=>(k,V k))[i]).1=a:=of_decide_eq_false q
  have hak:a ∉ ks:=fun hm=>by
   obtain ⟨j,hj,rfl⟩:=List.getElem_of_mem hm
   rcases Nat.lt_trichotomy j i with g | g | g
   ·have:=hlo j (by omega) g
    simp only [List.getElem_map] at this
    exact List.lt_irrefl _ this
   ·subst g
    exact q ⟨by omega,by simp⟩
   ·have h1:=hhi i (by omega) (Nat.le_refl _)
    simp only [List.getElem_map] at h1
    exact h1 (h.srt i j (by omega) hj g)
  refine ⟨vl,h1.bx.ld 0 rfl h1.ow.sl.sc,Chk.intro hsv (Chk.intro (by simp only [scAll,hsv];rfl) (New.stp s1.ok fun H17 b17 s17=>?_))⟩
  have h17:=h1.quiet s1.ok s17
  have hpn: ¬ isB vl H1.nx:=fun q=>by have:=h1.ow.lt _ q;omega
  have n17:=s17.nx
  have hi':i≤ks.length:=by omega
  refine tinsert_ok h17.ow h17.nx s17.ok (by omega) (by rw [List.length_map];exact hi') b17 hpn rfl (by simp only [scAll,hsv];rfl) (by rw [List.length_map];simp only [room];omega) fun v20 H19 io=>⟨_,rfl,?_⟩
  have bx19:=h17.bx.step s17.ok io.st (fun q=>nvp p q rfl)
  have nv20: ∀ j,blkOf v20=some j→ ¬ j=p:=io.ow.ne_bk1 bx19 h.hi
  refine Chk.intro io.ow.sl.sc ?_
  obtain ⟨H24,e24,b24,s24⟩:=bx19.stp io.st.ok (o:=0) (vs:=[v20]) rfl (by simp only [scAll,io.ow.sl.sc])
  refine ⟨H24,e24,?_⟩
  have st24:Stp (fun i=>i=p∨isB vl i) H1 H24:=s17.of.trans ((io.st.wide fun i _ q=> .inr q).trans (s24.wide fun i _ q=> .inl q))
  obtain ⟨ks',hks⟩: ∃ ks',ks.take i++(a::ks.drop i)=ks':=⟨_,rfl⟩
  have hm: ∀ x,x∈ks'↔x∈ks∨x=a:=fun x=>by
   rw [←hks,List.mem_append,List.mem_cons]
   constructor
   ·rintro (g | g | g)
    ·exact .inl (List.mem_of_mem_take g)
    ·exact .inr g
    ·exact .inl (List.mem_of_mem_drop g)
   ·rintro (g | g)
    ·rw [←List.take_append_drop i ks,List.mem_append] at g
     rcases g with g | g
     ·exact .inl g
     ·exact .inr (.inr g)
    ·exact .inr (.inl g)
  have hlen:ks'.length=ks.length+1:=by rw [←hks];simp;omega
  have hsrt:SrtS ks':=by
   rw [SrtS.pw, ←hks,List.pairwise_append,List.pairwise_cons]
   have hp:=SrtS.pw.1 h.srt
   have hlo': ∀ x∈ks.take i,x<a:=fun x hx=>by
    obtain ⟨j,hj,rfl⟩:=List.getElem_of_mem hx
    rw [List.length_take] at hj
    have:=hlo j (by omega) (by omega)
    simp only [List.getElem_map] at this
    rw [List.getElem_take]
    exact this
   have hhi': ∀ x∈ks.drop i,a<x:=fun x hx=>by
    obtain ⟨j,hj,rfl⟩:=List.getElem_of_mem hx
    rw [List.length_drop] at hj
    have:=hhi (i+j) (by omega) (by omega)
    simp only [List.getElem_map] at this
    rw [List.getElem_drop]
    rcases lt_tri ks[i+j] a with g | g | g
    ·exact absurd g this
    ·exact absurd (g ▸ List.getElem_mem _) hak
    ·exact g
   refine ⟨hp.sublist (List.take_sublist _ _),⟨hhi',hp.sublist (List.drop_sublist _ _)⟩,fun x hx y hy=>?_⟩
   rcases List.mem_cons.1 hy with rfl | hy
   ·exact hlo' x hx
   ·exact List.lt_trans (hlo' x hx) (hhi' y hy)
  have hrow:(ks.map fun k=>[AV.str k,V k]).take i++([AV.str a,v']::(ks.map fun k=>[AV.str k,V k]).drop i)=ks'.map fun k=>[.str k,updF V a v' k]:=by
   rw [←hks,List.map_append,List.map_cons, ←List.map_take, ←List.map_drop,updF_same]
   have hc: ∀ l:List (List Nat),(∀ x∈l,x∈ks)→l.map (fun k=>[AV.str k,V k])=l.map fun k=>[AV.str k,updF V a v' k]:=fun l hl=>List.map_congr_left fun x hx=>by
    rw [updF_ne V _ (fun q=>hak (by rw [←q];exact hl x hx))]
   rw [hc _ fun x hx=>List.mem_of_mem_take hx,hc _ fun x hx=>List.mem_of_mem_drop hx]
  have o24:=io.ow.step s24 nv20
  rw [hrow] at o24
  exact k v20 ks' true H24 (join b24 o24 io.ne hsrt (by omega) hm (fun b hb=>by rcases io.bl b hb with q | q;exact .inl q;exact .inr (by omega)) st24) hm (by omega) (w1.trans st24)
end
end
section
variable {H:Hp} {N:Nat}
theorem snoc_of {α:Type} {l:List α} (h:0<l.length): ∃ a x,l=a++[x]:=⟨l.dropLast,l.getLast (by rintro rfl;simp at h),(List.dropLast_concat_getLast (by rintro rfl;simp at h)).symm⟩
theorem all2_snoc_inv {α β:Type} {R:α→β→Prop} {c:α} {x:β}: ∀ {l:List α} {r:List β},all2 R (l++[c]) (r++[x])→all2 R l r∧R c x
 | [],[],q=>⟨trivial,q.1⟩
 | a::l,b::r,q=>by
  obtain ⟨h1,h2⟩:=q
  obtain ⟨h3,h4⟩:=all2_snoc_inv h2
  exact ⟨⟨h1,h3⟩,h4⟩
 | [],b::r,q=>by
  obtain ⟨_,h2⟩:=q
  have:=all2_len h2
  simp at this
 | a::l,[],q=>by
  obtain ⟨_,h2⟩:=q
  have:=all2_len h2
  simp at this
section
variable {p e:Nat} {vl:AV} {ks:List (List Nat)} {V:List Nat→AV} {S:List Nat→List (Int × AV)} {T:List Nat→List (Int × List Int)}
theorem tadd_ok (h:TbX H N p e vl ks V S T (fun _=>True)) (hN:N≤H.nx) {a:List Nat} {f at_:Int} (hT:a ∉ ks→T a=[]) (hl:ks.length<16777216) (hTl:(T a).length≤1048576∧ ∀ x∈T a,x.2.length≤1048576) {Q:AV→Hp→Prop}
  (k: ∀ vl' ks' V' S' H',TbX H' N p e vl' ks' V' S' (updF T a (spAdd (T a) f at_)) (fun _=>True)→(∀ x,x∈ks'↔x∈ks∨x=a)→ks'.length≤ks.length+1→Stp (fun i=>N≤i) H H'→Q (.tup []) H'):Cal env 231 [.ptr p 0, .str a, .int .i64 f, .int .i64 at_] H Q:=by
 refine Cal.start fun hO=>s231 ?_
 unfold S231
 have main: ∀ (c:Bool) (v2:AV) (S0:List (Int × AV)) (H1:Hp),Stp noB H H1→SpO H1 N v2 S0 (T a)→(∀ b,blkOf vl=some b→ ¬ spBlk v2 S0 b)→(∀ k∈ks,k≠a→ ∀ b,spBlk (V k) (S k) b→ ¬ spBlk v2 S0 b)→ ∃ (v2':AV) (b3:Bool),AV.tup [v2, .bool c]= .tup [v2', .bool b3]∧ ∃ I4:AV→Hp→Prop,(∃ n5:Nat,lenS v2'=some n5∧ ∃ I6:Bool→Hp→Prop,IfB (ltI 0 (Int.ofNat n5)) (∃ p7 o8,ixF 2 v2' (wrapF .i64 ((Int.ofNat n5)-1))=some (p7,o8)∧ ∃ (n9:Int),Hp.load H1 p7 (o8+0) 1=some [(.int .i64 n9)]∧I6 (eqI n9 f) H1) (I6 false H1)∧ ∀ (H10:Hp) (J11:Ev), ∀ (b12:Bool),I6 b12 H10→IfB b12 (∃ p13 o14,ixF 2 v2' (wrapF .i64 ((Int.ofNat n5)-1))=some (p13,o14)∧ ∃ (v15:AV),Hp.load H10 p13 (o14+1) 1=some [v15]∧New H10 [(.int .i64 at_)] 1 fun p16 H17=> ∃ v18 H19,appF 1 8 H17 v15 (.slice p16 0 1 1 true)=some (v18,H19)∧ ∃ p20 o21,ixF 2 v2' (wrapF .i64 ((Int.ofNat n5)-1))=some (p20,o21)∧Chk (AV.sc v18) (∃ H22,Hp.store H19 p20 (o21+1) [v18]=some H22∧I4 v2' H22)) (New H10 [(.int .i64 at_)] 1 fun p23 H24=>New H24 [(.int .i64 f),(.slice p23 0 1 1 true)] 2 fun p25 H26=> ∃ v27 H28,appF 2 32 H26 v2' (.slice p25 0 1 1 true)=some (v27,H28)∧I4 v27 H28))∧ ∀ (H29:Hp) (J30:Ev), ∀ (v31:AV),I4 v31 H29→Cal env 258 [.ptr p 0, .str a,v31] H29 fun v32 H33=> ∃ (b34:Bool),v32=(.bool b34)∧Q (.tup []) H33:=by
  intro c v2 S0 H1 s1 sp hd0 hdr
  have n1:=s1.nx
  have hcl:=all2_len sp.cel
  refine ⟨v2,c,rfl,?_⟩
  refine ⟨fun v' H'=> ∃ S',SpO H' N v' S' (spAdd (T a) f at_)∧(∀ b,spBlk v' S' b→spBlk v2 S0 b∨H1.nx≤b)∧Stp (spBlk v2 S0) H1 H',⟨S0.length,by rw [sp.ow.sl.len,List.length_map],?_⟩,?_⟩
  ·refine ⟨fun c H'=>c=(match (T a).getLast? with | some x=>decide (x.1=f) | none=>false)∧H1=H',IfB.intro (fun q=>?_) (fun q=>?_),?_⟩
   ·rw [show (0:Int)= .ofNat 0 from rfl,ltI_nat] at q
    have q:=of_decide_eq_true q
    have ej:wrapF .i64 (Int.ofNat S0.length-1)= .ofNat (S0.length-1):=by
     rw [show (1:Int)= .ofNat 1 from rfl]
     exact subN q (by omega)
    rw [ej]
    obtain ⟨p7,o8,g1,_,g3⟩:=sp.ow.sl.elem (j:=S0.length-1) (by rw [List.length_map];omega)
    refine ⟨p7,o8,g1,S0[S0.length-1].1,?_,?_,rfl⟩
    ·rw [g3 0 1 (by omega),List.getElem_map];rfl
    ·have hel:=all2_at sp.cel (S0.length-1) (by omega) (by omega)
     have:(T a).getLast? =some (T a)[S0.length-1]:=by rw [List.getLast?_eq_getElem?,show (T a).length-1=S0.length-1 by omega,List.getElem?_eq_getElem (by omega)]
     rw [this,eqI_dec,hel.1]
   ·rw [show (0:Int)= .ofNat 0 from rfl,ltI_nat] at q
    have q:=of_decide_eq_false q
    have:T a=[]:=List.length_eq_zero_iff.1 (by omega)
    refine ⟨?_,rfl⟩
    rw [this]
    rfl
   rintro _ J2 _ ⟨rfl,rfl⟩
   refine IfB.intro (fun q=>?_) (fun q=>?_)
   ·cases hgl:(T a).getLast? with
    | none=>rw [hgl] at q;cases q
    | some x=>
     rw [hgl] at q
     have q:x.1=f:=of_decide_eq_true q
     have hpos:0<S0.length:=by
      cases hta:T a with
      | nil=>rw [hta] at hgl;cases hgl
      | cons _ _=>rw [hcl,hta];simp
     obtain ⟨C0,cc,hC⟩:=snoc_of hpos
     obtain ⟨T0,xx,hTT⟩:=snoc_of (hcl ▸ hpos)
     have hxx:xx=x:=by rw [hTT] at hgl;simpa using hgl
     subst hxx
     have hcel:=sp.cel
     rw [hC,hTT] at hcel
     obtain ⟨ce0,ce1⟩:=all2_snoc_inv hcel
     have hlc:S0.length=C0.length+1:=by rw [hC];simp
     have ej:wrapF .i64 (Int.ofNat S0.length-1)= .ofNat C0.length:=by
      rw [hlc,show (1:Int)= .ofNat 1 from rfl]
      have:=subN (a:=C0.length+1) (b:=1) (by omega) (by omega)
      rw [this];rfl
     rw [ej]
     have hjC:C0.length<(S0.map pc).length:=by rw [List.length_map];omega
     have hSj:(S0.map pc)[C0.length]'hjC=pc cc:=by
      rw [List.getElem_map]
      congr 1
      simp [hC]
     obtain ⟨p13,o14,g1,_,g3⟩:=sp.ow.sl.elem hjC
     refine ⟨p13,o14,g1,cc.2,by rw [g3 1 1 (by omega),hSj];rfl,?_⟩
     have hxm:xx∈T a:=by rw [hTT];simp
     have hx2:=hTl.2 xx hxm
     have hccb: ∀ b,blkOf cc.2=some b→spBlk v2 S0 b:=fun b hb=> .inr ⟨cc,by rw [hC];simp,hb⟩
     refine ce1.2.appE s1.ok (by omega) rfl rfl (by simp only [List.length_map,room];omega) (by decide) fun v18 H19 o18 s18 f18=>?_
     have nrow: ∀ b,blkOf v2=some b→ ¬ isB cc.2 b:=fun b hb hg=>sp.ow.ne_es ce1.2 b hb hg
     have ow19:=sp.ow.step s18 nrow
     obtain ⟨bb,oo,k1,_,_,H22,e22,o22,s22⟩:=ow19.setS s18.ok hjC 1 (vs:=[v18]) (by simp) (by simp only [scAll,o18.sl.sc])
     refine ⟨bb,oo,k1,Chk.intro o18.sl.sc ⟨H22,e22,C0++[(f,v18)],?_,?_,?_⟩⟩
     ·have n18: ∀ b,blkOf v18=some b→ ¬ isB v2 b:=fun b hb hg=>ow19.ne_es o18 b hg hb
      have hadd:spAdd (T a) f at_=T0++[(f,xx.2++[at_])]:=by
       unfold spAdd
       rw [hgl]
       simp only
       rw [if_pos q,hTT,List.dropLast_concat]
      rw [hadd]
      have e1:(S0.map pc).set C0.length (((S0.map pc)[C0.length]'hjC).take 1++([v18]++((S0.map pc)[C0.length]'hjC).drop (1+[v18].length)))=(C0++[(f,v18)]).map pc:=by
       rw [hSj,hC,List.map_append,List.map_append,List.set_append_right _ _ (by simp),List.length_map,Nat.sub_self]
       have:cc.1=f:=ce1.1.trans q
       simp [pc,this]
      rw [e1] at o22
      have o18':Ow H22 N 1 v18 ((xx.2++[at_]).map i8):=by
       have:=o18.step s22 n18
       rw [List.map_append]
       exact this
      have rest:all2 (atO H22 N) C0 T0:=all2_monoM (fun c hc y r=>⟨r.1,by
       have hci: ∀ b,blkOf c.2=some b→ ¬ isB cc.2 b:=fun b hb hg=>by
        obtain ⟨i,hi,rfl⟩:=List.getElem_of_mem hc
        have:=sp.di i C0.length (by omega) (by omega) (by omega) b
        have e1:S0[i]'(by omega)=C0[i]:=by simp only [hC];exact List.getElem_append_left hi
        have e2:S0[C0.length]'(by omega)=cc:=by simp [hC]
        rw [e1,e2] at this
        exact this hb hg
       exact (r.2.step s18 hci).step s22 fun b hb hg=>sp.ow.ne_es r.2 b hg hb⟩) ce0
      refine ⟨o22,all2_snoc ⟨rfl,o18'⟩ rest,?_⟩
      ·intro i j hi hj hij b hb hb2
       have hlt: ∀ i (h:i<(C0++[(f,v18)]).length),i<C0.length∨i=C0.length:=fun i h=>by simp at h;omega
       have old: ∀ i (h:i<C0.length) b,blkOf C0[i].2=some b→spBlk v2 S0 b∧ ¬ blkOf cc.2=some b:=fun i h b hb=>by
        have e1:S0[i]'(by omega)=C0[i]:=by simp only [hC];exact List.getElem_append_left h
        have e2:S0[C0.length]'(by omega)=cc:=by simp [hC]
        refine ⟨.inr ⟨C0[i],by rw [hC];exact List.mem_append_left _ (List.getElem_mem _),hb⟩,fun hg=>?_⟩
        have:=sp.di i C0.length (by omega) (by omega) (by omega) b
        rw [e1,e2] at this
        exact this hb hg
       rcases hlt i hi with h1 | rfl
       ·rcases hlt j hj with h2 | rfl
        ·rw [List.getElem_append_left h1] at hb
         rw [List.getElem_append_left h2] at hb2
         have:=sp.di i j (by omega) (by omega) hij b
         have e1:S0[i]'(by omega)=C0[i]:=by simp only [hC];exact List.getElem_append_left h1
         have e2:S0[j]'(by omega)=C0[j]:=by simp only [hC];exact List.getElem_append_left h2
         rw [e1,e2] at this
         exact this hb hb2
        ·rw [List.getElem_append_left h1] at hb
         have hb2:blkOf v18=some b:=by simpa using hb2
         obtain ⟨o1,o2⟩:=old i h1 b hb
         rcases f18 b hb2 with q | q
         ·exact o2 q
         ·have:=(sp.lt o1).2;omega
       ·rcases hlt j hj with h2 | rfl
        ·rw [List.getElem_append_left h2] at hb2
         have hb:blkOf v18=some b:=by simpa using hb
         obtain ⟨o1,o2⟩:=old j h2 b hb2
         rcases f18 b hb with q | q
         ·exact o2 q
         ·have:=(sp.lt o1).2;omega
        ·exact hij rfl
     ·rintro b (hb | ⟨c,hc,hb⟩)
      ·exact .inl (.inl hb)
      ·rcases List.mem_append.1 hc with hc | hc
       ·exact .inl (.inr ⟨c,by rw [hC];exact List.mem_append_left _ hc,hb⟩)
       ·rw [List.mem_singleton] at hc
        subst hc
        rcases f18 b hb with q | q
        ·exact .inl (hccb b q)
        ·exact .inr q
     ·exact (s18.wide fun i _ q=>hccb i q).trans (s22.wide fun i _ q=> .inl q)
   ·have hadd:spAdd (T a) f at_=T a++[(f,[at_])]:=by
     unfold spAdd
     split
     ·rename_i x hx
      rw [hx] at q
      rw [if_neg (of_decide_eq_false q)]
     ·rfl
    rw [hadd]
    refine New.stp s1.ok fun H24 b24 s24=>New.stp s24.ok fun H26 b26 s26=>?_
    have t26:=s24.trans s26
    have n24:=s24.ok.lt b24
    have ow26:=sp.ow.quiet t26
    have hlen:=hTl.1
    refine ow26.appS s26.ok (by have:=t26.nx;omega) (lit_sl b26 rfl rfl) (by simp only [List.length_map,List.length_singleton,room];omega) (by decide) fun v27 H28 o28 s28 f28=>?_
    have n26:=s26.nx
    have oc:Ow H26 N 1 (.slice H1.nx 0 1 1 true) [i8 at_]:=(bk_one b24 rfl rfl (by omega) n24).quiet s26
    have oc28:Ow H28 N 1 (.slice H1.nx 0 1 1 true) [i8 at_]:=oc.step s28 fun b hb hg=>ow26.ne_es oc b hg hb
    refine ⟨S0++[(f, .slice H1.nx 0 1 1 true)],⟨by rw [List.map_append];exact o28,all2_snoc ⟨rfl,oc28⟩ (all2_monoM (fun c hc y r=>⟨r.1,(r.2.quiet t26).step s28 fun b hb hg=>sp.ow.ne_es r.2 b hg hb⟩) sp.cel),?_⟩,?_,?_⟩
    ·intro i j hi hj hij b hb hb2
     have hlt: ∀ i (h:i<(S0++[(f,AV.slice H1.nx 0 1 1 true)]).length),i<S0.length∨i=S0.length:=fun i h=>by simp at h;omega
     have old: ∀ i (h:i<S0.length) b,blkOf S0[i].2=some b→b<H1.nx:=fun i h b hb=>(sp.lt (.inr ⟨S0[i],List.getElem_mem _,hb⟩)).2
     rcases hlt i hi with h1 | rfl
     ·rcases hlt j hj with h2 | rfl
      ·rw [List.getElem_append_left h1] at hb
       rw [List.getElem_append_left h2] at hb2
       exact sp.di i j h1 h2 hij b hb hb2
      ·rw [List.getElem_append_left h1] at hb
       have:=old i h1 b hb
       have hb2:blkOf (.slice H1.nx 0 1 1 true)=some b:=by simpa using hb2
       cases hb2
       omega
     ·rcases hlt j hj with h2 | rfl
      ·rw [List.getElem_append_left h2] at hb2
       have:=old j h2 b hb2
       have hb:blkOf (.slice H1.nx 0 1 1 true)=some b:=by simpa using hb
       cases hb
       omega
      ·exact hij rfl
    ·rintro b (hb | ⟨c,hc,hb⟩)
     ·rcases f28 b hb with q | q
      ·exact .inl (.inl q)
      ·exact .inr (by omega)
     ·rcases List.mem_append.1 hc with hc | hc
      ·exact .inl (.inr ⟨c,hc,hb⟩)
      ·rw [List.mem_singleton] at hc
       subst hc
       cases hb
       exact .inr (Nat.le_refl _)
    ·exact t26.of.trans (s28.wide fun i _ q=> .inl q)
  ·rintro H29 J v' ⟨S',sp',hbl,st⟩
   have h1:=h.quiet hO s1
   have hfr: ∀ b,spBlk v2 S0 b→ ¬ b=p:=fun b hb q=>by
    rcases hb with hb | ⟨c,hc,hb⟩
    ·exact (sp.ow.ne_bk1 h1.bx h1.hi: ∀ i,blkOf v2=some i→ ¬ i=p) b hb q
    ·obtain ⟨x,hx⟩:=all2_mem sp.cel c hc
     exact hx.2.ne_bk h1.bx h1.hi b hb q
   have hx29:TbX H29 N p e vl ks V S T (· ≠a):=(h1.sub (R:=(· ≠a)) fun _ _=>trivial).keep s1.ok st (fun q=>hfr p q rfl) (fun b hb q=>hd0 b hb q) fun k hk hka b hb q=>hdr k hk hka b hb q
   have n29:=st.nx
   refine tput_ok hx29 st.ok (by omega) sp' (fun b hb q=>?_) (fun k hk hka b hb q=>?_) hl fun vl' ks' c' H33 ht hm hlen s33=>⟨c',rfl,?_⟩
   ·rcases hbl b q with q | q
    ·exact hd0 b hb q
    ·have:=h1.ow.lt b hb;omega
   ·rcases hbl b q with q | q
    ·exact hdr k hk hka b hb q
    ·have:=((h1.row k hk trivial).lt hb).2;omega
   ·refine k vl' ks' _ _ H33 ht hm hlen ?_
    have lo: ∀ i,spBlk v2 S0 i→N≤i:=fun i hi=>(sp.lt hi).1
    exact s1.of.trans ((st.wide fun i _ q=>lo i q).trans (s33.wide fun i _ q=>by rcases q with q | q;rw [q];exact h.lo;exact hx29.ow.isB_low i q))
 refine tget_ok h (fun hm H1 s1=>?_) (fun hm H1 s1=>?_)
 ·exact main true (V a) (S a) H1 s1 ((h.row a hm trivial).keep s1 fun _ _ q=>q) (h.d0 a hm trivial) (fun k hk hka=>h.dr k hk trivial a hm trivial hka)
 ·refine main false .nils [] H1 s1 ?_ (fun b _ q=>?_) (fun k _ _ b _ q=>?_)
  ·rw [hT hm];exact SpO.nil
  ·rcases q with q | ⟨c,hc,_⟩
   ·cases q
   ·cases hc
  ·rcases q with q | ⟨c,hc,_⟩
   ·cases q
   ·cases hc
end
end
section
variable {H:Hp} {N:Nat}
section
variable {p e:Nat} {vl:AV} {ks:List (List Nat)} {V:List Nat→AV} {S:List Nat→List (Int × AV)} {T:List Nat→List (Int × List Int)} {P:List Nat→Prop}
theorem tkeys_ok (h:TbX H N p e vl ks V S T P) {Q:AV→Hp→Prop} (k: ∀ v H',Ow H' H.nx 1 v (ks.map sc1)→Stp noB H H'→Q v H'):Cal env 232 [.ptr p 0] H Q:=by
 refine Cal.start fun hO=>s232 ?_
 unfold S232
 have hl:=h.ln
 refine tlen_ok h ⟨_,rfl,?_⟩
 refine ⟨fun m v n H'=> ∃ i,n= .ofNat i∧i≤ks.length∧m=ks.length-i∧Ow H' H.nx 1 v ((ks.take i).map sc1)∧Stp noB H H',
  ⟨ks.length,0,rfl,by omega,by omega,Ow.nil,Stp.refl hO⟩,?_⟩
 rintro m H5 J v _ ⟨i,rfl,hi,rfl,ow,st⟩
 refine IfB.intro (fun z=>?_) (fun z=>?_)
 ·rw [ltI_nat] at z
  have z:i<ks.length:=of_decide_eq_true z
  have h5:=h.quiet hO st
  obtain ⟨p14,o15,g1,_,g3⟩:=h5.ow.sl.elem (j:=i) (by rw [List.length_map];exact z)
  refine ⟨vl,h5.bx.ld 0 rfl h5.ow.sl.sc,p14,o15,g1,ks[i],by rw [g3 0 1 (by omega),List.getElem_map];rfl,?_⟩
  refine ow.appE st.ok st.nx rfl rfl (by simp [room];omega) (by decide) fun v19 H20 o20 s20 f20=>?_
  refine ⟨ks.length-(i+1),by omega,i+1,wrap_i64 (x:=i+1) (by omega),z,rfl,?_,st.then s20 fun j hj=>ow.isB_low j hj⟩
  rw [take_snoc z,List.map_append]
  exact o20
 ·rw [ltI_nat] at z
  have z:i=ks.length:=by have:=of_decide_eq_false z;omega
  subst z
  rw [List.take_length] at ow
  exact k v H5 ow st
end
def since (H:Hp) (N:Nat):List Nat:=List.range' N (H.nx-N)
theorem mem_since {N i:Nat}:i∈since H N↔N≤i∧i<H.nx:=by
 unfold since
 rw [List.mem_range'_1]
 omega
theorem SpO.frz {v:AV} {Sp:List (Int × AV)} {T:List (Int × List Int)} (h:SpO H N v Sp T):SpR (Eng.frz H (since H N)) v T:=by
 have hm: ∀ b,spBlk v Sp b→b∈since H N:=fun b hb=>mem_since.2 (h.lt hb)
 exact SpR.of (h.ow.sl.frz_any fun i hi=>hm i (.inl hi)) (all2_monoM (fun c hc y r=>⟨r.1,r.2.sl.frz_any fun i hi=>hm i (.inr ⟨c,hc,hi⟩)⟩) h.cel)
theorem spAdd_len {T:List (Int × List Int)} {f a:Int} {m:Nat} (h1:T.length≤m) (h2: ∀ x∈T,x.2.length≤m):(spAdd T f a).length≤m+1∧ ∀ x∈spAdd T f a,x.2.length≤m+1:=by
 unfold spAdd
 split
 ·rename_i x hx
  split
  ·constructor
   ·simp;omega
   ·intro y hy
    rcases List.mem_append.1 hy with hy | hy
    ·have:=h2 y (List.dropLast_subset _ hy);omega
    ·rw [List.mem_singleton] at hy
     subst hy
     have:=h2 x (List.mem_of_getLast? hx)
     simp;omega
  ·constructor
   ·simp;omega
   ·intro y hy
    rcases List.mem_append.1 hy with hy | hy
    ·have:=h2 y hy;omega
    ·rw [List.mem_singleton] at hy
     subst hy
     simp
 ·constructor
  ·simp;omega
  ·intro y hy
   rcases List.mem_append.1 hy with hy | hy
   ·have:=h2 y hy;omega
   ·rw [List.mem_singleton] at hy
    subst hy
    simp
theorem spAdd_ne (T:List (Int × List Int)) (f a:Int):spAdd T f a≠[]:=by
 unfold spAdd
 split
 ·split <;> simp
 ·simp
def addTok (f:Int) (T:List Nat→List (Int × List Int)) (x:List Nat × Nat):List Nat→List (Int × List Int):=updF T x.1 (spAdd (T x.1) f (.ofNat x.2))
def addTxt (f:Int) (T:List Nat→List (Int × List Int)) (s:List Nat):List Nat→List (Int × List Int):=(textU s).foldl (addTok f) T
def docGo:Int→List (List Nat)→(List Nat→List (Int × List Int))→List Nat→List (Int × List Int)
 | _,[],T=>T
 | f,s::l,T=>docGo (f+1) l (addTxt f T s)
def docT (l:List (List Nat)):List Nat→List (Int × List Int):=docGo 1 l fun _=>[]
def KeysOf (ks:List (List Nat)) (T:List Nat→List (Int × List Int)):Prop:=SrtS ks∧ ∀ x,x∈ks↔T x≠[]
abbrev Term:=List Nat × List Post
def tmR (H:Hp) (c:List Nat × AV) (x:Term):Prop:=c.1=x.1∧PoR H c.2 x.2
def tc (c:List Nat × AV):List AV:=[.str c.1,c.2]
def TmR (H:Hp) (v:AV) (l:List Term):Prop:= ∃ cs:List (List Nat × AV),Sl H 2 v (cs.map tc) true∧all2 (tmR H) cs l
theorem tmR.mono {H':Hp} {c:List Nat × AV} {x:Term} (h:tmR H c x) (m:Mo H H'):tmR H' c x:=⟨h.1,h.2.mono m⟩
theorem TmR.mono {H':Hp} {v:AV} {l:List Term} (h:TmR H v l) (m:Mo H H'):TmR H' v l:=by
 obtain ⟨cs,h1,h2⟩:=h
 exact ⟨cs,h1.mono m,all2_mono (fun _ _ r=>r.mono m) h2⟩
end
section
variable {H:Hp} {N:Nat}
theorem text_rdz (hG:GlOk H) {s:List Nat} (hs: ∀ b∈s,b<256) (hl:s.length≤1099511627776) {Q:AV→Hp→Prop}
  (k: ∀ v H',Sl H' 2 v ((textU s).map tk2) true→TxOk (textU s)→Stp noB H H'→Q v H'):Cal env 230 [.str s] H Q:=
 Cal.behind (text_ok' hG hs hl fun v _ o h st=>⟨blks v,k v _ o.frz h (st.frz o.blks_low)⟩)
structure TbM (ks:List (List Nat)) (T:List Nat→List (Int × List Int)) (m:Nat):Prop where
 mem: ∀ x,x∈ks↔T x≠[]
 ln:ks.length≤m
 tl: ∀ a,(T a).length≤m∧ ∀ x∈T a,x.2.length≤m
theorem TbM.add {ks ks':List (List Nat)} {T:List Nat→List (Int × List Int)} {m:Nat} (h:TbM ks T m) {f:Int} {x:List Nat × Nat} (hm: ∀ y,y∈ks'↔y∈ks∨y=x.1) (hl:ks'.length≤ks.length+1):TbM ks' (addTok f T x) (m+1):=by
 refine ⟨fun y=>?_,by have:=h.ln;omega,fun a=>?_⟩
 ·rw [hm]
  unfold addTok
  by_cases hy:y=x.1
  ·rw [hy,updF_same]
   exact ⟨fun _=>spAdd_ne _ _ _,fun _=> .inr rfl⟩
  ·rw [updF_ne T _ hy]
   rw [←h.mem]
   exact ⟨fun q=>q.elim id fun q=>absurd q hy, .inl⟩
 ·unfold addTok
  by_cases ha:a=x.1
  ·rw [ha,updF_same]
   exact spAdd_len (h.tl _).1 (h.tl _).2
  ·rw [updF_ne T _ ha]
   have:=h.tl a
   exact ⟨by omega,fun y hy=>by have:=this.2 y hy;omega⟩
theorem TbM.le {ks:List (List Nat)} {T:List Nat→List (Int × List Int)} {m n:Nat} (h:TbM ks T m) (hn:m≤n):TbM ks T n:=
 ⟨h.mem,by have:=h.ln;omega,fun a=>⟨by have:=(h.tl a).1;omega,fun x hx=>by have:=(h.tl a).2 x hx;omega⟩⟩
theorem doc_ok (hG:GlOk H) {id t0 t1 t2 t3:List Nat} (hb: ∀ s∈[t0,t1,t2,t3],(∀ b∈s,b<256)∧s.length≤1099511627776) {num:Int} {Q:AV→Hp→Prop}
  (k: ∀ v ks H',KeysOf ks (docT [t0,t1,t2,t3])→ks.length≤240→TmR H' v (ks.map fun k=>(k,[(num,docT [t0,t1,t2,t3] k)]))→Stp noB H H'→Q v H'):Cal env 188 [.agg [.str id, .str t0, .str t1, .str t2, .str t3], .int .i64 num] H Q:=by
 refine Cal.start fun hO=>Cal.behind (s188 ?_)
 unfold S188
 obtain ⟨ts,hts⟩: ∃ ts,[t0,t1,t2,t3]=ts:=⟨_,rfl⟩
 have htl:ts.length=4:=by rw [←hts];rfl
 refine New.stp hO fun H6 b6 s6=>New.stp s6.ok fun H8 b8 s8=>?_
 have n6:=s6.ok.lt b6
 have n8:=s8.ok.lt b8
 have b6':=b6.step s6.ok s8 (fun q=>q)
 refine ⟨t0,t1,t2,t3,b6'.load 1 4 rfl,?_⟩
 have hcells:[AV.str t0, .str t1, .str t2, .str t3]=ts.map AV.str:=by rw [←hts];rfl
 rw [hcells]
 rw [hts] at hb k
 obtain ⟨e0,he0⟩: ∃ e0,Bk H8 H6.nx [.nils] e0∧esU<e0:=⟨_,b8,by simp only [esU,tagN];omega⟩
 have tb8:TbX H8 H.nx H6.nx e0 .nils [] (fun _=> .nils) (fun _=>[]) (fun _=>[]) (fun _=>True):=⟨he0.1,he0.2,s6.nx,Ow.nil, .inl rfl,(fun i j hi=>by cases hi),by simp,(fun k hk=>by cases hk),(fun k hk=>by cases hk),(fun k hk=>by cases hk)⟩
 have tm8:TbM [] (fun _=>[]) 0:=⟨fun x=>by simp,by simp,fun a=>⟨by simp,fun x hx=>by cases hx⟩⟩
 refine ⟨fun m n H'=> ∃ (j:Nat) (vl:AV) (ks:List (List Nat)) (V:List Nat→AV) (Sp:List Nat→List (Int × AV)) (T:List Nat→List (Int × List Int)),n= .ofNat j∧j≤4∧m=4-j∧TbX H' H.nx H6.nx e0 vl ks V Sp T (fun _=>True)∧TbM ks T (60*j)∧docGo ((j:Int)+1) (ts.drop j) T=docT ts∧Stp noB H H',
  ⟨4,0, .nils,[],_,_,_,rfl,by omega,rfl,tb8,tm8,rfl,s6.trans s8⟩,?_⟩
 rintro m H15 J _ ⟨j,vl,ks,V,Sp,T,rfl,hj,rfl,tb,tm,hd,st⟩
 refine IfB.intro (fun z=>?_) (fun z=>?_)
 ·rw [show (4:Int)= .ofNat 4 from rfl,ltI_nat] at z
  have z:j<4:=of_decide_eq_true z
  have hjt:j<ts.length:=by omega
  refine ⟨j,rfl,z,ts[j],?_,?_⟩
  ·have hrw: ∀ (l:List (List Nat)) (i:Nat) (hi:i<l.length),takeN (dropN (l.map AV.str) (i*1)) 1=some [.str l[i]]:=fun l i hi=>by
    rw [dropN_eq,Nat.mul_one,takeN_eq,if_pos (by rw [List.length_drop,List.length_map];omega), ←List.map_drop,List.drop_eq_getElem_cons hi]
    rfl
   exact hrw ts j hjt
  ·obtain ⟨c1,c2⟩:=hb ts[j] (List.getElem_mem hjt)
   refine text_rdz (hG.mono st.mo) c1 c2 fun v23 H22 sl22 tx22 s22=>⟨_,rfl,(textU ts[j]).length,by rw [sl22.len,List.length_map],?_⟩
   have ln60:=tx22.ln
   refine ⟨fun m n H'=> ∃ (i:Nat) (vl:AV) (ks:List (List Nat)) (V:List Nat→AV) (Sp:List Nat→List (Int × AV)) (T':List Nat→List (Int × List Int)),n= .ofNat i∧i≤(textU ts[j]).length∧m=(textU ts[j]).length-i∧TbX H' H.nx H6.nx e0 vl ks V Sp T' (fun _=>True)∧TbM ks T' (60*j+i)∧((textU ts[j]).drop i).foldl (addTok ((j:Int)+1)) T'=addTxt ((j:Int)+1) T ts[j]∧Stp noB H H'∧Mo H22 H',
    ⟨(textU ts[j]).length,0,vl,ks,V,Sp,T,rfl,by omega,by omega,tb.quiet st.ok s22,tm,rfl,st.trans s22,Mo.refl _⟩,?_⟩
   rintro m H27 J2 _ ⟨i,vl,ks,V,Sp,T',rfl,hi,rfl,tb27,tm27,hf,st27,mo27⟩
   refine IfB.intro (fun y=>?_) (fun y=>?_)
   ·rw [ltI_nat] at y
    have y:i<(textU ts[j]).length:=of_decide_eq_true y
    obtain ⟨x,hx⟩: ∃ x,(textU ts[j])[i]=x:=⟨_,rfl⟩
    obtain ⟨p31,o32,g1,g2,_⟩:=(sl22.mono mo27).elem (j:=i) (by rw [List.length_map];exact y)
    refine ⟨p31,o32,g1,x.1, .ofNat x.2,by rw [g2,List.getElem_map,hx];rfl,New.stp st27.ok fun H36 b36 s36=>?_⟩
    obtain ⟨H37,e37,b37,s37⟩:=b36.stp s36.ok (o:=0) (vs:=[.str x.1, .int .i64 (.ofNat x.2)]) rfl rfl
    have t37:Stp noB H27 H37:=s36.then s37 fun i hi=>by rw [hi];exact Nat.le_refl _
    have b37:Bk H37 H27.nx [.str x.1, .int .i64 (.ofNat x.2)] _:=b37
    refine ⟨H37,e37,x.1,b37.ld 0 rfl rfl, .ofNat x.2,b37.ld 1 rfl rfl,?_⟩
    have tb37:=tb27.quiet st27.ok t37
    have st37:=st27.trans t37
    have hln:=tm27.ln
    have htl:=tm27.tl x.1
    have ej:wrapF .i64 (Int.ofNat j+1)=((j:Int)+1):=wid (by simp only [Int.ofNat_eq_natCast];omega) (by simp only [Int.ofNat_eq_natCast];omega)
    rw [ej]
    refine tadd_ok tb37 st37.nx (a:=x.1) (f:=(j:Int)+1) (at_:= .ofNat x.2) (fun hn=>?_) (by omega) ⟨by omega,fun y hy=>by have:=htl.2 y hy;omega⟩ fun vl' ks' V' S' H41 tb41 hm41 hl41 s41=>⟨rfl,(textU ts[j]).length-(i+1),by omega,i+1,vl',ks',V',S',addTok ((j:Int)+1) T' x,wrap_i64 (x:=i+1) (by omega),y,rfl,tb41,tm27.add hm41 hl41,?_,st37.then s41 fun i hi=>hi,mo27.trans (t37.mo.trans s41.mo)⟩
    ·cases hTa:T' x.1 with
     | nil=>rfl
     | cons a l=>exact absurd ((tm27.mem x.1).2 (by rw [hTa];simp)) hn
    ·rw [←hf,List.drop_eq_getElem_cons y,hx,List.foldl_cons]
   ·rw [ltI_nat] at y
    have y:i=(textU ts[j]).length:=by have:=of_decide_eq_false y;omega
    subst y
    rw [List.drop_length,List.foldl_nil] at hf
    refine ⟨4-(j+1),by omega,j+1,vl,ks,V,Sp,T',wrap_i64 (x:=j+1) (by omega),z,rfl,tb27,tm27.le (by omega),?_,st27⟩
    rw [←hd,List.drop_eq_getElem_cons hjt,docGo,hf]
    rfl
 ·rw [show (4:Int)= .ofNat 4 from rfl,ltI_nat] at z
  have z:j=4:=by have:=of_decide_eq_false z;omega
  subst z
  have hTd:T=docT ts:=by
   rw [List.drop_of_length_le (by omega)] at hd
   exact hd
  have hk:KeysOf ks (docT ts):=by rw [←hTd];exact ⟨tb.srt,tm.mem⟩
  have hkl:=tm.ln
  refine tkeys_ok tb fun v44 H43 o44 s43=>⟨_,rfl,ks.length,by rw [o44.sl.len,List.length_map],?_⟩
  have t43:=st.trans s43
  have tb43:=tb.quiet st.ok s43
  have n43:=s43.nx
  have nst:=st.nx
  refine ⟨fun m v n H'=> ∃ (i:Nat) (cs:List (List Nat × AV)),n= .ofNat i∧i≤ks.length∧m=ks.length-i∧Ow H' H43.nx 2 v (cs.map tc)∧all2 (fun (c:List Nat × AV) (k:List Nat)=>c.1=k∧Ow H' H43.nx 2 c.2 [pc (num,V k)]) cs (ks.take i)∧(∀ c∈cs, ∀ b,blkOf c.2=some b→ ¬ isB v b)∧Stp (fun i=>H43.nx≤i) H43 H',
   ⟨ks.length,0,[],rfl,by omega,by omega,Ow.nil,trivial,(fun c hc=>by cases hc),Stp.refl t43.ok⟩,?_⟩
  rintro m H48 J2 v50 _ ⟨i,cs,rfl,hi,rfl,ow,a2,hne,s48⟩
  have tb48:TbX H48 H.nx H6.nx e0 vl ks V Sp T (fun _=>True):=tb43.keep t43.ok s48 (by have:=t43.ok.lt tb43.bx;omega) (fun b hb=>by have:=tb43.ow.lt b hb;omega) fun k hk hP b hb=>by have:=((tb43.row k hk hP).lt hb).2;omega
  have t48:Stp noB H H48:=t43.then s48 fun i hi=>by omega
  have hcl:=all2_len a2
  refine IfB.intro (fun y=>?_) (fun y=>?_)
  ·rw [ltI_nat] at y
   have y:i<ks.length:=of_decide_eq_true y
   obtain ⟨p53,o54,g1,g2⟩:=sc_elem (o44.step s48 fun b hb=>by have:=o44.lt b hb;omega).sl y
   refine ⟨p53,o54,g1,ks[i],g2,?_⟩
   have hkm:ks[i]∈ks:=List.getElem_mem y
   refine tget_ok tb48 (fun _ H57 s57=>⟨_,_,rfl,?_⟩) (fun hn=>absurd hkm hn)
   have hrow:=(tb48.row ks[i] hkm trivial).keep s57 fun _ _ q=>q
   have hsc:=hrow.ow.sl.sc
   refine Chk.intro hsc (Chk.intro (scPc hsc) (New.stp s57.ok fun H61 b61 s61=>New.stp s61.ok fun H63 b63 s63=>?_))
   have n57:=s57.nx
   have n61:=s61.ok.lt b61
   have n48:=s48.nx
   have t63:Stp noB H48 H63:=s57.trans (s61.trans s63)
   have n63:=t63.nx
   have ow63:=ow.quiet t63
   have op:Ow H63 H43.nx 2 (.slice H57.nx 0 1 1 true) [pc (num,V ks[i])]:=(bk_one b61 rfl (scPc hsc) (by omega) n61).quiet s63
   have hln:cs.length=i:=by rw [hcl,List.length_take];omega
   refine ow63.appS t63.ok (by omega) (lit_sl b63 rfl rfl) (by simp only [List.length_map,List.length_singleton,room];omega) (by decide) fun v64 H65 o65 s65 f65=>?_
   have np: ¬ isB v50 H57.nx:=fun q=>by have:=ow.lt _ q;omega
   have hne65: ∀ c∈cs, ∀ b,blkOf c.2=some b→b<H48.nx:=fun c hc b hb=>by
    obtain ⟨x,hx⟩:=all2_mem a2 c hc
    exact hx.2.lt b hb
   have n65:H63.nx≤H65.nx:=s65.nx
   refine ⟨ks.length-(i+1),by omega,i+1,cs++[(ks[i], .slice H57.nx 0 1 1 true)],wrap_i64 (x:=i+1) (by omega),y,rfl,?_,?_,?_,(s48.trans t63.of).trans (s65.wide fun b _ q=>ow63.isB_low b q)⟩
   ·rw [List.map_append];exact o65
   ·rw [take_snoc y]
    refine all2_snoc ⟨rfl,op.step s65 fun b hb q=>?_⟩ (all2_monoM (fun c hc x r=>⟨r.1,(r.2.quiet t63).step s65 fun b hb q=>hne c hc b hb q⟩) a2)
    cases hb
    exact np q
   ·intro c hc b hb hg
    rcases List.mem_append.1 hc with hc | hc
    ·rcases f65 b hg with q | q
     ·exact hne c hc b hb q
     ·have:=hne65 c hc b hb;omega
    ·rw [List.mem_singleton] at hc
     subst hc
     cases hb
     rcases f65 _ hg with q | q
     ·exact np q
     ·have:=s61.ok.lt b61;have:H57.nx<H63.nx:=by have:=s63.nx;omega
      omega
  ·rw [ltI_nat] at y
   have y:i=ks.length:=by have:=of_decide_eq_false y;omega
   subst y
   rw [List.take_length] at a2
   refine ⟨since H48 H.nx,k v50 ks _ hk (by omega) ⟨cs,(ow.low (M:=H.nx) (by omega)).sl.frz_any fun b hb=>mem_since.2 ⟨by have:=ow.isB_low b hb;omega,ow.lt b hb⟩,?_⟩ (t48.frz fun i hi=>(mem_since.1 hi).1)⟩
   have key: ∀ (cs:List (List Nat × AV)) (l:List (List Nat)),(∀ x∈l,x∈ks)→all2 (fun (c:List Nat × AV) (k:List Nat)=>c.1=k∧Ow H48 H43.nx 2 c.2 [pc (num,V k)]) cs l→all2 (tmR (Eng.frz H48 (since H48 H.nx))) cs (l.map fun k=>(k,[(num,docT ts k)])):=fun cs=>by
    induction cs with
    | nil=>intro l _ q;cases l with
     | nil=>exact trivial
     | cons _ _=>exact q.elim
    | cons c cs ih=>
     intro l hl q
     cases l with
     | nil=>exact q.elim
     | cons x l=>
      obtain ⟨⟨q1,q2⟩,q3⟩:=q
      have hxk:=hl x List.mem_cons_self
      refine ⟨⟨q1,PoR.of (cs:=[(num,V x)]) (q2.sl.frz_any fun b hb=>mem_since.2 ⟨by have:=q2.isB_low b hb;omega,q2.lt b hb⟩) ⟨⟨rfl,?_⟩,trivial⟩⟩,ih l (fun y hy=>hl y (List.mem_cons_of_mem _ hy)) q3⟩
      have:=(tb48.row x hxk trivial).frz
      rw [hTd] at this
      exact this
   exact key cs ks (fun x hx=>hx) a2
end
section
variable {α:Type} {lt:α→α→Bool}
structure Ordr (lt:α→α→Bool):Prop where
 tr: ∀ a b c,lt b a=false→lt c b=false→lt c a=false
 to: ∀ a b,lt a b=true→lt b a=false
def LeA (lt:α→α→Bool) (l:List α) (i j:Nat):Prop:= ∀ (hi:i<l.length) (hj:j<l.length),lt l[j] l[i]=false
def IsHp (lt:α→α→Bool) (l:List α):Prop:= ∀ j,0<j→LeA lt l ((j-1) / 2) j
structure UpI (lt:α→α→Bool) (l:List α) (i:Nat):Prop where
 a: ∀ j,0<j→j≠i→LeA lt l ((j-1) / 2) j
 b: ∀ j,0<j→(j-1) / 2=i→0<i→LeA lt l ((i-1) / 2) j
structure DnI (lt:α→α→Bool) (l:List α) (i:Nat):Prop where
 a: ∀ j,0<j→(j-1) / 2≠i→LeA lt l ((j-1) / 2) j
 b: ∀ j,0<j→(j-1) / 2=i→0<i→LeA lt l ((i-1) / 2) j
def swp (l:List α) (i j:Nat) (hi:i<l.length) (hj:j<l.length):List α:=(l.set i l[j]).set j l[i]
theorem swp_len {l:List α} {i j:Nat} (hi:i<l.length) (hj:j<l.length):(swp l i j hi hj).length=l.length:=by unfold swp;simp
theorem swp_get {l:List α} {i j:Nat} (hi:i<l.length) (hj:j<l.length) (k:Nat) (hk:k<(swp l i j hi hj).length):(swp l i j hi hj)[k]=if k=j then l[i] else if k=i then l[j] else l[k]'(by rw [swp_len] at hk;exact hk):=by
 have hk':k<((l.set i l[j]).set j l[i]).length:=hk
 show ((l.set i l[j]).set j l[i])[k]'hk'=_
 rw [List.getElem_set,List.getElem_set]
 by_cases h1:k=j
 ·rw [if_pos h1.symm,if_pos h1]
 ·rw [if_neg (fun q=>h1 q.symm),if_neg h1]
  by_cases h2:k=i
  ·rw [if_pos h2.symm,if_pos h2]
  ·rw [if_neg (fun q=>h2 q.symm),if_neg h2]
theorem swp_comm {l:List α} {i j:Nat} (hi:i<l.length) (hj:j<l.length):swp l i j hi hj=swp l j i hj hi:=by
 refine List.ext_getElem (by rw [swp_len,swp_len]) fun k h1 h2=>?_
 rw [swp_get,swp_get]
 by_cases h1:k=j
 ·subst h1
  by_cases h2:k=i
  ·subst h2;rfl
  ·rw [if_pos rfl,if_neg h2,if_pos rfl]
 ·by_cases h2:k=i
  ·rw [if_neg h1,if_pos h2,if_pos h2]
  ·rw [if_neg h1,if_neg h2,if_neg h2,if_neg h1]
theorem swp_lt {l:List α} {i j:Nat} (hi:i<l.length) (hj:j<l.length) (hij:i<j):(swp l i j hi hj).Perm l:=by
 obtain ⟨A,a,B,b,C,hl,hA,hB⟩: ∃ A a B b C,l=A++(a::(B++(b::C)))∧A.length=i∧A.length+1+B.length=j:=by
  refine ⟨l.take i,l[i],(l.drop (i+1)).take (j-i-1),l[j],l.drop (j+1),?_,by simp;omega,by simp;omega⟩
  have h1:l.drop (i+1)=(l.drop (i+1)).take (j-i-1)++(l[j]::l.drop (j+1)):=by
   have h2:(l.drop (i+1)).drop (j-i-1)=l[j]::l.drop (j+1):=by
    rw [List.drop_drop,show i+1+(j-i-1)=j by omega,List.drop_eq_getElem_cons hj]
   rw [←h2,List.take_append_drop]
  rw [←h1, ←List.drop_eq_getElem_cons hi,List.take_append_drop]
 have e:swp l i j hi hj=A++(b::(B++(a::C))):=by
  subst hl hA hB
  unfold swp
  have g1:(A++a::(B++b::C))[A.length+1+B.length]'hj=b:=by
   rw [List.getElem_append_right (by omega)]
   simp [show A.length+1+B.length-A.length=B.length+1 by omega]
  have g2:(A++a::(B++b::C))[A.length]'hi=a:=by simp
  rw [g1,g2,List.set_append_right _ _ (by omega),Nat.sub_self,List.set_cons_zero,List.set_append_right _ _ (by omega),show A.length+1+B.length-A.length=B.length+1 by omega,List.set_cons_succ,List.set_append_right _ _ (by omega),Nat.sub_self,List.set_cons_zero]
 rw [e,hl]
 refine List.perm_middle.trans (List.Perm.trans ?_ List.perm_middle.symm)
 rw [←List.append_assoc, ←List.append_assoc]
 exact (List.Perm.cons _ List.perm_middle).trans ((List.Perm.swap _ _ _).trans (List.Perm.cons _ List.perm_middle.symm))
theorem swp_perm {l:List α} {i j:Nat} (hi:i<l.length) (hj:j<l.length) (hij:i≠j):(swp l i j hi hj).Perm l:=by
 rcases Nat.lt_or_gt_of_ne hij with h | h
 ·exact swp_lt hi hj h
 ·rw [swp_comm];exact swp_lt hj hi h
theorem UpI.step (o:Ordr lt) {l:List α} {i:Nat} (h:UpI lt l i) (h0:0<i) (hi:i<l.length) (hp:(i-1) / 2<l.length) (hc:lt l[i] l[(i-1) / 2]=true):UpI lt (swp l i ((i-1) / 2) hi hp) ((i-1) / 2):=by
 refine ⟨fun j j0 jn hq hj=>?_,fun j j0 jq p0 hq hj=>?_⟩
 ·rw [swp_get,swp_get]
  rw [swp_len] at hq hj
  rw [if_neg jn]
  by_cases h1:j=i
  ·subst h1
   rw [if_pos rfl,if_pos rfl]
   exact o.to _ _ hc
  ·rw [if_neg h1]
   by_cases h2:(j-1) / 2=(i-1) / 2
   ·rw [if_pos h2]
    have:=h.a j j0 h1 hq hj
    simp only [h2] at this
    exact o.tr _ _ _ (o.to _ _ hc) this
   ·rw [if_neg h2]
    by_cases h3:(j-1) / 2=i
    ·rw [if_pos h3]
     exact h.b j j0 h3 h0 hp hj
    ·rw [if_neg h3]
     exact h.a j j0 h1 hq hj
 ·rw [swp_get,swp_get]
  rw [swp_len] at hq hj
  have hpp:=h.a ((i-1) / 2) p0 (by omega) hq hp
  rw [if_neg (show j≠(i-1) / 2 by omega),if_neg (show ((i-1) / 2-1) / 2≠(i-1) / 2 by omega),if_neg (show ((i-1) / 2-1) / 2≠i by omega)]
  by_cases h1:j=i
  ·rw [if_pos h1];exact hpp
  ·rw [if_neg h1]
   have:=h.a j j0 h1 (by omega) hj
   simp only [jq] at this
   exact o.tr _ _ _ hpp this
theorem UpI.done {l:List α} {i:Nat} (h:UpI lt l i) (hc:0<i→LeA lt l ((i-1) / 2) i):IsHp lt l:=fun j j0=>by
 by_cases h1:j=i
 ·subst h1;exact hc j0
 ·exact h.a j j0 h1
theorem UpI.start {l:List α} (h:IsHp lt l) (x:α):UpI lt (l++[x]) l.length:=by
 refine ⟨fun j j0 jn hq hj=>?_,fun j j0 jq _ hq hj=>?_⟩
 ·rw [List.length_append,List.length_singleton] at hj
  rw [List.getElem_append_left (by omega),List.getElem_append_left (by omega)]
  exact h j j0 (by omega) (by omega)
 ·rw [List.length_append,List.length_singleton] at hj
  omega
theorem DnI.step (o:Ordr lt) {l:List α} {i w:Nat} (h:DnI lt l i) (hw0:0<w) (hwi:(w-1) / 2=i) (hi:i<l.length) (hw:w<l.length) (hc:lt l[w] l[i]=true) (ho: ∀ c,0<c→(c-1) / 2=i→LeA lt l w c):DnI lt (swp l i w hi hw) w:=by
 refine ⟨fun j j0 jn hq hj=>?_,fun j j0 jq _ hq hj=>?_⟩
 ·rw [swp_get,swp_get]
  rw [swp_len] at hq hj
  rw [if_neg (show (j-1) / 2≠w from jn)]
  by_cases h1:j=w
  ·rw [if_pos h1,if_pos (show (j-1) / 2=i by rw [h1];exact hwi)]
   exact o.to _ _ hc
  ·rw [if_neg h1]
   by_cases h2:j=i
   ·rw [if_pos h2,if_neg (show (j-1) / 2≠i by omega)]
    have:=h.b w hw0 hwi (by omega) (by omega) hw
    simp only [←h2] at this
    exact this
   ·rw [if_neg h2]
    by_cases h3:(j-1) / 2=i
    ·rw [if_pos h3]
     exact ho j j0 h3 hw hj
    ·rw [if_neg h3]
     exact h.a j j0 h3 hq hj
 ·rw [swp_get,swp_get]
  rw [swp_len] at hq hj
  rw [if_neg (show j≠w by omega),if_neg (show j≠i by omega),if_neg (show (w-1) / 2≠w by omega),if_pos hwi]
  have:=h.a j j0 (by omega) (by omega) hj
  simp only [jq] at this
  exact this
theorem DnI.done {l:List α} {i:Nat} (h:DnI lt l i) (hc: ∀ c,0<c→(c-1) / 2=i→LeA lt l i c):IsHp lt l:=fun j j0=>by
 by_cases h1:(j-1) / 2=i
 ·rw [h1];exact hc j j0 h1
 ·exact h.a j j0 h1
theorem DnI.start {l:List α} (h:IsHp lt l) (h0:0<l.length):DnI lt ((l.set 0 (l[l.length-1]'(by omega))).take (l.length-1)) 0:=by
 refine ⟨fun j j0 jn hq hj=>?_,fun j _ _ q=>absurd q (Nat.lt_irrefl _)⟩
 rw [List.getElem_take,List.getElem_take,List.getElem_set,List.getElem_set,if_neg (by omega),if_neg (by omega)]
 exact h j j0 _ _
theorem pop_perm {l:List α} (h0:0<l.length):(l[0]::(l.set 0 (l[l.length-1]'(by omega))).take (l.length-1)).Perm l:=by
 cases l with
 | nil=>cases h0
 | cons x m=>
  by_cases hm:m=[]
  ·subst hm;exact .refl _
  ·have hl:0<m.length:=List.length_pos_iff.2 hm
   have e:m=m.dropLast++[m.getLast hm]:=(List.dropLast_concat_getLast hm).symm
   have e2:(x::m)[(x::m).length-1]'(by simp)=m.getLast hm:=by
    simp only [List.length_cons,Nat.add_sub_cancel]
    rw [List.getElem_cons,List.getLast_eq_getElem,dif_neg (by omega)]
   rw [e2,List.set_cons_zero,List.length_cons,Nat.add_sub_cancel]
   obtain ⟨k,hk⟩: ∃ k,m.length=k+1:=⟨m.length-1,by omega⟩
   rw [hk,List.take_succ_cons,List.getElem_cons_zero]
   have e3:m.take k=m.dropLast:=by rw [List.dropLast_eq_take,hk];rfl
   rw [e3]
   refine List.Perm.cons _ ?_
   have:=(List.perm_append_comm (l₁:=m.dropLast) (l₂:=[m.getLast hm])).symm
   rw [←e] at this
   exact this
theorem IsHp.min (o:Ordr lt) (hr: ∀ a,lt a a=false) {l:List α} (h:IsHp lt l) (h0:0<l.length): ∀ (n i:Nat),i≤n→ ∀ hi:i<l.length,lt l[i] l[0]=false
 | n,0,_,_=>hr _
 | 0,i+1,hn,_=>absurd hn (by omega)
 | n+1,i+1,hn,hi=>by
  have h1:=h (i+1) (by omega) (by omega) hi
  exact o.tr _ _ _ (IsHp.min o hr h h0 n ((i+1-1) / 2) (by omega) (by omega)) h1
end
section
variable {H:Hp} {N:Nat}
theorem IsS.sc {v:AV} (h:IsS v):v.sc=true:=by
 rcases h with rfl | ⟨b,o,n,c,e,rfl⟩ <;> rfl
structure Hed where
 s:List Nat
 v:AV
 i:Nat
 w:AV
 /-- what is left,as plain data -/
 r:List (List Nat × AV)
def hc (h:Hed):List AV:=[.str h.s,h.v, .int .i64 (.ofNat h.i),h.w]
def hlt (a b:Hed):Bool:=decide (a.s<b.s∨ ¬ b.s<a.s∧a.i<b.i)
theorem hlt_tx (a b:Hed):hlt a b=false↔b.s<a.s∨b.s=a.s∧b.i≤a.i:=by
 unfold hlt
 rw [decide_eq_false_iff_not]
 rcases lt_tri a.s b.s with g | g | g
 ·constructor
  ·intro q;exact absurd (.inl g) q
  ·rintro (q | ⟨q,_⟩)
   ·exact absurd (List.lt_trans g q) (List.lt_irrefl _)
   ·rw [q] at g;exact absurd g (List.lt_irrefl _)
 ·rw [g]
  have:=List.lt_irrefl b.s
  constructor
  ·intro q;exact .inr ⟨rfl,by have:=mt (fun h=>Or.inr (a:=b.s<b.s) ⟨this,h⟩) q;omega⟩
  ·rintro (q | ⟨_,q⟩) (r | ⟨_,r⟩)
   ·exact this q
   ·exact this q
   ·exact this r
   ·omega
 ·constructor
  ·intro _;exact .inl g
  ·rintro _ (q | ⟨q,_⟩)
   ·exact List.lt_irrefl _ (List.lt_trans g q)
   ·exact q g
theorem hlt_ord:Ordr hlt:=by
 refine ⟨fun a b c h1 h2=>?_,fun a b h=>?_⟩
 ·rw [hlt_tx] at*
  rcases h1 with h1 | ⟨h1,h3⟩ <;> rcases h2 with h2 | ⟨h2,h4⟩
  ·exact .inl (List.lt_trans h1 h2)
  ·exact .inl (h2 ▸ h1)
  ·exact .inl (h1 ▸ h2)
  ·exact .inr ⟨h1.trans h2,by omega⟩
 ·rw [hlt_tx]
  have h:=of_decide_eq_true h
  rcases h with h | ⟨h,h2⟩
  ·exact .inl h
  ·rcases lt_tri a.s b.s with g | g | g
   ·exact .inl g
   ·exact .inr ⟨g,by omega⟩
   ·exact absurd g h
theorem hlt_self (a:Hed):hlt a a=false:=(hlt_tx a a).2 (.inr ⟨rfl,Nat.le_refl _⟩)
def HedOk (h:Hed):Prop:=IsS h.v∧IsS h.w
theorem hc_sc {h:Hed} (g:HedOk h):scAll (hc h)=true:=by
 simp only [hc,scAll,g.1.sc,g.2.sc];rfl
theorem hc_two {h:Hed} (g:HedOk h):takeC (dropN (hc h) 0) 2=some [.str h.s,h.v]:=
 takeC_of [.str h.s,h.v] [.int .i64 (.ofNat h.i),h.w] (by simp only [scAll,g.1.sc];rfl)
theorem rf4 {s:List Nat} {n:Int} {v w:AV} {P:Prop} (h:IsS v) (g:IsS w) (p:P):rfW (.agg [.str s,v, .int .i64 n,w]) P:=by
 have h:Eng.same (.agg [.str s,v, .int .i64 n,w]) (.agg [.str s,v, .int .i64 n,w])=true:=by
  rcases h with rfl | ⟨b,o,m,c,e,rfl⟩ <;> rcases g with rfl | ⟨b',o',m',c',e',rfl⟩
  ·simp [Eng.same,Eng.same.sameCs,eqI_eq,eqL_eq]
  ·cases e' <;> simp [Eng.same,Eng.same.sameCs,eqI_eq,eqL_eq]
  ·cases e <;> simp [Eng.same,Eng.same.sameCs,eqI_eq,eqL_eq]
  ·cases e <;> cases e' <;> simp [Eng.same,Eng.same.sameCs,eqI_eq,eqL_eq]
 show (match Eng.same (.agg [.str s,v, .int .i64 n,w]) (.agg [.str s,v, .int .i64 n,w]) with | true=>P | false=>False)
 rw [h]
 exact p
theorem rf5 {s:List Nat} {v:AV} {P:Prop} (h:IsS v) (p:P):rfW (.agg [.str s,v]) P:=by
 have h:Eng.same (.agg [.str s,v]) (.agg [.str s,v])=true:=by
  rcases h with rfl | ⟨b,o,m,c,e,rfl⟩
  ·simp [Eng.same,Eng.same.sameCs,eqL_eq]
  ·cases e <;> simp [Eng.same,Eng.same.sameCs,eqL_eq]
 show (match Eng.same (.agg [.str s,v]) (.agg [.str s,v]) with | true=>P | false=>False)
 rw [h]
 exact p
def Lsq (H:Hp) (q:Nat):Prop:= ∃ e,esU<e∧Bk H q [.func 172 [] []] e
theorem rfF {q:Nat} {P:Prop} (p:P):rfW (.func 209 [] [.ptr q 0]) P:=by
 have h:Eng.same (.func 209 [] [.ptr q 0]) (.func 209 [] [.ptr q 0])=true:=by
  simp [Eng.same,Eng.same.sameCs]
 show (match Eng.same (.func 209 [] [.ptr q 0]) (.func 209 [] [.ptr q 0]) with | true=>P | false=>False)
 rw [h]
 exact p
theorem tless_ok {s t:List Nat} {v w:AV} (h1:v.sc=true) (h2:w.sc=true) {Q:AV→Hp→Prop} (k: ∀ H',Stp noB H H'→Q (.bool (decide (s<t))) H'):Cal env 172 [.agg [.str s,v], .agg [.str t,w]] H Q:=by
 refine Cal.start fun hO=>s172 ?_
 unfold S172
 refine Chk.intro (by simp only [scAll,h1];rfl) (New.stp hO fun H5 b5 s5=>Chk.intro (by simp only [scAll,h2];rfl) (New.stp s5.ok fun H7 b7 s7=>?_))
 have b5:=b5.step s5.ok s7 id
 refine ⟨s,b5.load 0 1 rfl,t,b7.load 0 1 rfl,?_⟩
 rw [ltL_eq]
 exact k H7 (s5.trans s7)
theorem hless_ok {q:Nat} (hq:Lsq H q) {a b:Hed} (ha:HedOk a) (hb:HedOk b) {Q:AV→Hp→Prop} (k: ∀ H',Stp noB H H'→Q (.bool (hlt a b)) H'):Cal env 209 [.agg (hc a), .agg (hc b), .ptr q 0] H Q:=by
 refine Cal.start fun hO=>s209 ?_
 unfold S209
 obtain ⟨e,_,hq⟩:=hq
 refine Chk.intro (hc_sc ha) (New.stp hO fun H9 b9 s9=>Chk.intro (hc_sc hb) (New.stp s9.ok fun H11 b11 s11=>?_))
 have b9:=b9.step s9.ok s11 id
 have t11:=s9.trans s11
 have q11:=hq.step hO t11 id
 refine ⟨_,q11.load 0 1 rfl,a.s,a.v,b9.load 0 2 (hc_two ha),b.s,b.v,b11.load 0 2 (hc_two hb),tless_ok ha.1.sc hb.1.sc fun H20 s20=>⟨_,rfl,?_⟩⟩
 have t20:=t11.trans s20
 have b9:=b9.step s11.ok s20 id
 have b11:=b11.step s11.ok s20 id
 have q20:=q11.step s11.ok s20 id
 refine ⟨fun c H'=>c=hlt a b∧Stp noB H H',IfB.intro (fun g=>?_) (fun g=>?_),?_⟩
 ·have g: ¬ a.s<b.s:=by simpa using g
  refine ⟨_,q20.load 0 1 rfl,b.s,b.v,b11.load 0 2 (hc_two hb),a.s,a.v,b9.load 0 2 (hc_two ha),tless_ok hb.1.sc ha.1.sc fun H31 s31=>⟨_,rfl,?_⟩⟩
  have b9:=b9.step s20.ok s31 id
  have b11:=b11.step s20.ok s31 id
  refine ⟨fun c H'=>c=hlt a b∧Stp noB H H',IfB.intro (fun g2=>?_) (fun g2=>?_),?_⟩
  ·have g2: ¬ b.s<a.s:=by simpa using g2
   refine ⟨_,b9.ld 2 rfl rfl,_,b11.ld 2 rfl rfl,?_,t20.trans s31⟩
   rw [ltI_nat]
   unfold hlt
   simp [g,g2]
  ·have g2:b.s<a.s:=by simpa using g2
   refine ⟨?_,t20.trans s31⟩
   unfold hlt
   simp [g,g2]
  rintro H36 J c ⟨rfl,s36⟩
  exact ⟨rfl,s36⟩
 ·have g:a.s<b.s:=by simpa using g
  refine ⟨?_,t20⟩
  unfold hlt
  simp [g]
 rintro H36 J c ⟨rfl,s36⟩
 exact k H36 s36
end
section
variable {H:Hp} {N:Nat}
structure HpB (H:Hp) (N p q e:Nat) (rv:AV) (l:List Hed):Prop where
 bx:Bk H p [rv, .func 209 [] [.ptr q 0]] e
 hi:esU<e
 ow:Ow H N 4 rv (l.map hc)
 lq:Lsq H q
 ok: ∀ h∈l,HedOk h
 lo:N≤p
 ne:NEx rv
theorem Ow.appN {es bytes:Nat} {v:AV} {cs:List (List AV)} (h:Ow H N es v cs) (hx:NEx v) (hO:Ok H) (hN:N≤H.nx) {b:Nat} {c:List AV} (hb:Bk H b c es) (hc:c.length=es) (hs:scAll c=true) (h2:es<esU) (hr:(cs.length+1)*bytes≤room) {R:AV→Hp→Prop}
  (k: ∀ v' H',InsOut H N es v (cs++[c]) v' H'→R v' H'): ∃ v' H',appF es bytes H v (.slice b 0 1 1 true)=some (v',H')∧R v' H':=by
 obtain ⟨v',H',e,io⟩:=h.insEnd hx hO hN hc hs h2 hr
 refine ⟨v',H',?_,k v' H' io⟩
 show (match firsts H es 1 (.slice b 0 1 1 true) with | some new=>Eng.append es bytes H v new 1 | none=>none)=_
 rw [firsts_lit hb hc hs]
 exact e
theorem Lsq.keep {H1:Hp} {q:Nat} {G:Nat→Prop} (h:Lsq H q) (hO:Ok H) (s:Stp G H H1) (hg: ¬ G q):Lsq H1 q:=by
 obtain ⟨e,h1,h2⟩:=h
 exact ⟨e,h1,h2.step hO s hg⟩
section
variable {p q e:Nat} {rv:AV} {l:List Hed}
theorem HpB.keep {H1:Hp} {G:Nat→Prop} (h:HpB H N p q e rv l) (hO:Ok H) (s:Stp G H H1) (hp: ¬ G p) (hq: ¬ G q) (hv: ∀ i,blkOf rv=some i→ ¬ G i):HpB H1 N p q e rv l:=
 ⟨h.bx.step hO s hp,h.hi,h.ow.step s hv,h.lq.keep hO s hq,h.ok,h.lo,h.ne⟩
theorem HpB.quiet {H1:Hp} (h:HpB H N p q e rv l) (hO:Ok H) (s:Stp noB H H1):HpB H1 N p q e rv l:=h.keep hO s id id fun _ _=>id
theorem HpB.np (h:HpB H N p q e rv l): ∀ i,blkOf rv=some i→ ¬ i=p:=h.ow.ne_bk1 h.bx h.hi
theorem HpB.nq (h:HpB H N p q e rv l): ∀ i,blkOf rv=some i→ ¬ i=q:=by
 obtain ⟨e',h1,h2⟩:=h.lq
 exact h.ow.ne_bk1 h2 h1
theorem HpB.npq (h:HpB H N p q e rv l):q≠p:=by
 rintro rfl
 obtain ⟨e',h1,h2⟩:=h.lq
 have h3:=h.bx
 unfold Bk at h2 h3
 rw [h2] at h3
 injection h3 with h3
 injection h3 with h3
 exact absurd (congrArg List.length h3) (by simp)
theorem HpB.row (h:HpB H N p q e rv l):H.load p 0 1=some [rv]:=h.bx.ld 0 rfl h.ow.sl.sc
theorem HpB.less (h:HpB H N p q e rv l):H.load p 1 1=some [.func 209 [] [.ptr q 0]]:=h.bx.ld 1 rfl rfl
theorem HpB.at_ (h:HpB H N p q e rv l) {j:Nat} (hj:j<l.length): ∃ b o,ixF 4 rv (.ofNat j)=some (b,o)∧H.load b o 4=some (hc l[j]):=by
 obtain ⟨b,o,h1,h2,_⟩:=h.ow.sl.elem (j:=j) (by rw [List.length_map];exact hj)
 exact ⟨b,o,h1,by rw [h2,List.getElem_map]⟩
theorem HpB.rfr (h:HpB H N p q e rv l) {P:Prop} (x:P):rfW rv P:=h.ow.sl.rf x
theorem HpB.put (h:HpB H N p q e rv l) (hO:Ok H) {j:Nat} (hj:j<l.length) {x:Hed} (hx:HedOk x): ∃ b o,ixF 4 rv (.ofNat j)=some (b,o)∧ ∃ H',H.store b o (hc x)=some H'∧HpB H' N p q e rv (l.set j x)∧Stp (isB rv) H H':=by
 obtain ⟨b,o,h1,_,_,H',h2,h3,h4⟩:=h.ow.setS hO (j:=j) (by rw [List.length_map];exact hj) 0 (vs:=hc x) (by simp [hc]) (hc_sc hx)
 refine ⟨b,o,h1,H',h2,⟨h.bx.step hO h4 fun q=>h.np _ q rfl,h.hi,?_,h.lq.keep hO h4 fun q=>h.nq _ q rfl,fun y hy=>?_,h.lo,h.ne⟩,h4⟩
 ·have e1:(l.map hc).set j (((l.map hc)[j]'(by rw [List.length_map];exact hj)).take 0++(hc x++((l.map hc)[j]'(by rw [List.length_map];exact hj)).drop (0+(hc x).length)))=(l.set j x).map hc:=by
   rw [List.map_set]
   congr 1
   rw [List.getElem_map]
   simp [hc]
  rw [e1] at h3
  exact h3
 ·rcases List.mem_or_eq_of_mem_set hy with g | g
  ·exact h.ok y g
  ·rw [g];exact hx
theorem hmade_ok (h:HpB H N p q e rv l) {Q:AV→Hp→Prop} (k:Q (.bool true) H):Cal env 246 [.ptr p 0] H Q:=by
 refine s246 ?_
 unfold S246
 rw [eqM_pn]
 refine ⟨fun c H'=>c=true∧H=H',IfB.intro (fun _=>⟨_,h.less,⟨rfl,rfl⟩⟩) (fun g=>by cases g),?_⟩
 rintro _ _ _ ⟨rfl,rfl⟩
 exact k
theorem hlen_ok (h:HpB H N p q e rv l) {Q:AV→Hp→Prop} (k:Q (.int .i64 (.ofNat l.length)) H):Cal env 247 [.ptr p 0] H Q:=by
 refine s247 ?_
 unfold S247
 rw [eqM_pn]
 refine ⟨rv,h.row,l.length,by rw [h.ow.sl.len,List.length_map],k⟩
theorem hnew_ok (hO:Ok H) (hq:Lsq H q) {Q:AV→Hp→Prop} (k: ∀ e H',HpB H' H.nx H.nx q e .nils []→Stp noB H H'→Q (.ptr H.nx 0) H'):Cal env 208 [.func 209 [] [.ptr q 0]] H Q:=by
 refine s208 ?_
 unfold S208
 exact New.stp hO fun H1 b1 s1=>k _ H1 ⟨b1,by decide,Ow.nil,hq.keep hO s1 id,fun _ h=>(List.not_mem_nil h).elim,Nat.le_refl _, .inl rfl⟩ s1
theorem half_up {i:Nat} (h0:0<i) (h1:i<16777217):wrapF .i64 (Int.tdiv (wrapF .i64 (Int.ofNat i-1)) 2)= .ofNat ((i-1) / 2):=by
 rw [show (1:Int)= .ofNat 1 from rfl,subN (by omega) (by omega)]
 exact wrap_i64 (x:=(i-1) / 2) (by omega)
theorem push_ok (h:HpB H N p q e rv l) (hp:IsHp hlt l) (hN:N≤H.nx) {x:Hed} (hx:HedOk x) (hb:l.length<16777216) {Q:AV→Hp→Prop}
  (k: ∀ rv' l' H',HpB H' N p q e rv' l'→IsHp hlt l'→l'.Perm (x::l)→Stp (fun i=>i=p∨isB rv i) H H'→(∀ i,blkOf rv'=some i→blkOf rv=some i∨H.nx≤i)→Q (.tup []) H'):Cal env 210 [.ptr p 0, .agg (hc x)] H Q:=by
 refine Cal.start fun hO=>s210 ?_
 unfold S210
 refine Chk.intro (hc_sc hx) (New.stp hO fun H5 b5 s5=>hmade_ok (h.quiet hO s5) ⟨_,rfl,IfB.intro (fun g=>by cases g) fun _=>?_⟩)
 have h5:=h.quiet hO s5
 have n5:=s5.nx
 refine letUp s5.ok (by omega) fun H9 s9 nx9 get9=>?_
 have h9:=h5.quiet s5.ok s9
 have b9:=b5.step s5.ok s9 id
 refine ⟨rv,h9.row,h9.rfr ⟨x.s,x.v,_,x.w,b9.load 0 4 (by have:=takeC_of (hc x) [] (hc_sc hx);rw [List.append_nil] at this;exact this),rf4 hx.1 hx.2 (Chk.intro (hc_sc hx) ?_)⟩⟩
 refine letMk s9 (by omega) (by omega) (Nat.le_refl _) (by rw [get9];exact s5.ok _ (by omega)) fun H18 s18 b18 nx18 kp18 get18=>?_
 have h18:=h5.quiet s5.ok s18
 have n18:=s18.nx
 refine h18.ow.appN h18.ne s18.ok (by omega) b18 rfl (hc_sc hx) (by decide) (by simp only [List.length_map,room];omega) fun v19 H20 io=>Chk.intro io.ow.sl.sc ?_
 have o19:=io.ow
 have s20:=io.st
 have f19:=io.bl
 have n20:=s20.nx
 have bx20:=h18.bx.step s18.ok s20 fun g=>h18.np _ g rfl
 have lq20:=h18.lq.keep s18.ok s20 fun g=>h18.nq _ g rfl
 obtain ⟨H24,e24,b24,s24⟩:=bx20.stp s20.ok (o:=0) (vs:=[v19]) rfl (by simp only [scAll,o19.sl.sc])
 have hm:l.map hc++[hc x]=(l++[x]).map hc:=by simp
 have h24:HpB H24 N p q e v19 (l++[x]):=⟨b24,h.hi,hm ▸ o19.step s24 (o19.ne_bk1 bx20 h.hi),lq20.keep s20.ok s24 h.npq,fun y hy=>by
  rcases List.mem_append.1 hy with g | g
  ·exact h.ok y g
  ·rw [List.mem_singleton] at g;rw [g];exact hx,h.lo,io.ne⟩
 have st24:Stp (fun i=>i=p∨isB rv i) H H24:=(s5.trans s18).of.trans ((s20.wide fun i _ g=> .inr g).trans (s24.wide fun i _ g=> .inl g))
 have hl24:(l++[x]).length=l.length+1:=by simp
 have f19: ∀ i,blkOf v19=some i→blkOf rv=some i∨H.nx≤i:=fun i hi=>(f19 i hi).imp id fun g=>by omega
 refine ⟨H24,e24,v19,h24.row,(l++[x]).length,by rw [h24.ow.sl.len,List.length_map],?_⟩
 refine ⟨fun m n H'=> ∃ i l',n= .ofNat i∧m=i∧i<l'.length∧l'.length=l.length+1∧HpB H' N p q e v19 l'∧UpI hlt l' i∧l'.Perm (x::l)∧Stp (fun i=>i=p∨isB rv i) H H',
  ⟨l.length,l.length,l++[x],?_,rfl,by omega,hl24,h24,UpI.start hp x,List.perm_append_comm,st24⟩,?_⟩
 ·rw [hl24,show (1:Int)= .ofNat 1 from rfl,subN (by omega) (by omega),Nat.add_sub_cancel]
 rintro i H32 J _ ⟨_,l',rfl,rfl,hi,hl,h32,u32,pm,st32⟩
 have fin:IsHp hlt l'→ ∀ H',Stp noB H32 H'→Q (.tup []) H':=fun hh H' s'=>k v19 l' H' (h32.quiet st32.ok s') hh pm (st32.trans s'.of) f19
 refine IfB.intro (fun g=>?_) (fun g=>?_)
 ·rw [show (0:Int)= .ofNat 0 from rfl,ltI_nat] at g
  have g:0<i:=of_decide_eq_true g
  have hu:(i-1) / 2<l'.length:=by omega
  refine letUp st32.ok (by omega) fun H36 s36 nx36 get36=>?_
  have h36:=h32.quiet st32.ok s36
  obtain ⟨b1,o1,x1,y1⟩:=h36.at_ hi
  obtain ⟨b2,o2,x2,y2⟩:=h36.at_ hu
  have k1:=h36.ok _ (List.getElem_mem hi)
  have k2:=h36.ok _ (List.getElem_mem hu)
  rw [half_up g (by omega)]
  refine ⟨_,h36.less,rfF ⟨v19,h36.row,h36.rfr ⟨b1,o1,x1,_,_,_,_,y1,rf4 k1.1 k1.2 ⟨v19,h36.row,h36.rfr ⟨b2,o2,x2,_,_,_,_,y2,rf4 k2.1 k2.2 ?_⟩⟩⟩⟩⟩
  refine hless_ok h36.lq k1 k2 fun H62 s62=>⟨_,rfl,IfB.intro (fun c=>?_) (fun c=>?_)⟩
  ·have c:hlt l'[i] l'[(i-1) / 2]=false:=by simpa using c
   exact fin (u32.done fun _ _ _=>c) H62 (s36.trans s62)
  ·have c:hlt l'[i] l'[(i-1) / 2]=true:=by simpa using c
   refine letUp s62.ok (by omega) fun H64 s64 nx64 get64=>?_
   have t64:=(s36.trans s62).trans s64
   have h64:=h32.quiet st32.ok t64
   obtain ⟨b1,o1,x1,y1⟩:=h64.at_ hi
   obtain ⟨b2,o2,x2,y2⟩:=h64.at_ hu
   obtain ⟨b3,o3,x3,H95,e95,h95,s95⟩:=h64.put s64.ok hi k2
   obtain ⟨b4,o4,x4,H98,e98,h98,s98⟩:=h95.put s95.ok (j:=(i-1) / 2) (by rw [List.length_set];omega) k1
   refine ⟨v19,h64.row,h64.rfr ⟨v19,h64.row,h64.rfr ⟨v19,h64.row,h64.rfr ⟨b2,o2,x2,_,_,_,_,y2,rf4 k2.1 k2.2 ⟨v19,h64.row,h64.rfr ⟨b1,o1,x1,_,_,_,_,y1,rf4 k1.1 k1.2 ⟨b3,o3,x3,H95,e95,b4,o4,x4,H98,e98,?_⟩⟩⟩⟩⟩⟩⟩
   have ne:i≠(i-1) / 2:=by omega
   refine ⟨(i-1) / 2,by omega,(i-1) / 2,swp l' i ((i-1) / 2) hi hu,rfl,rfl,by rw [swp_len];omega,by rw [swp_len];omega,h98,u32.step hlt_ord g hi hu c,(swp_perm hi hu ne).trans pm,?_⟩
   have w:Stp (fun i=>i=p∨isB rv i∨H.nx≤i) H H98:=(st32.wide fun j _ g=>g.imp id .inl).trans (t64.of.trans ((s95.wide fun j _ g=> .inr (f19 j g)).trans (s98.wide fun j _ g=> .inr (f19 j g))))
   exact w.wide fun j hj g=>by rcases g with g | g | g;exact .inl g;exact .inr g;omega
 ·rw [show (0:Int)= .ofNat 0 from rfl,ltI_nat] at g
  have g: ¬ 0<i:=of_decide_eq_false g
  exact fin (u32.done fun h0=>absurd h0 g) H32 (Stp.refl st32.ok)
end
end
section
variable {H:Hp} {N:Nat}
section
variable {p q e:Nat} {rv:AV} {l:List Hed}
theorem dbl {i:Nat} (h:i<16777217):wrapF .i64 (2*Int.ofNat i)= .ofNat (2*i):=wrap_i64 (x:=2*i) (by omega)
theorem dblp {i c:Nat} (h:i<16777217) (hc:c<10):wrapF .i64 ((wrapF .i64 (2*Int.ofNat i))+Int.ofNat c)= .ofNat (2*i+c):=by
 rw [dbl h]
 exact wrap_i64 (x:=2*i+c) (by omega)
structure LowI (l:List Hed) (i low k:Nat):Prop where
 lo:2*i+1≤k
 hi:k≤2*i+3
 is:low=i∨(2*i+1≤low∧low<k∧low<l.length∧ ∀ (h1:low<l.length) (h2:i<l.length),hlt l[low] l[i]=true)
 le: ∀ c,2*i+1≤c→c<k→LeA hlt l low c
theorem LowI.next {i low k:Nat} (h:LowI l i low k) (hk:k≤2*i+2) (hkl:k<l.length) (hll:low<l.length):LowI l i (if hlt l[k] l[low]=true then k else low) (k+1):=by
 have h1:=h.lo
 split
 ·rename_i c
  refine ⟨by omega,by omega, .inr ⟨h1,by omega,hkl,fun _ hi=>?_⟩,fun d d1 d2 _ hd=>?_⟩
  ·rcases h.is with g | ⟨_,_,_,g⟩
   ·subst g;exact c
   ·have g:=g hll hi
    cases e:hlt l[k] l[i] with
    | true=>rfl
    | false=>
     have:=hlt_ord.tr _ _ _ (hlt_ord.to _ _ g) e
     rw [c] at this
     cases this
  ·by_cases hd2:d=k
   ·subst hd2;exact hlt_self _
   ·exact hlt_ord.tr _ _ _ (hlt_ord.to _ _ c) (h.le d d1 (by omega) hll hd)
 ·rename_i c
  have c:hlt l[k] l[low]=false:=by simpa using c
  refine ⟨by omega,by omega,h.is.imp id fun g=>⟨g.1,by omega,g.2.2⟩,fun d d1 d2 _ hd=>?_⟩
  by_cases hd2:d=k
  ·subst hd2;exact c
  ·exact h.le d d1 (by omega) hll hd
theorem sink_ok (h:HpB H N p q e rv l) (hd:DnI hlt l 0) (hb:l.length<16777216) {Q:AV→Hp→Prop}
  (k: ∀ l' H',HpB H' N p q e rv l'→IsHp hlt l'→l'.Perm l→Stp (isB rv) H H'→Q (.tup []) H'):Cal env 249 [.ptr p 0] H Q:=by
 refine Cal.start fun hO=>s249 ?_
 unfold S249
 refine ⟨fun m n H'=> ∃ i l',n= .ofNat i∧m=l.length-i∧i≤l'.length∧l'.length=l.length∧HpB H' N p q e rv l'∧DnI hlt l' i∧l'.Perm l∧Stp (isB rv) H H',⟨_,0,l,rfl,rfl,Nat.zero_le _,rfl,h,hd, .refl _,Stp.refl hO⟩,?_⟩
 rintro _ H2 J _ ⟨i,l',rfl,rfl,hi,hl,h2,d2,pm,st2⟩
 rw [show (1:Int)= .ofNat 1 from rfl,show wrapF .i64 (wrapF .i64 (2*Int.ofNat i)+Int.ofNat 1)= .ofNat (2*i+1) from dblp (by omega) (by omega),show wrapF .i64 (wrapF .i64 (2*Int.ofNat i)+2)= .ofNat (2*i+2) from dblp (c:=2) (by omega) (by omega)]
 refine ⟨fun m n n' H'=> ∃ low k,n= .ofNat low∧n'= .ofNat k∧m=2*i+3-k∧LowI l' i low k∧Stp noB H2 H',⟨_,i,2*i+1,rfl,rfl,rfl,⟨Nat.le_refl _,by omega, .inl rfl,fun c c1 c2=>absurd c2 (by omega)⟩,Stp.refl st2.ok⟩,?_⟩
 rintro _ H8 J8 _ _ ⟨low,k',rfl,rfl,rfl,lw,s8⟩
 have h8:=h2.quiet st2.ok s8
 refine ⟨fun c H'=>(c=true↔k'≤2*i+2∧k'<l'.length)∧H8=H',IfB.intro (fun g=>?_) (fun g=>?_),?_⟩
 ·rw [ltI_nat] at g
  have g: ¬ 2*i+2<k':=by simpa using g
  refine ⟨rv,h8.row,l'.length,by rw [h8.ow.sl.len,List.length_map],?_,rfl⟩
  rw [ltI_nat,decide_eq_true_iff]
  exact ⟨fun x=>⟨by omega,x⟩,fun x=>x.2⟩
 ·rw [ltI_nat] at g
  have g:2*i+2<k':=by simpa using g
  exact ⟨⟨fun x=>(by cases x),fun x=>by omega⟩,rfl⟩
 rintro _ J9 b ⟨hbb,rfl⟩
 refine IfB.intro (fun g=>?_) (fun g=>?_)
 ·obtain ⟨g1,g2⟩:=hbb.1 g
  have hlow:low<l'.length:=by
   have:=lw.lo
   rcases lw.is with x | ⟨_,_,x,_⟩
   ·omega
   ·exact x
  have nxt:=lw.next g1 g2 hlow
  refine letUp s8.ok (by omega) fun H22 s22 nx22 get22=>?_
  have h22:=h8.quiet s8.ok s22
  obtain ⟨b1,o1,x1,y1⟩:=h22.at_ g2
  obtain ⟨b2,o2,x2,y2⟩:=h22.at_ hlow
  have k1:=h22.ok _ (List.getElem_mem g2)
  have k2:=h22.ok _ (List.getElem_mem hlow)
  refine ⟨_,h22.less,rfF ⟨rv,h22.row,h22.rfr ⟨b1,o1,x1,_,_,_,_,y1,rf4 k1.1 k1.2 ⟨rv,h22.row,h22.rfr ⟨b2,o2,x2,_,_,_,_,y2,rf4 k2.1 k2.2 ?_⟩⟩⟩⟩⟩
  refine hless_ok h22.lq k1 k2 fun H48 s48=>⟨_,rfl,?_⟩
  have t48:=(s8.trans s22).trans s48
  have ek:wrapF .i64 (Int.ofNat k'+Int.ofNat 1)= .ofNat (k'+1):=wrap_i64 (x:=k'+1) (by omega)
  rw [ek]
  refine IfB.intro (fun c=>?_) (fun c=>?_)
  ·rw [if_pos c] at nxt
   exact ⟨2*i+3-(k'+1),by omega,k',k'+1,rfl,rfl,rfl,nxt,t48⟩
  ·rw [if_neg (by rw [c];decide)] at nxt
   exact ⟨2*i+3-(k'+1),by omega,low,k'+1,rfl,rfl,rfl,nxt,t48⟩
 ·have g: ¬ (k'≤2*i+2∧k'<l'.length):=fun x=>by rw [hbb.2 x] at g;cases g
  have kids: ∀ c,0<c→(c-1) / 2=i→LeA hlt l' low c:=fun c c0 ci hlo hc=>lw.le c (by omega) (by omega) hlo hc
  refine IfB.intro (fun c=>?_) (fun c=>?_)
  ·have c:low=i:=by
    rw [eqI_dec] at c
    exact Int.ofNat.inj (of_decide_eq_true c)
   subst c
   exact k l' H8 h8 (d2.done kids) pm (st2.trans s8.of)
  ·have c:low≠i:=by
    rw [eqI_dec] at c
    exact fun x=>of_decide_eq_false c (by rw [x])
   have w5:=lw.hi
   obtain ⟨w1,w2,w3,w4⟩:=lw.is.resolve_left c
   have hil:i<l'.length:=by omega
   refine letUp s8.ok (by omega) fun H50 s50 nx50 get50=>?_
   have t50:=s8.trans s50
   have h50:=h2.quiet st2.ok t50
   have k1:=h50.ok _ (List.getElem_mem hil)
   have k2:=h50.ok _ (List.getElem_mem w3)
   obtain ⟨b1,o1,x1,y1⟩:=h50.at_ w3
   obtain ⟨b2,o2,x2,y2⟩:=h50.at_ hil
   obtain ⟨b3,o3,x3,H81,e81,h81,s81⟩:=h50.put s50.ok hil k2
   obtain ⟨b4,o4,x4,H84,e84,h84,s84⟩:=h81.put s81.ok (j:=low) (by rw [List.length_set];omega) k1
   refine ⟨rv,h50.row,h50.rfr ⟨rv,h50.row,h50.rfr ⟨rv,h50.row,h50.rfr ⟨b1,o1,x1,_,_,_,_,y1,rf4 k2.1 k2.2 ⟨rv,h50.row,h50.rfr ⟨b2,o2,x2,_,_,_,_,y2,rf4 k1.1 k1.2 ⟨b3,o3,x3,H81,e81,b4,o4,x4,H84,e84,?_⟩⟩⟩⟩⟩⟩⟩
   exact ⟨l.length-low,by omega,low,swp l' i low hil w3,rfl,rfl,by rw [swp_len];omega,by rw [swp_len];omega,h84,d2.step hlt_ord (by omega) (by omega) hil w3 (w4 w3 hil) kids,(swp_perm hil w3 (fun x=>c x.symm)).trans pm,st2.trans (t50.of.trans (s81.trans s84))⟩
end
end
section
variable {H:Hp} {N:Nat}
theorem Ow.short {es b n c:Nat} {cs:List (List AV)} (h:Ow H N es (.slice b 0 n c false) cs) {k:Nat} (hk:k≤cs.length):Ow H N es (.slice b 0 k c false) (cs.take k):=by
 have hl:(cs.take k).length=k:=by simp;omega
 refine ⟨h.rw.take k,?_⟩
 rcases h.at_ with ⟨g,_⟩ | ⟨b',c',e',bl,g,h1,h2,h3,h4,h5,h6,h7,h8,h9⟩
 ·cases g
 ·injection g with g1 g2 g3 g4 g5
  subst g1 g4 g5
  refine .inr ⟨b,c,false,bl,by rw [hl],h1,h2,by omega,h4,h5,h6,h7,?_,fun q=>by cases q⟩
  obtain ⟨post,hp⟩:=h8
  refine ⟨(cs.drop k).flatten++post,?_⟩
  rw [hp, ←List.append_assoc, ←List.flatten_append,List.take_append_drop]
theorem Ow.nil_store {es b n c:Nat} {cs:List (List AV)} (h:Ow H N es (.slice b 0 n c false) cs) (hO:Ok H) {j:Nat} (hj:j<cs.length) {vs:List AV} (hv:vs.length≤es) (hs:scAll vs=true): ∃ H',H.store b (j*es) vs=some H'∧Ow H' N es (.slice b 0 n c false) (cs.set j (vs++cs[j].drop vs.length))∧Stp (isB (.slice b 0 n c false)) H H':=by
 obtain ⟨b',o,h1,_,_,H',h2,h3,h4⟩:=h.setS hO hj 0 (vs:=vs) (by omega) hs
 have hn:j<n:=by
  rcases h.at_ with ⟨g,_⟩ | ⟨b',c',e',bl,g,_⟩
  ·cases g
  ·injection g with g1 g2 g3
   omega
 have e1:ixF es (.slice b 0 n c false) (.ofNat j)=some (b,0+j*es):=by
  show (match Nat.blt j n with | true=>some (b,0+j*es) | false=>none)=_
  rw [show Nat.blt j n=true from by simpa using hn]
 rw [e1] at h1
 injection h1 with h1
 injection h1 with g1 g2
 subst g1 g2
 rw [show 0+j*es+0=j*es by omega] at h2
 rw [Nat.zero_add,List.take_zero,List.nil_append] at h3
 exact ⟨H',h2,h3,h4⟩
theorem hdel_ok {b c k:Nat} {cs:List (List AV)} (h:Ow H N 4 (.slice b 0 (k+1) c false) cs) (hk:cs.length=k+1) (hkc:k+1≤c) (hb:k<16777216) {Q:AV→Hp→Prop}
  (kk: ∀ H',Ow H' N 4 (.slice b 0 k c false) (cs.take k)→Stp (fun i=>i=b) H H'→Q (.slice b 0 k c false) H'):Cal env 248 [.slice b 0 (k+1) c false, .int .i64 (.ofNat k), .int .i64 (.ofNat (k+1))] H Q:=by
 refine Cal.start fun hO=>s248 ?_
 unfold S248
 have c1:Eng.cut 4 (.slice b 0 (k+1) c false) (some (.int .i64 (.ofNat k))) (some (.int .i64 (.ofNat (k+1)))) (some (.int .i64 (.ofNat (k+1))))=some (.slice b (0+k*4) (k+1-k) (k+1-k) true):=by
  unfold Eng.cut
  simp only
  rw [bounds_of (lo:=k) (hi:=k+1) (m:=k+1) (.inr ⟨_,rfl,hkc⟩) (.inl ⟨_,rfl⟩) (.inl ⟨_,rfl⟩) (by omega) (Nat.le_refl _)]
  rfl
 have c2:Eng.cut 4 (.slice b 0 (k+1) c false) none (some (.int .i64 (.ofNat k))) none=some (.slice b 0 k c false):=by
  unfold Eng.cut
  simp only
  rw [bounds_of (lo:=0) (hi:=k) (m:=c) (.inl ⟨rfl,rfl⟩) (.inl ⟨_,rfl⟩) (.inr ⟨rfl,rfl⟩) (by omega) (by omega)]
  simp
 have c3:Eng.cut 4 (.slice b 0 (k+1) c false) (some (.int .i64 (.ofNat (k+1)))) none none=some (.slice b ((k+1)*4) 0 (c-(k+1)) false):=by
  unfold Eng.cut
  simp only
  rw [bounds_of (lo:=k+1) (hi:=k+1) (m:=c) (.inl ⟨rfl,rfl⟩) (.inr ⟨rfl,rfl,rfl⟩) (.inl ⟨_,rfl⟩) (by omega) (by omega)]
  simp
 have c4:Eng.cut 4 (.slice b 0 k c false) (some (.int .i64 (.ofNat k))) (some (.int .i64 (.ofNat (k+1)))) none=some (.slice b (k*4) 1 (c-k) false):=by
  unfold Eng.cut
  simp only
  rw [bounds_of (lo:=k) (hi:=k+1) (m:=c) (.inl ⟨rfl,rfl⟩) (.inl ⟨_,rfl⟩) (.inl ⟨_,rfl⟩) (by omega) (by omega)]
  simp
 refine ⟨k+1,rfl,_,c1,IfB.intro (fun g=>?_) (fun g=>?_)⟩
 ·rw [eqI_dec] at g
  have:=Int.ofNat.inj (of_decide_eq_true g)
  omega
 refine ⟨k+1,rfl,letUp hO (by omega) fun H3 s3 nx3 get3=>⟨_,c2,_,c3,?_⟩⟩
 have h3:=h.quiet s3
 obtain ⟨H7,e7,o7,s7⟩:=h3.nil_store s3.ok (j:=k) (by omega) (vs:=[]) (by simp) rfl
 have a7:appF 4 72 H3 (.slice b 0 k c false) (.slice b ((k+1)*4) 0 (c-(k+1)) false)=some (.slice b 0 k c false,H7):=by
  show Eng.append 4 72 H3 (.slice b 0 k c false) [] 0=_
  unfold Eng.append
  simp only
  rw [show Nat.ble (k+0) c=true from by simp;omega]
  simp only
  rw [Nat.zero_add,e7]
  rfl
 obtain ⟨H10,e10,o10,s10⟩:=o7.nil_store s7.ok (j:=k) (by simp;omega) (vs:=[(.str []), .nils,(.int .i64 (.ofNat 0)), .nils]) (by simp) rfl
 refine ⟨_,H7,a7,k,rfl,_,c4,H10,?_,kk H10 ?_ ?_⟩
 ·show H7.store b (k*4) ([(.str []), .nils,(.int .i64 (.ofNat 0)), .nils]++[])=_
  rw [List.append_nil]
  exact e10
 ·have:=o10.short (k:=k) (by simp;omega)
  simp only [List.take_set_of_le (Nat.le_refl k)] at this
  exact this
 ·have w: ∀ i,isB (.slice b 0 (k+1) c false) i→i=b:=fun i g=>by injection g with g;exact g.symm
  exact s3.of.trans ((s7.wide fun i _ g=>w i g).trans (s10.wide fun i _ g=>w i g))
end
section
variable {H:Hp} {N:Nat}
section
variable {p q e:Nat} {rv:AV} {l:List Hed}
theorem Bk.all {b e:Nat} {cs:List AV} (h:Bk H b cs e) (hs:scAll cs=true):H.load b 0 cs.length=some cs:=h.load 0 cs.length (by have:=takeC_of cs [] hs;rw [List.append_nil] at this;cases cs <;> exact this)
theorem Bk.whole {b e:Nat} {cs ds:List AV} (h:Bk H b cs e) (hO:Ok H) (hs:scAll ds=true) (hl:cs.length=ds.length): ∃ H',H.store b 0 ds=some H'∧Bk H' b ds e∧Stp (fun i=>i=b) H H':=by
 obtain ⟨H',h1,h2,h3⟩:=h.stp hO (o:=0) (vs:=ds) (cs:=ds) (by rw [over_at _ _ _ (by omega)];simp [List.drop_eq_nil_of_le,hl]) hs
 exact ⟨H',h1,h2,h3⟩
theorem pop_ok (h:HpB H N p q e rv l) (hp:IsHp hlt l) (hN:N≤H.nx) (hb:l.length<16777216) {Q:AV→Hp→Prop}
  (k0:l=[]→ ∀ H',Stp noB H H'→Q (.tup [.agg [.str [], .nils, .int .i64 0, .nils], .bool false]) H')
  (k1: ∀ x rv' l' H',(x::l').Perm l→(∀ y∈l,hlt y x=false)→HpB H' N p q e rv' l'→IsHp hlt l'→Stp (fun i=>i=p∨isB rv i) H H'→(∀ i,blkOf rv'=some i→blkOf rv=some i)→Q (.tup [.agg (hc x), .bool true]) H'):Cal env 211 [.ptr p 0] H Q:=by
 refine Cal.start fun hO=>s211 ?_
 unfold S211
 refine New.stp hO fun H1 b1 s1=>New.stp s1.ok fun H3 b3 s3=>?_
 have t3:=s1.trans s3
 have h3:=h.quiet hO t3
 have i1:=s1.ok.lt b1
 have b1:=b1.step s1.ok s3 id
 have lp:=hO.lt h.bx
 have lq:q<H.nx:=by obtain ⟨_,_,g⟩:=h.lq;exact hO.lt g
 have n1:=s1.nx
 have n3:=s3.nx
 refine hlen_ok h3 ⟨_,rfl,IfB.intro (fun g=>?_) (fun g=>?_)⟩
 ·have g:l=[]:=by
   rw [show (0:Int)= .ofNat 0 from rfl,eqI_dec] at g
   exact List.length_eq_zero_iff.1 (Int.ofNat.inj (of_decide_eq_true g))
  obtain ⟨H11,e11,b11,s11⟩:=b1.whole s3.ok (ds:=[.str [], .nils, .int .i64 0, .nils]) rfl rfl
  refine ⟨_,_,_,_,b3.all rfl,H11,e11,_,b11.all rfl,k0 g H11 (t3.then s11 fun i g=>by omega)⟩
 ·have g:0<l.length:=by
   rw [show (0:Int)= .ofNat 0 from rfl,eqI_dec] at g
   exact Nat.pos_of_ne_zero fun x=>of_decide_eq_false g (by rw [x])
  obtain ⟨bb,c,hrv,hkc⟩: ∃ b c,rv= .slice b 0 l.length c false∧l.length≤c:=by
   rcases h.ow.at_ with ⟨_,g2⟩ | ⟨b',c',e',bl,g1,_,_,g4,_⟩
   ·have:=congrArg List.length g2;simp at this;subst this;cases g
   ·rcases h.ne with g3 | ⟨b2,o2,n2,c2,g3⟩
    ·rw [g3] at g1;cases g1
    ·rw [g3] at g1
     injection g1 with g5 g6 g7 g8 g9
     rw [List.length_map] at g7 g4
     exact ⟨b2,c2,by rw [g3,g6,g7],by rw [g8];exact g4⟩
  have hx:=h.ok _ (List.getElem_mem g)
  obtain ⟨a1,a2,a3,a4⟩:=h3.at_ g
  refine ⟨rv,h3.row,a1,a2,a3,_,_,_,_,a4,?_⟩
  refine New.stp s3.ok fun H24 b24 s24=>?_
  have n24:=s24.nx
  have i24:=s24.ok.lt b24
  obtain ⟨H25,e25,b25,s25⟩:=b24.whole s24.ok (ds:=hc l[0]) (hc_sc hx) rfl
  have h24:=h3.quiet s3.ok s24
  have rb: ∀ i,blkOf rv=some i→i<H.nx:=fun i hi=>h.ow.lt i hi
  have h25:=h24.keep s24.ok s25 (by omega) (by omega) fun i hi x=>by have:=rb i hi;omega
  have b1:=(b1.step s3.ok s24 id).step s24.ok s25 (by omega)
  have n25:=s25.nx
  refine ⟨H25,e25,rv,h25.row,l.length,by rw [h25.ow.sl.len,List.length_map],letUp s25.ok (by omega) fun H31 s31 nx31 get31=>?_⟩
  have h31:=h25.quiet s25.ok s31
  have b31:=b25.step s25.ok s31 id
  have b1:=b1.step s25.ok s31 id
  have gl:l.length-1<l.length:=by omega
  have ew:wrapF .i64 (Int.ofNat l.length-1)= .ofNat (l.length-1):=by
   rw [show (1:Int)= .ofNat 1 from rfl]
   exact subN (by omega) (by omega)
  have ew2:wrapF .i64 (wrapF .i64 (Int.ofNat l.length-1)+1)= .ofNat (l.length-1+1):=by
   rw [ew]
   exact wrap_i64 (x:=l.length-1+1) (by omega)
  rw [ew2,ew]
  have hy:=h.ok _ (List.getElem_mem gl)
  obtain ⟨d1,d2,d3,d4⟩:=h31.at_ gl
  obtain ⟨f1,f2,f3,H48,e48,h48,s48⟩:=h31.put s31.ok g hy
  refine ⟨rv,h31.row,h31.rfr ⟨rv,h31.row,h31.rfr ⟨d1,d2,d3,_,_,_,_,d4,rf4 hy.1 hy.2 ⟨f1,f2,f3,H48,e48,rv,h48.row,?_⟩⟩⟩⟩
  have n48:=s48.nx
  have b48:=b31.step s31.ok s48 fun x=>by have:=rb _ x;omega
  have b1:=b1.step s31.ok s48 fun x=>by have:=rb _ x;omega
  obtain ⟨kk,hkk⟩: ∃ kk,l.length=kk+1:=⟨l.length-1,by omega⟩
  rw [hkk,Nat.add_sub_cancel]
  rw [hkk] at hrv hkc
  have o48:=h48.ow
  rw [hrv] at o48 ⊢
  refine hdel_ok o48 (by simp [hkk]) hkc (by omega) fun H54 o54 s54=>⟨_,rfl,Chk.intro o54.sl.sc ?_⟩
  have nbp: ¬ p=bb:=fun x=>h.np bb (by rw [hrv];rfl) x.symm
  have nbq: ¬ q=bb:=fun x=>h.nq bb (by rw [hrv];rfl) x.symm
  have lbb:bb<H.nx:=rb bb (by rw [hrv];rfl)
  have bx54:=h48.bx.step s48.ok s54 nbp
  have lq54:=h48.lq.keep s48.ok s54 nbq
  have b54:=b48.step s48.ok s54 (by omega)
  have b1:=b1.step s48.ok s54 (by omega)
  obtain ⟨H59,e59,b59,s59⟩:=bx54.stp s54.ok (o:=0) (vs:=[.slice bb 0 kk c false]) rfl rfl
  refine ⟨H59,e59,?_⟩
  have hst:(l.set 0 (l[l.length-1]'gl)).length=kk+1:=by simp [hkk]
  have h59:HpB H59 N p q e (.slice bb 0 kk c false) ((l.set 0 (l[l.length-1]'gl)).take (l.length-1)):=by
   refine ⟨b59,h.hi,?_,lq54.keep s54.ok s59 h.npq,fun y hy=>h48.ok y (List.mem_of_mem_take hy),h.lo, .inr ⟨_,_,_,_,rfl⟩⟩
   have o59:=o54.step s59 fun i hi x=>nbp (by injection hi with hi;omega)
   rw [←List.map_take] at o59
   have all: ∀ n,n=kk→Ow H59 N 4 (.slice bb 0 kk c false) (List.map hc (List.take n (l.set 0 (l[l.length-1]'gl)))):=fun n hn=>by rw [hn];exact o59
   exact all _ (by omega)
  have b59':=b54.step s54.ok s59 (by omega)
  have b1:=b1.step s54.ok s59 (by omega)
  refine sink_ok h59 (DnI.start hp g) (by rw [List.length_take,hst];omega) fun l' H61 h61 p61 pm s61=>⟨rfl,?_⟩
  have b61:=b59'.step s59.ok s61 fun x=>by injection x;omega
  have b1:=b1.step s59.ok s61 fun x=>by injection x;omega
  obtain ⟨H66,e66,b66,s66⟩:=b1.whole s61.ok (ds:=hc l[0]) (hc_sc hx) rfl
  refine ⟨_,_,_,_,b61.all (hc_sc hx),H66,e66,_,b66.all (hc_sc hx),?_⟩
  have h66:=h61.keep s61.ok s66 (by omega) (by omega) fun i hi x=>by injection hi;omega
  refine k1 l[0] _ l' H66 ((List.Perm.cons _ pm).trans (pop_perm g)) (fun y hy=>?_) h66 p61 ?_ fun i hi=>by rw [hrv];exact hi
  ·obtain ⟨j,hj,rfl⟩:=List.getElem_of_mem hy
   exact hp.min hlt_ord hlt_self g j j (Nat.le_refl _) hj
  ·have w1:Stp (fun i=>i=p∨isB rv i∨H.nx≤i) H H66:=t3.of.trans (s24.of.trans ((s25.wide fun i _ x=>by right;right;omega).trans (s31.of.trans ((s48.wide fun i _ x=> .inr (.inl x)).trans ((s54.wide fun i _ x=>by right;left;rw [hrv,x];rfl).trans ((s59.wide fun i _ x=> .inl x).trans ((s61.wide fun i _ x=>by right;left;rw [hrv];exact x).trans (s66.wide fun i _ x=>by right;right;omega))))))))
   exact w1.wide fun i hi x=>by rcases x with x | x | x;exact .inl x;exact .inr x;omega
end
end
section
variable {H:Hp} {N:Nat}
theorem Ow.ne_42 {v u:AV} {cs ds:List (List AV)} (h:Ow H N 4 v cs) {M:Nat} (k:Ow H M 2 u ds): ∀ b,blkOf v=some b→blkOf u≠some b:=fun b hv hu=>by
 rcases h.at_ with ⟨rfl,_⟩ | ⟨b1,_,_,bl1,rfl,_,_,_,a4,_,a6,_⟩
 ·cases hv
 ·rcases k.at_ with ⟨rfl,_⟩ | ⟨b2,_,_,bl2,rfl,_,_,_,c4,_,c6,_⟩
  ·cases hu
  ·cases hv;cases hu
   rw [a4] at c4
   obtain rfl:=Option.some.inj c4
   rcases a6 with a6 | ⟨a6,_⟩
   ·rcases c6 with c6 | ⟨c6,_⟩
    ·rw [a6] at c6;cases c6
    ·cases c6
   ·cases a6
abbrev EntM:=(List Nat × AV) × Nat
def eLe (a b:EntM):Prop:=a.1.1<b.1.1∨a.1.1=b.1.1∧a.2≤b.2
def hEnt (h:Hed):EntM:=((h.s,h.v),h.i)
def pendH (h:Hed):List EntM:=hEnt h::h.r.map fun c=>(c,h.i)
def pend (l:List Hed):List EntM:=l.flatMap pendH
def fromE:Nat→List (List (List Nat × AV))→List EntM
 | _,[]=>[]
 | i,cs::L=>cs.map (fun c=>(c,i))++fromE (i+1) L
theorem fromE_snoc: ∀ (L:List (List (List Nat × AV))) (i:Nat) (cs:List (List Nat × AV)),fromE i (L++[cs])=fromE i L++cs.map fun c=>(c,i+L.length)
 | [],i,cs=>by simp [fromE]
 | x::L,i,cs=>by
  simp only [List.cons_append,fromE,fromE_snoc L (i+1) cs,List.length_cons,List.append_assoc]
  rw [show i+1+L.length=i+(L.length+1) by omega]
theorem eLe_hlt {a b:Hed}:eLe (hEnt a) (hEnt b)↔hlt b a=false:=by
 rw [hlt_tx];rfl
theorem eLe.tr {a b c:EntM} (h:eLe a b) (k:eLe b c):eLe a c:=by
 rcases h with h | ⟨h1,h2⟩ <;> rcases k with k | ⟨k1,k2⟩
 ·exact .inl (List.lt_trans h k)
 ·exact .inl (k1 ▸ h)
 ·exact .inl (h1 ▸ k)
 ·exact .inr ⟨h1.trans k1,by omega⟩
theorem eLe.rfl' (a:EntM):eLe a a:= .inr ⟨rfl,Nat.le_refl _⟩
structure HSrt (h:Hed):Prop where
 iv: ∀ c∈h.r,IsS c.2
 lo: ∀ c∈h.r,h.s<c.1
 pw:h.r.Pairwise fun a b=>a.1<b.1
theorem HSrt.le {h:Hed} (g:HSrt h): ∀ x∈pendH h,eLe (hEnt h) x:=fun x hx=>by
 rcases List.mem_cons.1 hx with rfl | hx
 ·exact eLe.rfl' _
 ·obtain ⟨c,hc,rfl⟩:=List.mem_map.1 hx
  exact .inl (g.lo c hc)
structure MrgI (out:List EntM) (l:List Hed) (all:List EntM):Prop where
 pm:(out++pend l).Perm all
 so:out.Pairwise eLe
 le: ∀ a∈out, ∀ b∈pend l,eLe a b
 hs: ∀ h∈l,HSrt h
theorem pend_perm {l l':List Hed} (h:l.Perm l'):(pend l).Perm (pend l'):=h.flatMap_right _
theorem MrgI.perm {out:List EntM} {l l':List Hed} {all:List EntM} (h:MrgI out l all) (p:l'.Perm l):MrgI out l' all:=
 ⟨(List.Perm.append_left _ (pend_perm p)).trans h.pm,h.so,fun a ha b hb=>h.le a ha b ((pend_perm p).mem_iff.1 hb),fun x hx=>h.hs x (p.mem_iff.1 hx)⟩
def nextH (x:Hed) (w:AV):List Hed:=
 match x.r with
 | []=>[]
 | c::r=>[⟨c.1,c.2,x.i,w,r⟩]
theorem MrgI.pop {out:List EntM} {x:Hed} {l:List Hed} {all:List EntM} (h:MrgI out (x::l) all) (hm: ∀ y∈l,hlt y x=false) (w:AV):MrgI (out++[hEnt x]) (nextH x w++l) all:=by
 have hx:=h.hs x (List.mem_cons_self ..)
 have hp:pend (x::l)=hEnt x::(pend (nextH x w++l)):=by
  unfold pend nextH
  cases hr:x.r with
  | nil=>simp [pendH,hr]
  | cons c r=>simp [pendH,hr,hEnt]
 have hmin: ∀ b∈pend (nextH x w++l),eLe (hEnt x) b:=fun b hb=>by
  have hb:b∈pend (x::l):=by rw [hp];exact List.mem_cons_of_mem _ hb
  obtain ⟨y,hy,hb2⟩:=List.mem_flatMap.1 hb
  rcases List.mem_cons.1 hy with hy | hy
  ·rw [hy] at hb2;exact hx.le b hb2
  ·exact (eLe_hlt.2 (hm y hy)).tr ((h.hs y (List.mem_cons_of_mem _ hy)).le b hb2)
 refine ⟨?_,?_,?_,fun y hy=>?_⟩
 ·rw [List.append_assoc,List.singleton_append, ←hp];exact h.pm
 ·refine List.pairwise_append.2 ⟨h.so,List.pairwise_singleton _ _,fun a ha b hb=>?_⟩
  rw [List.mem_singleton] at hb
  rw [hb]
  exact h.le a ha _ (by rw [hp];exact List.mem_cons_self ..)
 ·intro a ha b hb
  rcases List.mem_append.1 ha with ha | ha
  ·exact h.le a ha b (by rw [hp];exact List.mem_cons_of_mem _ hb)
  ·rw [List.mem_singleton] at ha
   rw [ha];exact hmin b hb
 ·rcases List.mem_append.1 hy with hy | hy
  ·unfold nextH at hy
   cases hr:x.r with
   | nil=>rw [hr] at hy;cases hy
   | cons c r=>
    rw [hr] at hy
    rw [List.mem_singleton] at hy
    rw [hy]
    have hpw:=hx.pw
    rw [hr,List.pairwise_cons] at hpw
    exact ⟨fun d hd=>hx.iv d (by rw [hr];exact List.mem_cons_of_mem _ hd),hpw.1,hpw.2⟩
  ·exact h.hs y (List.mem_cons_of_mem _ hy)
end
section
variable {H:Hp} {N:Nat}
theorem pend_len: ∀ l:List Hed,l.length≤(pend l).length
 | []=>Nat.le_refl _
 | h::l=>by
  have:=pend_len l
  simp only [pend,List.flatMap_cons,List.length_append,List.length_cons,pendH] at this ⊢
  omega
theorem MrgI.len {out:List EntM} {l:List Hed} {all:List EntM} (h:MrgI out l all):out.length+l.length≤all.length:=by
 have:=h.pm.length_eq
 rw [List.length_append] at this
 have:=pend_len l
 omega
theorem MrgI.more {l:List Hed} {L:List (List (List Nat × AV))} (h:MrgI [] l (fromE 0 L)) {cs:List (List Nat × AV)} {c:List Nat × AV} {r:List (List Nat × AV)} (e:cs=c::r) (iv: ∀ c∈cs,IsS c.2) (pw:cs.Pairwise fun a b=>a.1<b.1) (w:AV):MrgI [] (⟨c.1,c.2,L.length,w,r⟩::l) (fromE 0 (L++[cs])):=by
 subst e
 rw [List.pairwise_cons] at pw
 refine ⟨?_,List.Pairwise.nil,fun a ha=>(List.not_mem_nil ha).elim,fun y hy=>?_⟩
 ·rw [fromE_snoc,Nat.zero_add]
  have hp:(pend l).Perm (fromE 0 L):=h.pm
  show (pendH ⟨c.1,c.2,L.length,w,r⟩++pend l).Perm (fromE 0 L++pendH ⟨c.1,c.2,L.length,w,r⟩)
  exact List.perm_append_comm.trans (hp.append_right _)
 ·rcases List.mem_cons.1 hy with rfl | hy
  ·exact ⟨fun d hd=>iv d (List.mem_cons_of_mem _ hd),pw.1,pw.2⟩
  ·exact h.hs y hy
theorem tl_cut {v:AV} {cs:List (List Nat × AV)} {c:List Nat × AV} {r:List (List Nat × AV)} {fz:Bool} (h:Sl H 2 v (cs.map tc) fz) (e:cs=c::r): ∃ v',Eng.cut 2 v (some (.int .i64 1)) none none=some v'∧Sl H 2 v' (r.map tc) fz:=by
 subst e
 obtain ⟨v',z1,z2,_⟩:=h.cut (lo:=1) (hi:=r.length+1) (olo:=some (.int .i64 1)) (ohi:=none) (omx:=none) (.inl rfl) (.inr ⟨rfl,rfl,by simp⟩) (.inl ⟨_,rfl⟩) (by omega) (by simp)
 refine ⟨v',z1,?_⟩
 have:(((c::r).map tc).drop 1).take (r.length+1-1)=r.map tc:=by
  simp only [List.map_cons,List.drop_succ_cons,List.drop_zero,Nat.add_sub_cancel]
  exact List.take_of_length_le (by rw [List.length_map];exact Nat.le_refl _)
 rw [this] at z2
 exact z2
theorem hd_at {v:AV} {cs:List (List Nat × AV)} {c:List Nat × AV} {r:List (List Nat × AV)} {fz:Bool} (h:Sl H 2 v (cs.map tc) fz) (e:cs=c::r): ∃ p o,ixF 2 v 0=some (p,o)∧H.load p o 2=some [.str c.1,c.2]:=by
 subst e
 obtain ⟨p,o,y1,y2,_⟩:=h.elem (j:=0) (by simp)
 exact ⟨p,o,y1,y2⟩
theorem smerge_ok {va:AV} {vs:List AV} {L:List (List (List Nat × AV))} {fz:Bool} (ha:Sl H 1 va (vs.map fun v=>[v]) fz) (hL:all2 (fun v cs=>Sl H 2 v (cs.map tc) true) vs L) (hI: ∀ cs∈L,(∀ c∈cs,IsS c.2)∧cs.Pairwise fun a b=>a.1<b.1) (hs:(fromE 0 L).length<16777216) (hl:L.length<16777216) {Q:AV→Hp→Prop}
  (k: ∀ (v:AV) (out:List EntM) (H':Hp),Ow H' H.nx 2 v (out.map fun x:EntM=>tc x.1)→out.Perm (fromE 0 L)→out.Pairwise eLe→Stp noB H H'→Q v H'):Cal env 171 [.func 172 [] [],va] H Q:=by
 refine Cal.start fun hO=>s171 ?_
 unfold S171
 refine New.stp hO fun H1 b1 s1=>⟨_,b1.load 0 1 rfl,?_⟩
 have ef: ∀ K,eqM .func (.func 172 [] []) .nilf K=K false:=fun _=>rfl
 rw [ef,ifb_f]
 have lq1:Lsq H1 H.nx:=⟨_,by decide,b1⟩
 have n1:=s1.nx
 have hlv:=all2_len hL
 refine hnew_ok s1.ok lq1 fun e H5 h5 s5=>⟨_,rfl,vs.length,by rw [ha.len,List.length_map],?_⟩
 refine ⟨fun m n H'=> ∃ i rv l,n= .ofNat i∧m=vs.length-i∧i≤vs.length∧HpB H' H1.nx H1.nx H.nx e rv l∧IsHp hlt l∧MrgI [] l (fromE 0 (L.take i))∧(∀ h∈l,Sl H 2 h.w (h.r.map tc) true)∧l.length≤i∧H1.nx≤H'.nx∧Stp noB H H',
  ⟨_,0, .nils,[],rfl,rfl,Nat.zero_le _,h5,fun j _ hj=>by simp at hj,⟨.refl _,List.Pairwise.nil,fun a ha=>(List.not_mem_nil ha).elim,fun a ha=>(List.not_mem_nil ha).elim⟩,fun a ha=>(List.not_mem_nil ha).elim,Nat.le_refl _,s5.nx,s1.trans s5⟩,?_⟩
 rintro _ H10 J _ ⟨i,rv,l,rfl,rfl,hi,h10,hp10,mi,rs,hle,n10,st⟩
 have ewi:i<16777217→wrapF .i64 (Int.ofNat i+1)= .ofNat (i+1):=fun _=>wrap_i64 (x:=i+1) (by omega)
 refine IfB.intro (fun g=>?_) (fun g=>?_)
 ·rw [ltI_nat] at g
  have g:i<vs.length:=of_decide_eq_true g
  have gL:i<L.length:=by omega
  rw [ewi (by omega)]
  obtain ⟨p14,o15,x1,x2,_⟩:=(ha.quiet hO st).elem (j:=i) (by rw [List.length_map];exact g)
  rw [List.getElem_map] at x2
  have hcs:Sl H 2 vs[i] (L[i].map tc) true:=all2_at hL i g gL
  have hcs10:=hcs.stay st
  obtain ⟨iv,pw⟩:=hI _ (List.getElem_mem gL)
  refine ⟨p14,o15,x1,_,x2,L[i].length,by rw [hcs.len,List.length_map],?_⟩
  have etk:L.take (i+1)=L.take i++[L[i]]:=by rw [List.take_succ_eq_append_getElem gL]
  have eln:(L.take i).length=i:=by rw [List.length_take];omega
  refine IfB.intro (fun c=>?_) (fun c=>?_)
  ·rw [show (0:Int)= .ofNat 0 from rfl,ltI_nat] at c
   have c:0<L[i].length:=of_decide_eq_true c
   obtain ⟨c0,r0,hcr⟩: ∃ c0 r0,L[i]=c0::r0:=by
    cases h:L[i] with
    | nil=>rw [h] at c;cases c
    | cons a b=>exact ⟨a,b,rfl⟩
   refine letUp st.ok (by omega) fun H18 s18 nx18 get18=>?_
   have hcs18:=hcs10.stay s18
   obtain ⟨p19,o20,y1,y2⟩:=hd_at hcs18 hcr
   obtain ⟨v23,z1,z4⟩:=tl_cut hcs hcr
   have ic:IsS c0.2:=iv c0 (by rw [hcr];exact List.mem_cons_self ..)
   refine ⟨p19,o20,y1,c0.1,c0.2,y2,rf5 ic ⟨v23,z1,Chk.intro z4.sc ?_⟩⟩
   have h18:=h10.quiet st.ok s18
   have n18:=s18.nx
   refine push_ok (x:=⟨c0.1,c0.2,i,v23,r0⟩) h18 hp10 (by omega) ⟨ic,z4.isS⟩ (by omega) fun rv' l' H25 h25 hp25 pm25 s25 f25=>⟨rfl,?_⟩
   have mi2:=mi.more hcr iv pw v23
   rw [eln, ←etk] at mi2
   refine ⟨_,by omega,i+1,rv',l',rfl,rfl,by omega,h25,hp25,mi2.perm pm25,fun y hy=>?_,by rw [pm25.length_eq,List.length_cons];omega,by have:=s25.nx;omega,(st.trans s18).then s25 fun j hj=>?_⟩
   ·rcases List.mem_cons.1 (pm25.mem_iff.1 hy) with hy | hy
    ·rw [hy];exact z4
    ·exact rs y hy
   ·rcases hj with hj | hj
    ·omega
    ·have:=h18.ow.isB_low j hj;omega
  ·rw [show (0:Int)= .ofNat 0 from rfl,ltI_nat] at c
   have c: ¬ 0<L[i].length:=of_decide_eq_false c
   have c:L[i]=[]:=List.length_eq_zero_iff.1 (by omega)
   have e2:fromE 0 (L.take (i+1))=fromE 0 (L.take i):=by rw [etk,fromE_snoc,c];simp
   exact ⟨_,by omega,i+1,rv,l,rfl,rfl,by omega,h10,hp10,e2 ▸ mi,rs,by omega,n10,st⟩
 ·rw [ltI_nat] at g
  have g: ¬ i<vs.length:=of_decide_eq_false g
  have eL:L.take i=L:=List.take_of_length_le (by omega)
  rw [eL] at mi
  refine ⟨fun m v H'=> ∃ out rv l,m=(fromE 0 L).length-out.length∧HpB H' H1.nx H1.nx H.nx e rv l∧IsHp hlt l∧MrgI out l (fromE 0 L)∧(∀ h∈l,Sl H 2 h.w (h.r.map tc) true)∧Ow H' H.nx 2 v (out.map fun x:EntM=>tc x.1)∧H1.nx≤H'.nx∧Stp noB H H',
   ⟨_,[],rv,l,rfl,h10,hp10,mi,rs,Ow.nil,n10,st⟩,?_⟩
  clear h10 hp10 mi rs hle n10 st h5 s5 g ewi hi
  rintro _ H28 J29 v30 ⟨out,rv,l,rfl,h28,hp28,mi,rs,ow,n28,st⟩
  have hln:=mi.len
  refine pop_ok h28 hp28 n28 (by omega) (fun h0 H33 s33=>?_) (fun x rv' l' H33 pm hmin h33 hp33 s33 f33=>?_)
  ·refine ⟨[], .nils,0, .nils,false,rfl,New.stp s33.ok fun H40 b40 s40=>?_⟩
   obtain ⟨H41,e41,b41,s41⟩:=b40.whole s40.ok (ds:=[.str [], .nils, .int .i64 0, .nils]) rfl rfl
   have i40:=s40.ok.lt b40
   have n33:=s33.nx
   have t:Stp noB H28 H41:=(s33.trans s40).then s41 fun j hj=>by omega
   refine ⟨H41,e41,IfB.intro (fun _=>?_) (fun g=>by cases g)⟩
   have pm:=mi.pm
   rw [h0] at pm
   simp only [pend,List.flatMap_nil,List.append_nil] at pm
   exact k v30 out H41 (ow.quiet t) pm mi.so (st.trans t)
  ·have hxm:x∈l:=pm.mem_iff.1 (List.mem_cons_self ..)
   have mx:=(mi.perm pm)
   have hx:=h28.ok x hxm
   have hsx:=mi.hs x hxm
   have hout:out.length<(fromE 0 L).length:=by
    have:=pm.length_eq
    rw [List.length_cons] at this
    omega
   have n33:=s33.nx
   have lp28:=st.ok.lt h28.bx
   have ow33:=ow.step s33 fun j hj g=>by
    rcases g with g | g
    ·exact (ow.ne_bk1 h28.bx h28.hi: ∀ i,blkOf v30=some i→ ¬ i=H1.nx) j hj g
    ·exact h28.ow.ne_42 ow j g hj
   have st33:Stp noB H H33:=st.then s33 fun j g=>by
    rcases g with g | g
    ·omega
    ·have:=h28.ow.isB_low j g;omega
   refine ⟨_,_,_,_,_,rfl,New.stp s33.ok fun H40 b40 s40=>?_⟩
   have i40:=s40.ok.lt b40
   obtain ⟨H41,e41,b41,s41⟩:=b40.whole s40.ok (ds:=hc x) (hc_sc hx) rfl
   refine ⟨H41,e41,IfB.intro (fun g=>by cases g) fun _=>?_⟩
   have t41:Stp noB H33 H41:=s40.then s41 fun j hj=>by omega
   refine ⟨x.s,x.v,b41.load 0 2 (hc_two hx),Chk.intro (by simp only [scAll,hx.1.sc];rfl) ?_⟩
   have ow41:=ow33.quiet t41
   have h41:=h33.quiet s33.ok t41
   have n41:=t41.nx
   refine ow41.appE t41.ok (by omega) (c:=[.str x.s,x.v]) rfl (by simp only [scAll,hx.1.sc];rfl) (by simp only [List.length_map,room];omega) (by decide) fun v46 H47 o46 s47 f47=>?_
   have n47:=s47.nx
   have lv: ∀ j,blkOf v30=some j→j<H33.nx:=fun j hj=>ow33.lt j hj
   have b47:=b41.step t41.ok s47 fun g=>by have:=lv _ g;omega
   have h47:=h41.keep t41.ok s47 (fun g=>(ow41.ne_bk1 h41.bx h41.hi: ∀ i,blkOf v30=some i→ ¬ i=H1.nx) _ g rfl) (by
    obtain ⟨e',g1,g2⟩:=h41.lq
    exact fun g=>(ow41.ne_bk1 g2 g1: ∀ i,blkOf v30=some i→ ¬ i=H.nx) _ g rfl) fun j hj g=>h41.ow.ne_42 ow41 j hj g
   have hw:Sl H 2 x.w (x.r.map tc) true:=rs x hxm
   have st47:Stp noB H H47:=(st33.trans t41).then s47 fun j hj=>ow41.isB_low j hj
   have om:(out.map fun x:EntM=>tc x.1)++[[.str x.s,x.v]]=(out++[hEnt x]).map fun x:EntM=>tc x.1:=by simp [hEnt,tc]
   rw [om] at o46
   have rs': ∀ y∈l',Sl H 2 y.w (y.r.map tc) true:=fun y hy=>rs y (pm.mem_iff.1 (List.mem_cons_of_mem _ hy))
   have hmin': ∀ y∈l',hlt y x=false:=fun y hy=>hmin y (pm.mem_iff.1 (List.mem_cons_of_mem _ hy))
   have hlo:(out++[hEnt x]).length=out.length+1:=by simp
   have ls:x.w.sc=true:=hw.sc
   refine ⟨x.w,b47.ld 3 rfl ls,x.r.length,by rw [hw.len,List.length_map],IfB.intro (fun c=>?_) (fun c=>?_)⟩
   ·rw [show (0:Int)= .ofNat 0 from rfl,ltI_nat] at c
    have c:0<x.r.length:=of_decide_eq_true c
    obtain ⟨c0,r0,hcr⟩: ∃ c0 r0,x.r=c0::r0:=by
     cases h:x.r with
     | nil=>rw [h] at c;cases c
     | cons a b=>exact ⟨a,b,rfl⟩
    refine letUp s47.ok (by omega) fun H50 s50 nx50 get50=>?_
    have b50:=b47.step s47.ok s50 id
    have h50:=h47.quiet s47.ok s50
    have st50:=st47.trans s50
    have n50:=s50.nx
    obtain ⟨p52,o53,y1,y2⟩:=hd_at (hw.stay st50) hcr
    obtain ⟨v58,z1,z4⟩:=tl_cut hw hcr
    have ic:IsS c0.2:=hsx.iv c0 (by rw [hcr];exact List.mem_cons_self ..)
    refine ⟨x.w,b50.ld 3 rfl ls,hw.rf ⟨p52,o53,y1,c0.1,c0.2,y2,rf5 ic ⟨_,b50.ld 2 rfl rfl,x.w,b50.ld 3 rfl ls,hw.rf ⟨v58,z1,Chk.intro z4.sc ?_⟩⟩⟩⟩
    have hll:l'.length<16777216:=by have:=pm.length_eq;rw [List.length_cons] at this;omega
    have mn:=mx.pop hmin' v58
    have hnx:nextH x v58=[⟨c0.1,c0.2,x.i,v58,r0⟩]:=by unfold nextH;rw [hcr]
    rw [hnx] at mn
    refine push_ok (x:=⟨c0.1,c0.2,x.i,v58,r0⟩) h50 hp33 (by omega) ⟨ic,z4.isS⟩ hll fun rv2 l2 H60 h60 hp60 pm60 s60 f60=>⟨rfl,?_⟩
    have n60:=s60.nx
    have o50:=o46.quiet s50
    refine ⟨_,by omega,out++[hEnt x],rv2,l2,rfl,h60,hp60,mn.perm pm60,fun y hy=>?_,o50.step s60 fun j hj g=>?_,by omega,st50.then s60 fun j g=>?_⟩
    ·rcases List.mem_cons.1 (pm60.mem_iff.1 hy) with hy | hy
     ·rw [hy];exact z4
     ·exact rs' y hy
    ·rcases g with g | g
     ·exact (o50.ne_bk1 h50.bx h50.hi: ∀ i,blkOf v46=some i→ ¬ i=H1.nx) j hj g
     ·exact h50.ow.ne_42 o50 j g hj
    ·rcases g with g | g
     ·omega
     ·have:=h50.ow.isB_low j g;omega
   ·rw [show (0:Int)= .ofNat 0 from rfl,ltI_nat] at c
    have c: ¬ 0<x.r.length:=of_decide_eq_false c
    have c:x.r=[]:=List.length_eq_zero_iff.1 (by omega)
    have mn:=mx.pop hmin' .nils
    have hnx:nextH x .nils=[]:=by unfold nextH;rw [c]
    rw [hnx] at mn
    exact ⟨_,by omega,out++[hEnt x],rv',l',rfl,h47,hp33,mn,rs',o46,by omega,st47⟩
end
section
variable {H:Hp} {N:Nat}
theorem repV_flat (z:List AV): ∀ n,repV z n=(List.replicate n z).flatten
 | 0=>rfl
 | n+1=>by rw [List.replicate_succ,List.flatten_cons, ←repV_flat z n];rfl
theorem grow_ok {n:Nat} (hn:n≤16777216) {Q:AV→Hp→Prop} (k: ∀ v H',Ow H' H.nx 2 v []→Stp noB H H'→Q v H'):Cal env 212 [.nils, .int .i64 (.ofNat n)] H Q:=by
 refine Cal.start fun hO=>s212 ?_
 unfold S212
 refine ⟨fun H'=>H=H',IfB.intro (fun g=>?_) (fun _=>rfl),?_⟩
 ·have:=ltI_nn n
  rw [g] at this
  cases this
 rintro _ J rfl
 refine ⟨0,rfl,0,rfl,?_⟩
 rw [subN (Nat.le_refl 0) (by omega),subN (Nat.zero_le n) (by omega),Nat.sub_zero]
 refine IfB.intro (fun g=>?_) (fun g=>k _ _ Ow.nil (Stp.refl hO))
 rw [show (0:Int)= .ofNat 0 from rfl,ltI_nat] at g
 have g:0<n:=of_decide_eq_true g
 have hd:Rw 2 (List.replicate n [(.int .i64 (.ofNat 0)), .nils]):=fun x hx=>by rw [(List.mem_replicate.1 hx).2];exact ⟨rfl,rfl⟩
 obtain ⟨v',H',e1,e2,e3,e4,e5⟩:=(Ow.nil (H:=H) (N:=H.nx) (es:=2)).append (Nat.le_refl _) hd (bytes:=32) (by simp only [List.length_nil,List.length_replicate,room];omega) (by decide)
 rw [List.length_replicate, ←repV_flat] at e1
 have st:Stp noB H H':=⟨(hO.append e1).1,(hO.append e1).2,e4.wide fun i _ x=>by cases x⟩
 have hv:v'= .slice H.nx 0 n n false:=by
  unfold Eng.append at e1
  simp only [beqN_f (show n≠0 by omega)] at e1
  split at e1
  ·cases e1;rfl
  ·cases e1
 subst hv
 have ea:appNF 2 32 [(.int .i64 (.ofNat 0)), .nils] H .nils (.ofNat n)=some (.slice H.nx 0 n n false,H'):=by
  unfold appNF
  simp only
  rw [show (Nat.ble n room&&Nat.ble (n*32) room)=true from by simp only [Bool.and_eq_true,Nat.ble_eq,room];omega]
  exact e1
 refine ⟨0,rfl, .nils,rfl,_,H',ea,0,rfl, .slice H.nx 0 0 n false,?_,k _ H' ?_ st⟩
 ·unfold Eng.cut
  simp only
  rw [bounds_of (lo:=0) (hi:=0) (m:=n) (.inl ⟨rfl,rfl⟩) (.inl ⟨_,rfl⟩) (.inr ⟨rfl,rfl⟩) (Nat.le_refl _) (Nat.zero_le _)]
  simp
 ·have:=e2.short (k:=0) (Nat.zero_le _)
  rw [List.take_zero] at this
  exact this
theorem flat_le {α:Type} (l:List (List α)) (i:Nat):(l.take i).flatten.length≤l.flatten.length:=by
 have:=congrArg (fun x=>x.flatten.length) (List.take_append_drop i l)
 simp only [List.flatten_append,List.length_append] at this
 omega
theorem concat_ok {va:AV} {vs:List AV} {css:List (List (List AV))} {fz:Bool} (ha:Sl H 1 va (vs.map fun v=>[v]) fz) (hl:vs.length=css.length) (hL: ∀ i (h:i<vs.length) (h2:i<css.length),Sl H 2 vs[i] css[i] true) (hs:css.flatten.length≤16777216) (hv:vs.length≤16777216) {Q:AV→Hp→Prop}
  (k: ∀ v H',Ow H' H.nx 2 v css.flatten→Stp noB H H'→Q v H'):Cal env 173 [va] H Q:=by
 refine Cal.start fun hO=>s173 ?_
 unfold S173
 have hlen:lenS va=some vs.length:=by rw [ha.len,List.length_map]
 have ewi: ∀ i,i<16777217→wrapF .i64 (Int.ofNat i+1)= .ofNat (i+1):=fun i _=>wrap_i64 (x:=i+1) (by omega)
 have stepf: ∀ i (h:i<css.length),(css.take (i+1)).flatten=(css.take i).flatten++css[i]:=fun i h=>by
  rw [List.take_succ_eq_append_getElem h,List.flatten_append,List.flatten_cons,List.flatten_nil,List.append_nil]
 refine ⟨vs.length,hlen,fun m n n' H'=> ∃ i,n'= .ofNat i∧n= .ofNat (css.take i).flatten.length∧m=vs.length-i∧i≤vs.length∧H=H',⟨_,0,rfl,rfl,rfl,Nat.zero_le _,rfl⟩,?_⟩
 rintro _ _ J _ _ ⟨i,rfl,rfl,rfl,hi,rfl⟩
 refine IfB.intro (fun g=>?_) (fun g=>?_)
 ·rw [ltI_nat] at g
  have g:i<vs.length:=of_decide_eq_true g
  obtain ⟨p,o,x1,x2,_⟩:=ha.elem (j:=i) (by rw [List.length_map];exact g)
  rw [List.getElem_map] at x2
  have hle:=flat_le css (i+1)
  rw [stepf i (by omega),List.length_append] at hle
  have ea:wrapF .i64 (Int.ofNat (css.take i).flatten.length+Int.ofNat (css[i]'(by omega)).length)= .ofNat (css.take (i+1)).flatten.length:=by
   rw [stepf i (by omega),List.length_append]
   exact wrap_i64 (x:=(css.take i).flatten.length+(css[i]'(by omega)).length) (by omega)
  refine ⟨p,o,x1,_,x2,_,(hL i g (by omega)).len,?_⟩
  rw [ea,ewi i (by omega)]
  refine IfB.intro (fun c=>?_) (fun _=>⟨_,by omega,i+1,rfl,rfl,rfl,by omega,rfl⟩)
  have:=ltI_nn (css.take (i+1)).flatten.length
  rw [c] at this
  cases this
 ·rw [ltI_nat] at g
  have g: ¬ i<vs.length:=of_decide_eq_false g
  rw [show css.take i=css from List.take_of_length_le (by omega)]
  refine grow_ok hs fun v H13 o13 s13=>⟨v,rfl,vs.length,hlen,?_⟩
  refine ⟨fun m v n H'=> ∃ i,n= .ofNat i∧m=vs.length-i∧i≤vs.length∧Ow H' H.nx 2 v (css.take i).flatten∧Stp noB H H',⟨_,0,rfl,rfl,Nat.zero_le _,o13,s13⟩,?_⟩
  rintro _ H18 J19 v20 _ ⟨j,rfl,rfl,hj,ow,st⟩
  refine IfB.intro (fun g=>?_) (fun g=>?_)
  ·rw [ltI_nat] at g
   have g:j<vs.length:=of_decide_eq_true g
   obtain ⟨p,o,x1,x2,_⟩:=(ha.quiet hO st).elem (j:=j) (by rw [List.length_map];exact g)
   rw [List.getElem_map] at x2
   have hle:=flat_le css (j+1)
   rw [stepf j (by omega),List.length_append] at hle
   rw [ewi j (by omega)]
   refine ⟨p,o,x1,_,x2,?_⟩
   refine ow.appS st.ok st.nx ((hL j g (by omega)).stay st) (by simp only [room];omega) (by decide) fun v26 H27 o27 s27 f27=>⟨_,by omega,j+1,rfl,rfl,by omega,by rw [stepf j (by omega)];exact o27,st.then s27 fun b hb=>ow.isB_low b hb⟩
  ·rw [ltI_nat] at g
   have g: ¬ j<vs.length:=of_decide_eq_false g
   rw [show css.take j=css from List.take_of_length_le (by omega)] at ow
   exact k v20 H18 ow st
end
section
variable {H:Hp} {N:Nat}
theorem all2_app {α β:Type} {R:α→β→Prop}: ∀ {l:List α} {r:List β} {l':List α} {r':List β},all2 R l r→all2 R l' r'→all2 R (l++l') (r++r')
 | [],[],_,_,_,h=>h
 | a::l,b::r,_,_,g,h=>⟨g.1,all2_app g.2 h⟩
theorem all2_perm {α β:Type} {R:α→β→Prop} {a' a:List α} (p:a'.Perm a): ∀ {b:List β},all2 R a b→ ∃ b',b'.Perm b∧all2 R a' b':=by
 induction p with
 | nil=>exact fun {b} h=>⟨b, .refl _,h⟩
 | cons x _ ih=>
  intro b h
  match b,h with
  | y::b,h=>
   obtain ⟨b',h1,h2⟩:=ih h.2
   exact ⟨y::b',h1.cons _,h.1,h2⟩
 | swap x y l=>
  intro b h
  match b,h with
  | u::v::b,h=>exact ⟨v::u::b, .swap _ _ _,h.2.1,h.1,h.2.2⟩
 | trans _ _ ih1 ih2=>
  intro b h
  obtain ⟨b1,h1,h2⟩:=ih2 h
  obtain ⟨b2,h3,h4⟩:=ih1 h2
  exact ⟨b2,h3.trans h1,h4⟩
theorem all2_map {α β γ:Type} {R:α→β→Prop} {f:α→γ} {g:β→γ} (hf: ∀ a b,R a b→f a=g b): ∀ {l:List α} {r:List β},all2 R l r→l.map f=r.map g
 | [],[],_=>rfl
 | a::l,b::r,h=>by rw [List.map_cons,List.map_cons,hf a b h.1,all2_map hf h.2]
theorem all2_ex {α β γ:Type} {R:α→β→Prop} {S:α→γ→Prop} {T:γ→β→Prop} (h: ∀ a b,R a b→ ∃ c,S a c∧T c b): ∀ {l:List α} {r:List β},all2 R l r→ ∃ m,all2 S l m∧all2 T m r
 | [],[],_=>⟨[],trivial,trivial⟩
 | a::l,b::r,g=>by
  obtain ⟨c,h1,h2⟩:=h a b g.1
  obtain ⟨m,h3,h4⟩:=all2_ex h g.2
  exact ⟨c::m,⟨h1,h3⟩,h2,h4⟩
abbrev PEnt:=Term × Nat
def fromP:Nat→List (List Term)→List PEnt
 | _,[]=>[]
 | i,l::L=>l.map (fun c=>(c,i))++fromP (i+1) L
def pLe (a b:PEnt):Prop:=a.1.1<b.1.1∨a.1.1=b.1.1∧a.2≤b.2
def entR (H:Hp) (e:EntM) (x:PEnt):Prop:=tmR H e.1 x.1∧e.2=x.2
theorem all2_tag {i:Nat}: ∀ {l:List (List Nat × AV)} {r:List Term},all2 (tmR H) l r→all2 (entR H) (l.map fun c=>(c,i)) (r.map fun c=>(c,i))
 | [],[],_=>trivial
 | a::l,b::r,h=>⟨⟨h.1,rfl⟩,all2_tag h.2⟩
theorem from_rel: ∀ {L:List (List (List Nat × AV))} {Lp:List (List Term)} (i:Nat),all2 (all2 (tmR H)) L Lp→all2 (entR H) (fromE i L) (fromP i Lp)
 | [],[],_,_=>trivial
 | cs::L,l::Lp,i,h=>all2_app (all2_tag h.1) (from_rel (i+1) h.2)
theorem tmR.isS {c:List Nat × AV} {x:Term} (h:tmR H c x):IsS c.2:=by
 obtain ⟨_,cs,h1,_⟩:=h
 exact h1.isS
def kLe (a b:List Nat × Nat):Prop:=a.1<b.1∨a.1=b.1∧a.2≤b.2
theorem srt_rel {out:List EntM} {ps:List PEnt} (h:all2 (entR H) out ps) (g:out.Pairwise eLe):ps.Pairwise pLe:=by
 have e:out.map (fun e:EntM=>(e.1.1,e.2))=ps.map (fun x:PEnt=>(x.1.1,x.2)):=all2_map (fun a b r=>by rw [r.1.1,r.2]) h
 have g1:(out.map (fun e:EntM=>(e.1.1,e.2))).Pairwise kLe:=List.pairwise_map.2 g
 rw [e] at g1
 exact ((List.pairwise_map (R:=kLe) (f:=fun x:PEnt=>(x.1.1,x.2))).1 g1).imp id
def addG (acc:List Term) (x:Term):List Term:=
 match acc.getLast? with
 | some y=>if y.1=x.1 then acc.dropLast++[(y.1,y.2++x.2)] else acc++[x]
 | none=>acc++[x]
def grpB (l:List Term):List Term:=l.foldl addG []
def sumP (l:List Term):Nat:=(l.map fun x=>x.2.length).sum
theorem sumP_app (l m:List Term):sumP (l++m)=sumP l+sumP m:=by simp [sumP]
theorem sumP_one (x:Term):sumP [x]=x.2.length:=by simp [sumP]
theorem sumP_mem {l:List Term} {x:Term} (h:x∈l):x.2.length≤sumP l:=by
 obtain ⟨a,b,rfl⟩:=List.append_of_mem h
 rw [sumP_app,show x::b=[x]++b from rfl,sumP_app,sumP_one]
 omega
theorem sumP_addG (acc:List Term) (x:Term):sumP (addG acc x)=sumP acc+x.2.length:=by
 unfold addG
 split
 ·rename_i y hy
  split
  ·obtain ⟨a,rfl⟩: ∃ a,acc=a++[y]:=by
    have hne:acc≠[]:=by rintro rfl;cases hy
    rw [List.getLast?_eq_some_getLast hne] at hy
    injection hy with hy
    exact ⟨acc.dropLast,by rw [←hy,List.dropLast_concat_getLast]⟩
   rw [List.dropLast_concat,sumP_app,sumP_app,sumP_one,sumP_one,List.length_append]
   omega
  ·rw [sumP_app,sumP_one]
 ·rw [sumP_app,sumP_one]
theorem grpB_snoc (l:List Term) (x:Term):grpB (l++[x])=addG (grpB l) x:=by unfold grpB;rw [List.foldl_append];rfl
theorem sumP_grp (l:List Term):sumP (grpB l)=sumP l:=by
 have: ∀ (l acc:List Term),sumP (l.foldl addG acc)=sumP acc+sumP l:=fun l=>by
  induction l with
  | nil=>intro acc;simp [sumP]
  | cons x l ih=>
   intro acc
   rw [List.foldl_cons,ih,sumP_addG,show x::l=[x]++l from rfl,sumP_app,sumP_one]
   omega
 have h:=this l []
 rw [show sumP []=0 from rfl,Nat.zero_add] at h
 exact h
theorem PoR.raw {v:AV} {l:List Post} (h:PoR H v l): ∃ cs,Sl H 2 v (cs.map pc) true∧all2 (spR H) cs l:=by
 obtain ⟨cs,h1,h2,h3⟩:=h
 exact ⟨cs,h1,all2_of h2 fun i a b=>h3 i a b⟩
theorem lit_sl2 {b:Nat} {x y:AV} {e:Nat} (h:Bk H b [x,y] e) (hx:x.sc=true) (hy:y.sc=true):Sl H 1 (.slice b 0 2 2 true) [[x],[y]] false:=
 ⟨fun z hz=>by
  rcases List.mem_cons.1 hz with rfl | hz
  ·exact ⟨rfl,by simp [scAll,hx]⟩
  ·rw [List.mem_singleton] at hz;subst hz;exact ⟨rfl,by simp [scAll,hy]⟩, .inr ⟨b,0,2,true,_,rfl,Nat.le_refl _,h,⟨[],by simp [dropN]⟩,fun q=>by cases q⟩⟩
theorem concat2_ok {b e:Nat} {x y:AV} {l m:List Post} (hb:Bk H b [x,y] e) (hx:PoR H x l) (hy:PoR H y m) (hs:l.length+m.length≤16777216) {Q:AV→Hp→Prop}
  (k: ∀ v H',PoR H' v (l++m)→Stp noB H H'→Q v H'):Cal env 173 [.slice b 0 2 2 true] H Q:=by
 obtain ⟨cx,x1,x2⟩:=hx.raw
 obtain ⟨cy,y1,y2⟩:=hy.raw
 have lx:=all2_len x2
 have ly:=all2_len y2
 refine Cal.behind (concat_ok (vs:=[x,y]) (css:=[cx.map pc,cy.map pc]) (lit_sl2 hb x1.sc y1.sc) rfl (fun i h1 h2=>?_) (by simp;omega) (by simp) fun v H' o st=>⟨blks v,?_⟩)
 ·match i,h1 with
  | 0,_=>exact x1
  | 1,_=>exact y1
 ·have st':Stp noB H (Eng.frz H' (blks v)):=st.frz o.blks_low
  have o':=o.frz
  rw [show [cx.map pc,cy.map pc].flatten=(cx++cy).map pc by simp] at o'
  exact k v _ (PoR.of o' (all2_mono (fun _ _ r=>r.mono st'.mo) (all2_app x2 y2))) st'
theorem smerge_rd {va:AV} {vs:List AV} {Lp:List (List Term)} {fz:Bool} (ha:Sl H 1 va (vs.map fun v=>[v]) fz) (hL:all2 (TmR H) vs Lp) (hS: ∀ l∈Lp,l.Pairwise fun a b=>a.1<b.1) (hn:(fromP 0 Lp).length<16777216) (hl:Lp.length<16777216) {Q:AV→Hp→Prop}
  (k: ∀ (v:AV) (out:List EntM) (ps:List PEnt) (H':Hp),Sl H' 2 v (out.map fun x:EntM=>tc x.1) true→all2 (entR H') out ps→ps.Perm (fromP 0 Lp)→ps.Pairwise pLe→Stp noB H H'→Q v H'):Cal env 171 [.func 172 [] [],va] H Q:=by
 obtain ⟨L,h1,h2⟩:=all2_ex (R:=TmR H) (S:=fun v (cs:List (List Nat × AV))=>Sl H 2 v (cs.map tc) true) (T:=all2 (tmR H)) (fun a b r=>r) hL
 have hr:=from_rel 0 h2
 have hle:=all2_len hr
 have hlL:=all2_len h2
 refine Cal.behind (smerge_ok ha h1 (fun cs hcs=>?_) (by omega) (by omega) fun v out H' o pm so st=>⟨blks v,?_⟩)
 ·obtain ⟨i,hi,rfl⟩:=List.getElem_of_mem hcs
  have hi2:i<Lp.length:=by omega
  have hi3:=all2_at h2 i hi hi2
  refine ⟨fun c hc=>?_,?_⟩
  ·obtain ⟨x,hx⟩:=all2_mem hi3 c hc
   exact hx.isS
  ·have e:L[i].map Prod.fst=Lp[i].map Prod.fst:=all2_map (fun a b r=>r.1) hi3
   have g:(Lp[i].map Prod.fst).Pairwise (· < ·):=List.pairwise_map.2 (hS _ (List.getElem_mem hi2))
   rw [←e] at g
   exact List.pairwise_map.1 g
 ·obtain ⟨ps,p1,p2⟩:=all2_perm pm hr
  have st':Stp noB H (Eng.frz H' (blks v)):=st.frz o.blks_low
  exact k v out ps _ o.frz (all2_mono (fun _ _ r=>⟨r.1.mono st'.mo,r.2⟩) p2) p1 (srt_rel p2 so) st'
end
section
variable {H:Hp} {N:Nat}
def lastIs (acc:List Term) (x:Term):Bool:=match acc.getLast? with | some y=>decide (y.1=x.1) | none=>false
theorem tc_sc {c:List Nat × AV} (h:c.2.sc=true):scAll (tc c)=true:=by simp only [tc,scAll,h];rfl
theorem eqL_dec (a b:List Nat):eqL a b=decide (a=b):=by rw [eqL_eq,Bool.eq_iff_iff];simp
theorem tmerge_ok {va:AV} {vs:List AV} {Lp:List (List Term)} {fz:Bool} (ha:Sl H 1 va (vs.map fun v=>[v]) fz) (hL:all2 (TmR H) vs Lp) (hS: ∀ l∈Lp,l.Pairwise fun a b=>a.1<b.1) (hn:(fromP 0 Lp).length<16777216) (hl:Lp.length<16777216) (hp:sumP ((fromP 0 Lp).map (·.1))≤16777216) {Q:AV→Hp→Prop}
  (k: ∀ (v:AV) (ps:List PEnt) (H':Hp),TmR H' v (grpB (ps.map (·.1)))→ps.Perm (fromP 0 Lp)→ps.Pairwise pLe→Stp noB H H'→Q v H'):Cal env 114 [va] H Q:=by
 refine Cal.start fun hO=>Cal.behind (s114 ?_)
 unfold S114
 refine smerge_rd ha hL hS hn hl fun v2 out ps H1 sl rel pm so st1=>⟨v2,rfl,out.length,by rw [sl.len,List.length_map],?_⟩
 have hlo:=all2_len rel
 have hpn:=pm.length_eq
 have hsum:sumP (ps.map (·.1))≤16777216:=by
  have:sumP (ps.map (·.1))=sumP ((fromP 0 Lp).map (·.1)):=by
   unfold sumP
   rw [List.map_map,List.map_map]
   exact (pm.map _).sum_nat
  omega
 have hgl: ∀ l:List Term,(grpB l).length≤l.length:=fun l=>by
  have: ∀ (l acc:List Term),(l.foldl addG acc).length≤acc.length+l.length:=fun l=>by
   induction l with
   | nil=>intro acc;simp
   | cons x l ih=>
    intro acc
    have h1:=ih (addG acc x)
    have h2:(addG acc x).length≤acc.length+1:=by
     unfold addG
     split
     ·split
      ·simp <;> omega
      ·simp
     ·simp
    rw [List.foldl_cons,List.length_cons]
    omega
  have:=this l []
  simpa [grpB] using this
 refine ⟨fun m v n H'=> ∃ i C,n= .ofNat i∧m=ps.length-i∧i≤ps.length∧Ow H' H1.nx 2 v (C.map tc)∧all2 (tmR H') C (grpB ((ps.take i).map (·.1)))∧Stp noB H1 H',⟨_,0,[],rfl,rfl,Nat.zero_le _,Ow.nil,trivial,Stp.refl st1.ok⟩,?_⟩
 rintro _ H6 J v8 _ ⟨i,C,rfl,rfl,hi,ow,al,st⟩
 have n1:=st1.nx
 have n6:=st.nx
 refine IfB.intro (fun g=>?_) (fun g=>?_)
 ·rw [ltI_nat] at g
  have g:i<out.length:=of_decide_eq_true g
  have gp:i<ps.length:=by omega
  have hx:=all2_at rel i g gp
  obtain ⟨x,hxe⟩: ∃ x,ps[i].1=x:=⟨_,rfl⟩
  obtain ⟨c,hce⟩: ∃ c,out[i].1=c:=⟨_,rfl⟩
  have hx:tmR H1 c x:=by rw [←hxe, ←hce];exact hx.1
  obtain ⟨acc,hacc⟩: ∃ acc,grpB ((ps.take i).map (·.1))=acc:=⟨_,rfl⟩
  have hnext:grpB ((ps.take (i+1)).map (·.1))=addG acc x:=by
   rw [List.take_succ_eq_append_getElem gp,List.map_append,List.map_cons,List.map_nil,grpB_snoc,hacc,hxe]
  have hsx:sumP acc+x.2.length≤16777216:=by
   rw [←sumP_addG, ←hnext,sumP_grp]
   have h1:sumP ((ps.take (i+1)).map (·.1))+sumP ((ps.drop (i+1)).map (·.1))=sumP (ps.map (·.1)):=by
    rw [←sumP_app, ←List.map_append,List.take_append_drop]
   omega
  have hal:acc.length≤16777216:=by
   have:=hgl ((ps.take i).map (·.1))
   rw [hacc,List.length_map,List.length_take] at this
   omega
  rw [hacc] at al
  have hC:=all2_len al
  rw [show wrapF .i64 (Int.ofNat i+1)= .ofNat (i+1) from wrap_i64 (x:=i+1) (by omega)]
  obtain ⟨p11,o12,y1,y2,_⟩:=(sl.stay st).elem (j:=i) (by rw [List.length_map];exact g)
  rw [List.getElem_map,hce] at y2
  have ic:IsS c.2:=hx.isS
  refine ⟨p11,o12,y1,c.1,c.2,y2,New.stp st.ok fun H16 b16 s16=>?_⟩
  have i16:=s16.ok.lt b16
  obtain ⟨H17,e17,b17,s17⟩:=b16.whole s16.ok (ds:=tc c) (tc_sc ic.sc) rfl
  refine ⟨H17,e17,?_⟩
  have t17:Stp noB H6 H17:=s16.then s17 fun j hj=>by omega
  have n17:=t17.nx
  have lv: ∀ j,blkOf v8=some j→j<H6.nx:=fun j hj=>ow.lt j hj
  refine ⟨fun H'=>lastIs acc x=false∧Stp noB H17 H',⟨C.length,by rw [ow.sl.len,List.length_map],fun b H'=>b=lastIs acc x∧Stp noB H17 H',letUp t17.ok (by omega) fun H21 s21 nx21 get21=>?_,?_⟩,?_⟩
  ·have ow21:=(ow.quiet t17).quiet s21
   refine IfB.intro (fun q=>?_) (fun q=>?_)
   ·rw [show (0:Int)= .ofNat 0 from rfl,ltI_nat] at q
    have q:0<C.length:=of_decide_eq_true q
    rw [show (1:Int)= .ofNat 1 from rfl,subN (by omega) (by omega)]
    obtain ⟨p22,o23,z1,_,z3⟩:=ow21.sl.elem (j:=C.length-1) (by rw [List.length_map];omega)
    refine ⟨p22,o23,z1,C[C.length-1].1,?_,c.1,(b17.step t17.ok s21 id).ld 0 rfl rfl,?_,s21⟩
    ·rw [z3 0 1 (by omega),List.getElem_map];rfl
    ·have hel:=all2_at al (C.length-1) (by omega) (by omega)
     have:acc.getLast? =some acc[C.length-1]:=by rw [List.getLast?_eq_getElem?,show acc.length-1=C.length-1 by omega,List.getElem?_eq_getElem (by omega)]
     unfold lastIs
     rw [this,hel.1,hx.1,eqL_dec]
   ·rw [show (0:Int)= .ofNat 0 from rfl,ltI_nat] at q
    have q: ¬ 0<C.length:=of_decide_eq_false q
    have:acc=[]:=List.length_eq_zero_iff.1 (by omega)
    exact ⟨by rw [this];rfl,s21⟩
  ·rintro H26 J27 b28 ⟨rfl,s26⟩
   have n26:=s26.nx
   refine IfB.intro (fun q=>?_) (fun q=>⟨q,s26⟩)
   have ow26:=(ow.quiet t17).quiet s26
   obtain ⟨y,hgl,hyx⟩: ∃ y,acc.getLast? =some y∧y.1=x.1:=by
    unfold lastIs at q
    split at q
    ·rename_i y hy;exact ⟨y,hy,of_decide_eq_true q⟩
    ·cases q
   have hpos:0<acc.length:=by
    cases acc with
    | nil=>cases hgl
    | cons _ _=>simp
   obtain ⟨A0,y',hA⟩:=snoc_of hpos
   obtain rfl:y'=y:=by rw [hA] at hgl;simpa using hgl
   obtain ⟨C0,cc,hCC⟩:=snoc_of (hC ▸ hpos)
   have al2:=al
   rw [hCC,hA] at al2
   obtain ⟨al0,alc⟩:=all2_snoc_inv al2
   have hlc:C.length=C0.length+1:=by rw [hCC];simp
   have ej:wrapF .i64 (Int.ofNat C.length-1)= .ofNat C0.length:=by
    rw [hlc,show (1:Int)= .ofNat 1 from rfl,subN (by omega) (by omega)];rfl
   rw [ej]
   have hjC:C0.length<(C.map tc).length:=by rw [List.length_map];omega
   have hCj:(C.map tc)[C0.length]'hjC=tc cc:=by
    rw [List.getElem_map]
    congr 1
    simp [hCC]
   refine letUp s26.ok (by omega) fun H29 s29 nx29 get29=>?_
   have ow29:=ow26.quiet s29
   have b29:=(b17.step t17.ok s26 id).step s26.ok s29 id
   obtain ⟨p30,o31,z1,_,z3⟩:=ow29.sl.elem hjC
   have icc:IsS cc.2:=alc.isS
   refine ⟨p30,o31,z1,cc.2,by rw [z3 1 1 (by omega),hCj];rfl,?_⟩
   have t29:=(t17.trans s26).trans s29
   have px:PoR H29 c.2 x.2:=(hx.2.mono st.mo).mono t29.mo
   have py:PoR H29 cc.2 y'.2:=alc.2.mono t29.mo
   have rfi: ∀ {v:AV} {P:Prop},IsS v→P→rfW v P:=fun h p=>h.rf p
   refine rfi icc ⟨c.2,b29.ld 1 rfl ic.sc,rfi ic (Chk.intro icc.sc (Chk.intro ic.sc (Chk.intro (by simp [scAll,icc.sc,ic.sc]) ?_)))⟩
   refine letMk s29 (by omega) (by omega) (Nat.le_refl _) (by rw [get29];exact s26.ok _ (by omega)) fun H34 s34 b34 nx34 kp34 get34=>?_
   have t34:Stp noB H6 H34:=(t17.trans s26).trans s34
   have hy2:y'.2.length≤sumP acc:=sumP_mem (by rw [hA];simp)
   refine concat2_ok b34 (alc.2.mono t34.mo) ((hx.2.mono st.mo).mono t34.mo) (by omega) fun v37 H36 po s36=>⟨v37,rfl,?_⟩
   have t36:=t34.trans s36
   have pos:v37.sc=true:=by obtain ⟨_,q,_⟩:=po;exact q.sc
   have ow36:=ow.quiet t36
   obtain ⟨bb,oo,k1,_,_,H40,e40,o40,s40⟩:=ow36.setS s36.ok hjC 1 (vs:=[v37]) (by simp) (by simp [scAll,pos])
   refine ⟨bb,oo,k1,Chk.intro pos ⟨H40,e40,_,by omega,i+1,C0++[(cc.1,v37)],rfl,rfl,by omega,?_,?_,(st.trans t36).then s40 fun j hj=>?_⟩⟩
   ·have e1:(C.map tc).set C0.length (((C.map tc)[C0.length]'hjC).take 1++([v37]++((C.map tc)[C0.length]'hjC).drop (1+[v37].length)))=(C0++[(cc.1,v37)]).map tc:=by
     rw [hCj,hCC,List.map_append,List.map_append,List.set_append_right _ _ (by simp),List.length_map,Nat.sub_self]
     simp [tc]
    rw [e1] at o40
    exact o40
   ·have hadd:addG acc x=A0++[(y'.1,y'.2++x.2)]:=by
     unfold addG
     rw [hgl]
     simp only
     rw [if_pos hyx,hA,List.dropLast_concat]
    rw [hnext,hadd]
    exact all2_snoc ⟨alc.1,po.mono s40.mo⟩ (all2_mono (fun _ _ r=>(r.mono t36.mo).mono s40.mo) al0)
   ·exact ow36.isB_low j hj
  ·rintro H41 J42 ⟨q,s41⟩
   have t41:=t17.trans s41
   refine ⟨c.1,c.2,(b17.step t17.ok s41 id).load 0 2 ?_,Chk.intro (tc_sc ic.sc) ?_⟩
   ·have:=takeC_of (tc c) [] (tc_sc ic.sc)
    rw [List.append_nil] at this
    exact this
   ·have n41:=t41.nx
    refine (ow.quiet t41).appE t41.ok (by omega) (c:=tc c) rfl (tc_sc ic.sc) (by simp only [List.length_map,room];omega) (by decide) fun v47 H48 o48 s48 f48=>?_
    have hadd:addG acc x=acc++[x]:=by
     unfold addG
     unfold lastIs at q
     split
     ·rename_i y hy
      rw [hy] at q
      rw [if_neg (of_decide_eq_false q)]
     ·rfl
    refine ⟨_,by omega,i+1,C++[c],rfl,rfl,by omega,by rw [List.map_append];exact o48,?_,(st.trans t41).then s48 fun j hj=>?_⟩
    ·rw [hnext,hadd]
     exact all2_snoc ((hx.mono st.mo).mono (t41.mo.trans s48.mo)) (all2_mono (fun _ _ r=>r.mono (t41.mo.trans s48.mo)) al)
    ·exact (ow.quiet t41).isB_low j hj
 ·rw [ltI_nat] at g
  have g: ¬ i<out.length:=of_decide_eq_false g
  rw [show ps.take i=ps from List.take_of_length_le (by omega)] at al
  have st':=(st1.trans st).frz fun j hj=>Nat.le_trans n1 (ow.blks_low j hj)
  refine ⟨blks v8,k v8 ps _ ⟨C,ow.frz,all2_mono (fun _ _ r=>r.mono (frz_mo H6 _)) al⟩ pm so st'⟩
end
section
variable {H:Hp} {N:Nat}
structure DocP where
 id:List Nat
 t0:List Nat
 t1:List Nat
 t2:List Nat
 t3:List Nat
def DocP.ts (d:DocP):List (List Nat):=[d.t0,d.t1,d.t2,d.t3]
def dc (d:DocP):List AV:=[.str d.id, .str d.t0, .str d.t1, .str d.t2, .str d.t3]
def DocL (i:Nat) (d:DocP) (l:List Term):Prop:= ∃ ks,KeysOf ks (docT d.ts)∧ks.length≤240∧l=ks.map fun k=>(k,[((i:Int),docT d.ts k)])
theorem DocL.pw {i:Nat} {d:DocP} {l:List Term} (h:DocL i d l):l.Pairwise fun a b=>a.1<b.1:=by
 obtain ⟨ks,h1,_,rfl⟩:=h
 exact List.pairwise_map.2 (SrtS.pw.1 h1.1)
theorem DocL.len {i:Nat} {d:DocP} {l:List Term} (h:DocL i d l):l.length≤240∧sumP l=l.length:=by
 obtain ⟨ks,h1,h2,rfl⟩:=h
 refine ⟨by rw [List.length_map];exact h2,?_⟩
 unfold sumP
 rw [List.map_map]
 clear h1 h2
 induction ks with
 | nil=>rfl
 | cons k ks ih=>simp only [List.map_cons,List.sum_cons,List.length_cons,ih];simp;omega
theorem fromP_len: ∀ (L:List (List Term)) (i:Nat),(∀ l∈L,l.length≤240∧sumP l=l.length)→(fromP i L).length≤240*L.length∧sumP ((fromP i L).map (·.1))=(fromP i L).length
 | [],_,_=>⟨Nat.le_refl _,rfl⟩
 | l::L,i,h=>by
  have h1:=fromP_len L (i+1) fun x hx=>h x (List.mem_cons_of_mem _ hx)
  have h2:=h l (List.mem_cons_self ..)
  simp only [fromP,List.length_append,List.length_map,List.length_cons,List.map_append,sumP_app,List.map_map]
  have e:sumP (List.map ((fun x:PEnt=>x.1) ∘ fun c=>(c,i)) l)=sumP l:=by
   congr 1
   exact List.map_id l
  omega
theorem tall_ok (hG:GlOk H) {va:AV} {ds:List DocP} {fz:Bool} (ha:Sl H 5 va (ds.map dc) fz) (hb: ∀ d∈ds, ∀ s∈d.ts,(∀ b∈s,b<256)∧s.length≤1099511627776) (hn:ds.length≤4096) {Q:AV→Hp→Prop}
  (k: ∀ (v:AV) (Lp:List (List Term)) (ps:List PEnt) (H':Hp),Lp.length=ds.length→(∀ i (h:i<Lp.length) (h2:i<ds.length),DocL i ds[i] Lp[i])→TmR H' v (grpB (ps.map (·.1)))→ps.Perm (fromP 0 Lp)→ps.Pairwise pLe→Stp noB H H'→Q v H'):Cal env 123 [va] H Q:=by
 refine Cal.start fun hO=>s123 ?_
 unfold S123
 refine ⟨ds.length,by rw [ha.len,List.length_map],fun m v n H'=> ∃ i vs Lp,n= .ofNat i∧m=ds.length-i∧i≤ds.length∧Lp.length=i∧Ow H' H.nx 1 v (vs.map fun v=>[v])∧all2 (TmR H') vs Lp∧(∀ j (h:j<Lp.length) (h2:j<ds.length),DocL j ds[j] Lp[j])∧Stp noB H H',
  ⟨_,0,[],[],rfl,rfl,Nat.zero_le _,rfl,Ow.nil,trivial,fun j hj=>by simp at hj,Stp.refl hO⟩,?_⟩
 rintro _ H3 J v5 _ ⟨i,vs,Lp,rfl,rfl,hi,hLi,ow,al,hD,st⟩
 have hvl:=all2_len al
 have n3:=st.nx
 refine IfB.intro (fun g=>?_) (fun g=>?_)
 ·rw [ltI_nat] at g
  have g:i<ds.length:=of_decide_eq_true g
  rw [show wrapF .i64 (Int.ofNat i+1)= .ofNat (i+1) from wrap_i64 (x:=i+1) (by omega)]
  obtain ⟨p8,o9,y1,y2,_⟩:=(ha.quiet hO st).elem (j:=i) (by rw [List.length_map];exact g)
  rw [List.getElem_map] at y2
  obtain ⟨d,hd⟩: ∃ d,ds[i]=d:=⟨_,rfl⟩
  rw [hd] at y2
  refine ⟨p8,o9,y1,d.id,d.t0,d.t1,d.t2,d.t3,y2,New.stp st.ok fun H16 b16 s16=>?_⟩
  have i16:=s16.ok.lt b16
  obtain ⟨H17,e17,b17,s17⟩:=b16.whole s16.ok (ds:=dc d) rfl rfl
  have t17:Stp noB H3 H17:=s16.then s17 fun j hj=>by omega
  refine ⟨H17,e17,d.id,d.t0,d.t1,d.t2,d.t3,b17.all (cs:=dc d) rfl,?_⟩
  refine doc_ok (hG.mono (st.mo.trans t17.mo)) (hb d (by rw [←hd];exact List.getElem_mem g)) fun v25 ks H24 hk hkl htm s24=>⟨v25,rfl,?_⟩
  have sv:v25.sc=true:=by obtain ⟨_,q,_⟩:=htm;exact q.sc
  have t24:=t17.trans s24
  have n24:=t24.nx
  refine Chk.intro sv (Chk.intro (by simp [scAll,sv]) ?_)
  refine (ow.quiet t24).appE t24.ok (by omega) (c:=[v25]) rfl (by simp [scAll,sv]) (by simp only [List.length_map,room];omega) (by decide) fun v28 H29 o29 s29 f29=>?_
  refine ⟨_,by omega,i+1,vs++[v25],Lp++[ks.map fun k=>(k,[((i:Int),docT d.ts k)])],rfl,rfl,by omega,by rw [List.length_append,hLi];rfl,by rw [List.map_append];exact o29,?_,fun j hj hj2=>?_,(st.trans t24).then s29 fun j hj=>(ow.quiet t24).isB_low j hj⟩
  ·exact all2_snoc (htm.mono s29.mo) (all2_mono (fun _ _ r=>r.mono (t24.mo.trans s29.mo)) al)
  ·by_cases hji:j<Lp.length
   ·rw [List.getElem_append_left hji]
    exact hD j hji hj2
   ·have hj3:j=i:=by rw [List.length_append,List.length_singleton] at hj;omega
    subst hj3
    rw [List.getElem_append_right (by omega)]
    simp only [hLi,Nat.sub_self,List.getElem_cons_zero]
    rw [hd]
    exact ⟨ks,hk,hkl,rfl⟩
 ·rw [ltI_nat] at g
  have g: ¬ i<ds.length:=of_decide_eq_false g
  have hall: ∀ l∈Lp,l.length≤240∧sumP l=l.length:=fun l hl=>by
   obtain ⟨j,hj,rfl⟩:=List.getElem_of_mem hl
   exact (hD j hj (by omega)).len
  have hf:=fromP_len Lp 0 hall
  refine tmerge_ok ow.sl al (fun l hl=>?_) (by omega) (by omega) (by omega) fun v ps H31 tm pm so s31=>⟨v,rfl,k v Lp ps H31 (by omega) hD tm pm so (st.trans s31)⟩
  obtain ⟨j,hj,rfl⟩:=List.getElem_of_mem hl
  exact (hD j hj (by omega)).pw
end
section
variable {H:Hp} {N:Nat}
theorem clip_nat {n:Nat} (h:n≤65536):clipN (.ofNat n)=n:=by
 show (min (max (n:Int) 0) 65536).toNat=n
 omega
theorem sall_ok {n:Nat} (hn:n≤65536) {Q:AV→Hp→Prop} (k: ∀ b c ws H',SetAt H' b c n (fun i=>decide (i<n)) ws→H.nx≤b→H.nx≤c→Stp noB H H'→Q (.ptr b 0) H'):Cal env 176 [.int .i64 (.ofNat n)] H Q:=by
 refine Cal.start fun hO=>s176 ?_
 unfold S176
 refine new_ok fun b c ws H1 h1 hb hc s1=>⟨_,rfl,?_⟩
 rw [clip_nat hn] at h1
 refine ⟨fun m j H'=> ∃ i ws',j= .ofNat i∧m=n-i∧i≤n∧SetAt H' b c n (fun q=>decide (q<i)) ws'∧Stp noB H H',⟨_,0,ws,rfl,rfl,Nat.zero_le _,?_,s1⟩,?_⟩
 ·have:(fun q:Nat=>decide (q<0))=fun _=>false:=by funext q;simp
  rw [this];exact h1
 rintro _ H5 J _ ⟨i,ws',rfl,rfl,hi,h5,st⟩
 refine IfB.intro (fun g=>?_) (fun g=>?_)
 ·rw [ltI_nat] at g
  have g:i<n:=of_decide_eq_true g
  rw [show wrapF .i64 (Int.ofNat i+1)= .ofNat (i+1) from wrap_i64 (x:=i+1) (by omega)]
  refine put_ok h5 (fun j ws2 H2 hj hjn h2 s2=>⟨_,rfl,?_⟩) fun hx _=>absurd ⟨Int.natCast_nonneg i,Int.ofNat_lt.2 g⟩ hx
  obtain rfl:=Int.ofNat.inj hj
  have:(fun q=>decide (q=i)||decide (q<i))=fun q:Nat=>decide (q<i+1):=by
   funext q
   rw [←Bool.decide_or]
   exact decide_eq_decide.2 (by omega)
  rw [this] at h2
  exact ⟨_,by omega,i+1,ws2,rfl,rfl,by omega,h2,st.then s2 fun q hq=>by omega⟩
 ·rw [ltI_nat] at g
  have g: ¬ i<n:=of_decide_eq_false g
  obtain rfl:i=n:=by omega
  exact k b c ws' H5 h5 hb hc st
end
end Go.Proofs.YtgfcgkbbmcgjmaaGreatDoor.Eng
