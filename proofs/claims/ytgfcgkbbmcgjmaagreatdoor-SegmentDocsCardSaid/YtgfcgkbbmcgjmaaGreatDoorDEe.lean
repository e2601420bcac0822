/- The engine, part Ee: an interpreter of the program's elaborated code over a heap of its own, and that what it answers the machine answers. -/
import Derived.Lib.Overlaps
import Derived.OpenShut
import Derived.Test.YtgfcgkbbmcgjmaaGreatDoorDEd
namespace Go.Proofs.YtgfcgkbbmcgjmaaGreatDoor.Eng
set_option linter.unusedVariables false
set_option linter.unusedSimpArgs false
def insertF (es bytes g r:Nat) (zero:List AV):IFn:=⟨(.seq (.reg [⟨(some 6),none, .move (.c .nils)⟩]) (.seq (.reg [⟨(some 10),none, .move (.t 0)⟩,⟨(some 11),none, .move (.t 1)⟩,⟨(some 12),none, .slice es (.t 10) (some (.t 11)) none none⟩]) (.seq (.reg [⟨(some 13),none, .move (.t 2)⟩,⟨(some 14),none, .len (.t 13)⟩,⟨(some 7),none, .move (.t 14)⟩]) (.seq (.seq (.reg [⟨(some 15),none, .move (.t 7)⟩,⟨(some 16),none, .bin .eql (.t 15) (.c (.int .i64 (.ofNat 0)))⟩]) (.cond (.t 16) (.seq (.reg [⟨(some 17),none, .move (.t 0)⟩,⟨(some 6),none, .move (.t 17)⟩]) .ret) .skip)) (.seq (.reg [⟨(some 18),none, .move (.t 0)⟩,⟨(some 19),none, .len (.t 18)⟩,⟨(some 8),none, .move (.t 19)⟩]) (.seq (.seq (.reg [⟨(some 20),none, .move (.t 1)⟩,⟨(some 21),none, .move (.t 8)⟩,⟨(some 22),none, .bin .eql (.t 20) (.t 21)⟩]) (.cond (.t 22) (.seq (.reg [⟨(some 23),none, .move (.t 0)⟩,⟨(some 24),none, .move (.t 2)⟩,⟨(some 25),none, .append es bytes (.t 23) (.t 24)⟩,⟨(some 6),none, .move (.t 25)⟩]) .ret) .skip)) (.seq (.seq (.reg [⟨(some 26),none, .move (.t 8)⟩,⟨(some 27),none, .move (.t 7)⟩,⟨(some 28),none, .bin .add (.t 26) (.t 27)⟩,⟨(some 29),none, .move (.t 0)⟩,⟨(some 30),none, .cap (.t 29)⟩,⟨(some 31),none, .bin .gtr (.t 28) (.t 30)⟩]) (.cond (.t 31) (.seq (.reg [⟨(some 32),none, .move (.t 0)⟩,⟨(some 33),none, .move (.t 1)⟩,⟨(some 34),none, .slice es (.t 32) none (some (.t 33)) none⟩,⟨(some 35),none, .move (.t 8)⟩,⟨(some 36),none, .move (.t 7)⟩,⟨(some 37),none, .bin .add (.t 35) (.t 36)⟩,⟨(some 38),none, .move (.t 1)⟩,⟨(some 39),none, .bin .sub (.t 37) (.t 38)⟩,⟨(some 40),none, .appendN es bytes zero (.t 34) (.t 39)⟩,⟨(some 9),none, .move (.t 40)⟩]) (.seq (.reg [⟨(some 41),none, .move (.t 9)⟩,⟨(some 42),none, .move (.t 1)⟩,⟨(some 43),none, .slice es (.t 41) (some (.t 42)) none none⟩,⟨(some 44),none, .move (.t 2)⟩,⟨(some 45),none, .copy es (.t 43) (.t 44)⟩]) (.seq (.draw 9 [(0,⟨(some 46),none, .move (.t 9)⟩, .pure),(1,⟨(some 47),none, .move (.t 1)⟩, .pure),(2,⟨(some 48),none, .move (.t 7)⟩, .pure),(3,⟨(some 49),none, .bin .add (.t 47) (.t 48)⟩, .pure),(4,⟨(some 50),none, .slice es (.t 46) (some (.t 49)) none none⟩, .pure),(5,⟨(some 51),none, .move (.t 0)⟩, .pure),(6,⟨(some 52),none, .move (.t 1)⟩, .pure),(7,⟨(some 53),none, .slice es (.t 51) (some (.t 52)) none none⟩, .pure),(8,⟨(some 54),none, .copy es (.t 50) (.t 53)⟩, .eff)]) (.seq (.reg [⟨(some 55),none, .move (.t 9)⟩,⟨(some 6),none, .move (.t 55)⟩]) .ret)))) .skip)) (.seq (.reg [⟨(some 56),none, .move (.t 0)⟩,⟨(some 57),none, .move (.t 8)⟩,⟨(some 58),none, .move (.t 7)⟩,⟨(some 59),none, .bin .add (.t 57) (.t 58)⟩,⟨(some 60),none, .slice es (.t 56) none (some (.t 59)) none⟩,⟨(some 0),none, .move (.t 60)⟩]) (.seq (.seq (.reg [⟨(some 61),none, .move (.t 2)⟩,⟨(some 62),none, .move (.t 0)⟩,⟨(some 63),none, .move (.t 1)⟩,⟨(some 64),none, .move (.t 7)⟩,⟨(some 65),none, .bin .add (.t 63) (.t 64)⟩,⟨(some 66),none, .slice es (.t 62) (some (.t 65)) none none⟩,⟨(some 67),none, .call g [(.t 61),(.t 66)]⟩,⟨(some 68),none, .un .not (.t 67)⟩]) (.cond (.t 68) (.seq (.draw 9 [(0,⟨(some 69),none, .move (.t 0)⟩, .pure),(1,⟨(some 70),none, .move (.t 1)⟩, .pure),(2,⟨(some 71),none, .move (.t 7)⟩, .pure),(3,⟨(some 72),none, .bin .add (.t 70) (.t 71)⟩, .pure),(4,⟨(some 73),none, .slice es (.t 69) (some (.t 72)) none none⟩, .pure),(5,⟨(some 74),none, .move (.t 0)⟩, .pure),(6,⟨(some 75),none, .move (.t 1)⟩, .pure),(7,⟨(some 76),none, .slice es (.t 74) (some (.t 75)) none none⟩, .pure),(8,⟨(some 77),none, .copy es (.t 73) (.t 76)⟩, .eff)]) (.seq (.reg [⟨(some 78),none, .move (.t 0)⟩,⟨(some 79),none, .move (.t 1)⟩,⟨(some 80),none, .slice es (.t 78) (some (.t 79)) none none⟩,⟨(some 81),none, .move (.t 2)⟩,⟨(some 82),none, .copy es (.t 80) (.t 81)⟩]) (.seq (.reg [⟨(some 83),none, .move (.t 0)⟩,⟨(some 6),none, .move (.t 83)⟩]) .ret))) .skip)) (.seq (.reg [⟨(some 84),none, .move (.t 0)⟩,⟨(some 85),none, .move (.t 8)⟩,⟨(some 86),none, .slice es (.t 84) (some (.t 85)) none none⟩,⟨(some 87),none, .move (.t 2)⟩,⟨(some 88),none, .copy es (.t 86) (.t 87)⟩]) (.seq (.reg [⟨(some 89),none, .move (.t 0)⟩,⟨(some 90),none, .move (.t 1)⟩,⟨(some 91),none, .slice es (.t 89) (some (.t 90)) none none⟩,⟨(some 92),none, .move (.t 7)⟩,⟨(some 93),none, .call r [(.t 91),(.t 92)]⟩]) (.seq (.reg [⟨(some 94),none, .move (.t 0)⟩,⟨(some 6),none, .move (.t 94)⟩]) .ret)))))))))))),[.t 6]⟩
section
variable {es bytes g r:Nat} {zero:List AV} {call:Cl} {k:Nat} {H:Hp}
theorem beqF {a b:Nat} (h:a≠b):Nat.beq a b=false:=by
 cases e:Nat.beq a b with
 | false=>rfl
 | true=>exact absurd (Nat.eq_of_beq_eq_true e) h
theorem sbleT {a b:Nat} (h:a≤b):Nat.ble a b=true:=Nat.ble_eq_true_of_le h
theorem bleF {a b:Nat} (h: ¬ a≤b):Nat.ble a b=false:=by
 cases e:Nat.ble a b with
 | false=>rfl
 | true=>exact absurd (Nat.le_of_ble_eq_true e) h
theorem sbltT {a b:Nat} (h:a<b):Nat.blt a b=true:=Nat.ble_eq_true_of_le h
theorem bltF {a b:Nat} (h: ¬ a<b):Nat.blt a b=false:=bleF h
theorem addI {a b:Nat} (h:a+b<9223372036854775808):wrapF .i64 (Int.ofNat a+Int.ofNat b)= .ofNat (a+b):=by
 show wrapF .i64 (.ofNat (a+b))=_
 unfold wrapF
 have:Nat.blt (a+b) (top .i64)=true:=sbltT h
 simp only [this]
theorem subI {a b:Nat} (hb:b≤a) (h:a<9223372036854775808):wrapF .i64 (Int.ofNat a-Int.ofNat b)= .ofNat (a-b):=by
 have e:Int.ofNat a-Int.ofNat b=Int.ofNat (a-b):=by simp only [Int.ofNat_eq_natCast];omega
 rw [e]
 unfold wrapF
 have:Nat.blt (a-b) (top .i64)=true:=sbltT (Nat.lt_of_le_of_lt (Nat.sub_le a b) h)
 simp only [this]
theorem minN_l {a b:Nat} (h:a≤b):minN a b=a:=by unfold minN;rw [sbleT h]
theorem minN_r {a b:Nat} (h:b≤a):minN a b=b:=by
 unfold minN
 cases e:Nat.ble a b with
 | true=>exact Nat.le_antisymm (Nat.le_of_ble_eq_true e) h
 | false=>rfl
theorem sds_pure {base i:Nat} {d:Option Nat} {kk:IK} {s:DSt}:drawStep call base i ⟨d,none,kk⟩ .pure s=(match ikRun s.T s.H kk with
 | some (v,_)=>some { s with T:=put s.T d v }
 | none=>none):=rfl
theorem sds_eff {base i:Nat} {d:Option Nat} {kk:IK} {s:DSt}:drawStep call base i ⟨d,none,kk⟩ .eff s=(match ikStep call s.T s.H kk with
 | some (v,H')=>match rereads H' (s.k+1) s.recs with
  | true=>some { s with T:=put s.T d v,H:=H',k:=s.k+1,snaps:=H'::s.snaps }
  | false=>none
 | none=>none):=rfl
theorem insert_run1 {b o n c:Nat} {ex:Bool} {b2 o2 m c2:Nat} {ex2:Bool} (hm:m≠0) {new:List AV} (hf:firsts H es m (.slice b2 o2 m c2 ex2)=some new) {v':AV} {H':Hp} (ha:append es bytes H (.slice b o n c ex) new m=some (v',H')):(insertF es bytes g r zero).run call k [.slice b o n c ex, .int .i64 (.ofNat n), .slice b2 o2 m c2 ex2] H=some (v',H'):=by
 have hi2:=sbleT (Nat.le_refl n)
 have hm2:=beqF hm
 simp only [insertF,IFn.run,IC.run,regRun,wants,ikStep,ikRun,Opd.ev,evo,evs,put,Tr.get_set,Tr.ofList,Tr.get_lf,reduceIte,cut,bounds,bound,bin,binI,hi2,hm2,Nat.reduceEqDiff,Nat.reduceAdd,resOf,Eng.one,eqI,Nat.beq_refl,lenV,hf,ha]
theorem insert_run1n {b2 o2 m c2:Nat} {ex2:Bool} (hm:m≠0) {new:List AV} (hf:firsts H es m (.slice b2 o2 m c2 ex2)=some new) {v':AV} {H':Hp} (ha:append es bytes H .nils new m=some (v',H')):(insertF es bytes g r zero).run call k [.nils, .int .i64 (.ofNat 0), .slice b2 o2 m c2 ex2] H=some (v',H'):=by
 have hm2:=beqF hm
 have h0:Nat.ble 0 0=true:=rfl
 simp only [insertF,IFn.run,IC.run,regRun,wants,ikStep,ikRun,Opd.ev,evo,evs,put,Tr.get_set,Tr.ofList,Tr.get_lf,reduceIte,cut,bounds,bound,bin,binI,h0,hm2,Nat.reduceEqDiff,Nat.reduceAdd,resOf,Eng.one,eqI,Nat.beq_refl,lenV,hf,ha]
theorem insert_run2 {b n c i:Nat} {b2 o2 m c2:Nat} {ex2:Bool} (hm:m≠0) (hi:i<n) (hc:c<n+m) (hnc:n≤c) (hlim:n+m<9223372036854775808) (hr:(n+m-i)≤room∧(n+m-i)*bytes≤room)
  {x:Nat} {H1 H2 H3:Hp} (h1:append es bytes H (.slice b 0 i c true) (repV zero (n+m-i)) (n+m-i)=some (.slice x 0 (n+m) (n+m) false,H1)) {vc tc:List AV}
  (h2:firsts H1 es m (.slice b2 o2 m c2 ex2)=some vc) (h3:H1.store x (0+i*es) vc=some H2) (h4:firsts { H2 with nx:=H2.nx+9 } es (n-i) (.slice b (0+i*es) (n-i) (c-i) true)=some tc)
  (h5:({ H2 with nx:=H2.nx+9 }:Hp).store x (0+(i+m)*es) tc=some H3):
  (insertF es bytes g r zero).run call k [.slice b 0 n c true, .int .i64 (.ofNat i), .slice b2 o2 m c2 ex2] H=some (.slice x 0 (n+m) (n+m) false,H3):=by
 have hi2:=sbleT (Nat.le_of_lt hi)
 have hm2:=beqF hm
 have hin:=beqF (Nat.ne_of_lt hi)
 have e1:=addI hlim
 have e2:=sbltT hc
 have e3:=subI (a:=n+m) (b:=i) (by omega) hlim
 have e4:=addI (a:=i) (b:=m) (by omega)
 have e5:Nat.ble i c=true:=sbleT (by omega)
 have e6:=sbleT hr.1
 have e7:=sbleT hr.2
 have e8:Nat.ble i (n+m)=true:=sbleT (by omega)
 have e9:Nat.ble (i+m) (n+m)=true:=sbleT (by omega)
 have f1:minN m (n+m-i)=m:=minN_l (by omega)
 have f2:minN (n-i) (n+m-(i+m))=n-i:=minN_l (by omega)
 have f3:Nat.ble 0 i=true:=rfl
 simp only [insertF,IFn.run,IC.run,regRun,drawRun,sds_pure,sds_eff,wants,ikStep,ikRun,Opd.ev,evo,evs,put,Tr.get_set,Tr.ofList,Tr.get_lf,reduceIte,cut,bounds,bound,bin,binI,hi2,hm2,hin,e1,e2,e3,e4,e5,e6,e7,e8,e9,f1,f2,f3,Nat.reduceEqDiff,Nat.reduceAdd,resOf,Eng.one,eqI,ltI,Nat.beq_refl,lenV,h1,h2,h3,h4,h5,rereads,Nat.zero_mul,Nat.add_zero,Nat.sub_zero,Bool.or_false,Bool.or_true,Bool.and_self,Option.isSome,top]
theorem insert_run3 {b n c i:Nat} {b2 o2 m c2:Nat} {ex2:Bool} (hm:m≠0) (hi:i<n) (hc:n+m≤c) (hlim:n+m<9223372036854775808)
  (hg:call.fn g [.slice b2 o2 m c2 ex2, .slice b (0+(i+m)*es) (n+m-(i+m)) (c-(i+m)) true] H=some (.bool false,H)) {H2 H3:Hp} {vc tc:List AV}
  (h2:firsts { H with nx:=H.nx+9 } es (n-i) (.slice b (0+i*es) (n+m-i) (c-i) true)=some tc) (h3:({ H with nx:=H.nx+9 }:Hp).store b (0+(i+m)*es) tc=some H2)
  (h4:firsts H2 es m (.slice b2 o2 m c2 ex2)=some vc) (h5:H2.store b (0+i*es) vc=some H3):
  (insertF es bytes g r zero).run call k [.slice b 0 n c true, .int .i64 (.ofNat i), .slice b2 o2 m c2 ex2] H=some (.slice b 0 (n+m) c true,H3):=by
 have hi2:=sbleT (Nat.le_of_lt hi)
 have hm2:=beqF hm
 have hin:=beqF (Nat.ne_of_lt hi)
 have e1:=addI hlim
 have e2:=bltF (a:=c) (b:=n+m) (by omega)
 have e4:=addI (a:=i) (b:=m) (by omega)
 have e5:Nat.ble (n+m) c=true:=sbleT hc
 have e8:Nat.ble i (n+m)=true:=sbleT (by omega)
 have e9:Nat.ble (i+m) (n+m)=true:=sbleT (by omega)
 have f1:minN m (n+m-i)=m:=minN_l (by omega)
 have f2:minN (n+m-i) (n+m-(i+m))=n-i:=by rw [minN_r (by omega)];omega
 have f3:Nat.ble 0 (n+m)=true:=rfl
 simp only [insertF,IFn.run,IC.run,regRun,drawRun,sds_pure,sds_eff,wants,ikStep,ikRun,Opd.ev,evo,evs,put,Tr.get_set,Tr.ofList,Tr.get_lf,reduceIte,cut,bounds,bound,bin,binI,un,hi2,hm2,hin,e1,e2,e4,e5,e8,e9,f1,f2,f3,Nat.reduceEqDiff,Nat.reduceAdd,resOf,Eng.one,eqI,ltI,Nat.beq_refl,lenV,hg,h2,h3,h4,h5,rereads,Nat.zero_mul,Nat.add_zero,Nat.sub_zero,Bool.or_false,Bool.or_true,Bool.true_or,Bool.not_false,Option.isSome,top]
end
def ovA (g:Nat):Ans:=fun f args H=>match Nat.beq f g with
 | false=>none
 | true=>match args with
  | [.slice b2 _ _ _ _, .slice b _ _ _ _]=>match H.m.get b2,H.m.get b with
   | some bl2,some bl=>match !(Nat.beq b2 b)&&(bl2.rw&&(!(Nat.beq (sz bl2.es) 1)&& !(Nat.beq bl.cells.length 0))) with
    | true=>some (.bool false,H)
    | false=>none
   | _,_=>none
  | _=>none
section
variable {P:Program} {G:Gp} {σ:Sg} {H:Hp} {w:World}
theorem shape_at {w:World} {b:Nat} {cs:Array Value} {ty:TypeId} {fr:Nat × Nat} (h:w.heap[b]? =some (.cells cs ty fr)):w.shape? b=some (ty,cs.size):=by
 unfold World.shape?;simp only [h]
theorem ov_ok {g size:Nat} {tS tR e:TypeId} (ht:P.underlying tS=some (.slice e)) (hz: ∀ w,(Go.sizeOf e).run P w= .ok size w)
  (hov: ∀ (args:Array Value) (w:World) (v:Value),(Extern.SlicesOverlaps.overlaps #[tS,tS] #[tR] args).run P w= .ok v w→(callFunc g args).run P w= .ok (.value v) w):CallOK P (ovA g):=by
 intro f args H v H' h σ w vs hR hv
 unfold ovA at h
 split at h
 ·cases h
 ·rename_i hf
  obtain rfl:=Tr.beq_t hf
  split at h
  ·rename_i b2 o2 n2 c2 x2 b o n c x
   split at h
   ·rename_i bl2 bl e2 e1
    split at h
    ·rename_i hq
     simp only [Option.some.injEq,Prod.mk.injEq] at h
     obtain ⟨rfl,rfl⟩:=h
     simp only [Bool.and_eq_true,Bool.not_eq_true'] at hq
     obtain ⟨q1,q2,q3,q4⟩:=hq
     have q1:=Tr.beq_f q1
     have q3:=Tr.beq_f q3
     have q4:=Tr.beq_f q4
     obtain ⟨v1,r1,hr1,hv1,hvr⟩: ∃ v1 r1,vs.toList=v1::r1∧VR σ (.slice b2 o2 n2 c2 x2) v1∧VRs σ [.slice b o n c x] r1:=by
      generalize vs.toList=l at hv
      cases hv with | cons h t=>exact ⟨_,_,rfl,h,t⟩
     obtain ⟨v2,rfl,hv2⟩:=hvr.one_inv
     have hvs:vs= #[v1,v2]:=Array.ext' hr1
     subst hvs
     cases hv1 with
     | slice _ _ _ _ _ l2 off2 cap2 s2 _ _ _=>
      cases hv2 with
      | slice _ _ _ _ _ l off cap s1 _ _ _=>
       obtain ⟨l2',ca,ta,fa,g1,g2,g3,g4,g5,g6⟩:=hR.blk b2 bl2 e2
       rw [s2] at g1
       obtain rfl:=Option.some.inj g1
       obtain ⟨l',cb,tb,fb,k1,k2,k3,k4,k5,k6⟩:=hR.blk b bl e1
       rw [s1] at k1
       obtain rfl:=Option.some.inj k1
       refine .inr ⟨.bool false,w,hov _ _ _ ?_,σ,_,rfl, .bool false,hR,Fr.refl _ _ _⟩
       refine Go.Lib.run_overlaps_apart w tS tR e ht size hz ⟨l2.blk,off2,none⟩ ⟨l.blk,off,none⟩ n2 cap2 n cap (fun q=>q1 (hR.inj b2 b bl2 bl l2 l e2 e1 s2 s1 q q2)) ta tb ca.size cb.size (shape_at g2) (shape_at k2) (by omega) (froz_at g2 (g6.1 q2 q3 _)) (froz_at g2 (g6.1 q2 q3 _))
    ·cases h
   ·cases h
  ·cases h
theorem over_eq: ∀ (cs:List AV) (o:Nat) (vs:List AV),o+vs.length≤cs.length→over cs o vs=some (cs.take o++(vs++cs.drop (o+vs.length)))
 | cs,0,[],_=>by cases cs <;> simp [over]
 | [],o+1,vs,h=>by simp at h
 | cs,o+1,[],h=>by
  cases cs with
  | nil=>simp at h
  | cons c cs=>simp [over]
 | [],0,v::vs,h=>by simp at h
 | c::cs,0,v::vs,h=>by
  rw [over,over_eq cs 0 vs (by simp at h ⊢; omega)]
  simp
 | c::cs,o+1,v::vs,h=>by
  rw [over,over_eq cs o (v::vs) (by simp at h ⊢; omega)]
  simp only [List.take_succ_cons,List.cons_append,List.length_cons,Option.some.injEq,List.cons.injEq,true_and]
  rw [show o+1+(vs.length+1)=(o+(vs.length+1))+1 by omega,List.drop_succ_cons]
theorem scAll_of: ∀ {l:List AV},(∀ a∈l,a.sc=true)→scAll l=true
 | [],_=>rfl
 | a::l,h=>by
  rw [scAll,h a (by simp)]
  exact scAll_of fun x hx=>h x (by simp [hx])
theorem okNew_of {es:Nat} {l:List AV} (h:es<esU) (hl:scAll l=true):okNew es l=true:=by
 unfold okNew
 rw [hl,show Nat.blt es esU=true from sbltT h]
 rfl
theorem stakeC_of: ∀ (l:List AV) (n:Nat),n≤l.length→(∀ a∈l.take n,a.sc=true)→takeC l n=some (l.take n)
 | l,0,_,_=>by cases l <;> simp [takeC]
 | [],n+1,h,_=>by simp at h
 | a::l,n+1,h,hs=>by
  rw [takeC,hs a (by simp)]
  simp only
  rw [stakeC_of l n (by simpa using h) fun x hx=>hs x (by simp [hx])]
  simp
theorem Hp.load_of {b o n:Nat} {bl:Blk} {l:List AV} (hb:H.m.get b=some bl) (hl:(bl.cells.drop o).take n=l) (hn:l.length=n) (hs: ∀ a∈l,a.sc=true):H.load b o n=some l:=by
 unfold Hp.load
 rw [hb]
 simp only
 rw [dropN_eq,stakeC_of _ _ (by rw [←hn, ←hl,List.length_take];omega) (by rw [hl];exact hs),hl]
theorem Hp.store_of {b o:Nat} {bl:Blk} {vs r:List AV} (hb:H.m.get b=some bl) (hrw:bl.rw=true) (hs: ∀ a∈vs,a.sc=true) (hr:over bl.cells o vs=some r):H.store b o vs=some { H with m:=H.m.set b (some { bl with cells:=r }) }:=by
 unfold Hp.store
 rw [hb]
 simp only
 rw [hrw,scAll_of hs]
 simp only [Bool.and_self]
 rw [hr]
theorem load_same {H2:Hp} {b o n:Nat} (h:H2.m.get b=H.m.get b):H2.load b o n=H.load b o n:=by
 unfold Hp.load;rw [h]
theorem firsts_same {H2:Hp} {es n b o ln c:Nat} {ex:Bool} (h:H2.m.get b=H.m.get b):firsts H2 es n (.slice b o ln c ex)=firsts H es n (.slice b o ln c ex):=by
 unfold firsts
 simp only [load_same h]
theorem take_over (hR:Rel G σ H w) {y ln cY es:Nat} {exY:Bool} {C R:List AV} (hb:H.m.get y=some ⟨C++R,es,true⟩) (hC:C.length=ln*es) (hR2:(C++R).length=cY*es) (hes:1<es) (hes2:es<esU) (hle:ln≤cY) {v:Value} (hv:VR σ (.slice y 0 ln cY exY) v):
  ∃ σ',VR σ' (.slice H.nx 0 ln ln false) v∧Rel G σ' ((H.kill y).new C es) w∧Fr σ H w σ' ((H.kill y).new C es) w:=by
 cases hv with
 | slice _ _ _ _ _ l off' cap' hσ hc ho hl=>
  obtain ⟨l',cs,ty,fr,g1,g2,g3,g4,g5,g6⟩:=hR.blk y _ hb
  rw [hσ] at g1
  obtain rfl:=Option.some.inj g1
  simp only at g3 g4
  rw [hR2,sz_lt hes2] at g3
  have hcap:ln≤cap':=by rw [hc];split <;> omega
  have hcm:cap'*es≤cY*es+l.room*es:=by
   rw [hc, ←Nat.add_mul]
   exact Nat.mul_le_mul_right _ (by split <;> omega)
  have hsub:=Nat.sub_mul cap' ln es
  have hm1:ln*es≤cap'*es:=Nat.mul_le_mul_right _ hcap
  obtain ⟨m1,m2⟩:=hR.move hb rfl hσ (w':=w) g2 (fun _ _=>rfl) rfl rfl rfl rfl (cells:=C) (es:=es) (off:=l.off) (room:=cap'-ln) (by rw [hC,sz_lt hes2,hsub];omega) (fun j a ha hs=>by
   have hj:=(List.getElem?_eq_some_iff.1 ha).1
   exact g4 j a (by rw [List.getElem?_append_left hj];exact ha) hs) (g5 rfl) (g6.1 rfl) (fun t=>EsA.ne (.inl rfl) hes2) (fun q=>absurd q (Nat.ne_of_lt hes2))
  refine ⟨_, .slice _ 0 _ _ false ⟨l.blk,l.off,cap'-ln⟩ off' cap' (up_same _ _) (by simp;omega) (fun h=>?_) (Nat.le_refl _),m1,m2⟩
  have:=ho h
  simpa using this
end
theorem ins_grow {α:Type} {A Z new D:List α} {a mm d:Nat} (hA:A.length=a) (hn:new.length=mm) (hd:D.length=d) (hZ:Z.length=mm+d):
  ((A++Z).take a++(new++(A++Z).drop (a+mm))).take (a+mm)++(D++((A++Z).take a++(new++(A++Z).drop (a+mm))).drop (a+mm+d))=A++(new++D):=by
 have h1:(A++Z).take a=A:=by rw [←hA];exact List.take_left
 rw [h1]
 have h2:(A++(new++(A++Z).drop (a+mm))).take (a+mm)=A++new:=by
  rw [←List.append_assoc]
  exact List.take_left' (by simp [hA,hn])
 have h3:(A++(new++(A++Z).drop (a+mm))).drop (a+mm+d)=[]:=by
  apply List.drop_eq_nil_of_le
  simp only [List.length_append,List.length_drop,hA,hn,hZ]
  omega
 rw [h2,h3]
 simp
theorem ins_place {α:Type} {X new D:List α} {a mm d:Nat} (hX:a+mm+d≤X.length):
  (X.take (a+mm)++(D++X.drop (a+mm+d))).take a++(new++(X.take (a+mm)++(D++X.drop (a+mm+d))).drop (a+mm))=(X.take a++(new++D))++X.drop (a+mm+d):=by
 have hl:(X.take (a+mm)).length=a+mm:=by rw [List.length_take];omega
 have h1:(X.take (a+mm)++(D++X.drop (a+mm+d))).take a=X.take a:=by
  rw [List.take_append_of_le_length (by omega),List.take_take,Nat.min_eq_left (by omega)]
 have h2:(X.take (a+mm)++(D++X.drop (a+mm+d))).drop (a+mm)=D++X.drop (a+mm+d):=List.drop_left' hl
 rw [h1,h2]
 simp
section
variable {P:Program} {σ:Sg} {H:Hp} {w:World}
theorem Fr.nx_up {σ':Sg} {H':Hp} {w':World} (h:Fr σ H w σ' H' w') {n:Nat} (hn:H'.nx≤n):Fr σ H w σ' { H' with nx:=n } w':=
 ⟨h.ext,h.os,h.tape,h.output,h.size,h.keep,h.own,Nat.le_trans h.nx hn,h.dom,h.ro⟩
theorem Rel.dead {G:Gp} (h:Rel G σ H w) {j:Nat} (hj:H.nx≤j):H.m.get j=none:=by
 cases e:H.m.get j with
 | none=>rfl
 | some bl=>
  obtain ⟨l,_,_,_,g,_⟩:=h.blk _ _ e
  have:=h.lt _ _ g
  omega
theorem Rel.live {G:Gp} (h:Rel G σ H w) {j:Nat} {bl:Blk} (hj:H.m.get j=some bl):j<H.nx:=by
 obtain ⟨l,_,_,_,g,_⟩:=h.blk _ _ hj
 exact h.lt _ _ g
theorem VRs.three {a b c:AV} {vs:List Value} (h:VRs σ [a,b,c] vs): ∃ x y z,vs=[x,y,z]∧VR σ a x∧VR σ b y∧VR σ c z:=by
 cases h with
 | cons h1 t=>cases t with
  | cons h2 t=>cases t with
   | cons h3 t=>cases t with
    | nil=>exact ⟨_,_,_,rfl,h1,h2,h3⟩
theorem VRs.three_of {a b c:AV} {x y z:Value} (h1:VR σ a x) (h2:VR σ b y) (h3:VR σ c z):VRs σ [a,b,c] [x,y,z]:= .cons h1 (.cons h2 (.cons h3 .nil))
theorem insert_ok (hm:P.follows .mixedOrders=true) {f g r es bytes size:Nat} {zero:List AV} (hz0:zero.length=es) (hzs: ∀ a∈zero,a.sc=true)
  {tS tR e:TypeId} (ht:P.underlying tS=some (.slice e)) (hz: ∀ w,(Go.sizeOf e).run P w= .ok size w)
  (hov: ∀ (args:Array Value) (w:World) (v:Value),(Extern.SlicesOverlaps.overlaps #[tS,tS] #[tR] args).run P w= .ok v w→(callFunc g args).run P w= .ok (.value v) w)
  (hF:cFn P f=some (insertF es bytes g r zero)) (args:List AV) (H:Hp) (v:AV) (H':Hp) (h:insertA es bytes args H=some (v,H')) (σ:Sg) (w:World) (vs:Array Value) (hR:Rel (gp P) σ H w) (hv:VRs σ args vs.toList):CallR P f vs w (End P σ H w v H'):=by
 have hrun: ∀ (args:List AV) (H:Hp) (v:AV) (H':Hp),(insertF es bytes g r zero).run ⟨ovA g,noAns,noIt⟩ 0 args H=some (v,H')→ ∀ (σ:Sg) (w:World) (vs:Array Value),Rel (gp P) σ H w→VRs σ args vs.toList→Ent P f∧Calls P f vs w (End P σ H w v H'):=by
  intro args H v H' hr σ w vs hR hv
  obtain ⟨g1,g2⟩:=fn_ok (call:=⟨ovA g,noAns,noIt⟩) (kept_true _) (ov_ok ht hz hov) (yl_no _ _ _) (it_no P) (fun nt=>draw_ok hm) hF hr
  exact ⟨g1,g2 σ w vs hR trivial hv⟩
 have fin: ∀ {args:List AV} {H:Hp} {v:AV} {H':Hp},(insertF es bytes g r zero).run ⟨ovA g,noAns,noIt⟩ 0 args H=some (v,H')→ ∀ (σ:Sg) (w:World) (vs:Array Value),Rel (gp P) σ H w→VRs σ args vs.toList→CallR P f vs w (End P σ H w v H'):=fun hr σ w vs hR hv=>
  let ⟨a,b⟩:=hrun _ _ _ _ hr σ w vs hR hv
  .inl ⟨a _ _,b⟩
 unfold insertA at h
 split at h
 ·rename_i s i b2 o2 m c2 ex2
  split at h
  ·rename_i new hm0 hf
   have hm0:=Tr.beq_f hm0
   split at h
   ·-- nil
    split at h
    ·rename_i hi
     obtain rfl:=Tr.beq_t hi
     exact fin (insert_run1n hm0 hf h) σ w vs hR hv
    ·cases h
   ·rename_i b o n c ex
    split at h
    ·rename_i hi
     obtain rfl:=Tr.beq_t hi
     exact fin (insert_run1 hm0 hf h) σ w vs hR hv
    ·split at h
     ·rename_i bl bl2 old e1 e2 e3
      split at h
      ·rename_i hq
       split at h
       ·rename_i A hA
        simp only [Option.some.injEq,Prod.mk.injEq] at h
        obtain ⟨rfl,rfl⟩:=h
        simp only [insChk,Bool.and_eq_true,Bool.not_eq_true'] at hq
        obtain ⟨q1,q2,q3,q4,q5,q6,q7,q8,q9,q10,q11,q12,q13,q14⟩:=hq
        obtain rfl:=Tr.beq_t q2
        obtain rfl:=(Tr.beq_t q3).symm
        have q4:i<n:=Nat.le_of_ble_eq_true q4
        have q6:=Tr.beq_t q6
        have q8:=Tr.beq_t q8
        have q9:=Tr.beq_f q9
        have q10:=Tr.beq_t q10
        have q11:=Nat.le_of_ble_eq_true q11
        have q12:=Nat.le_of_ble_eq_true q12
        have q13:1<es:=Nat.le_of_ble_eq_true q13
        have q14:es<esU:=Nat.le_of_ble_eq_true q14
        subst q1
        -- sizes
        have hroom:room=70368744177664:=rfl
        have mi:=Nat.mul_le_mul_right es (Nat.le_of_lt q4)
        have a1:n*es=i*es+(n-i)*es:=by rw [←Nat.add_mul];congr 1;omega
        have a2:=Nat.add_mul i m es
        have a3:=Nat.add_mul n m es
        have a4:(n+m-i)*es=m*es+(n-i)*es:=by rw [←Nat.add_mul];congr 1;omega
        have hold:old=bl.cells:=by
         obtain ⟨bl',k1,k2,k3⟩:=Hp.load_eq e3
         rw [e1] at k1
         obtain rfl:=Option.some.inj k1
         rw [k2,List.drop_zero, ←q10,List.take_length]
        have hol:old.length=n*es:=by rw [hold,q10]
        have hos:=Hp.load_sc e3
        have hA2:A=old.take (i*es):=by
         rw [takeN_eq,if_pos (by omega)] at hA
         exact (Option.some.inj hA).symm
        rw [dropN_eq]
        have hAl:A.length=i*es:=by rw [hA2,List.length_take];omega
        have hDl:(old.drop (i*es)).length=(n-i)*es:=by rw [List.length_drop];omega
        have hDs: ∀ a∈old.drop (i*es),a.sc=true:=fun a ha=>hos a (List.mem_of_mem_drop ha)
        have hAs: ∀ a∈A,a.sc=true:=fun a ha=>hos a (by rw [hA2] at ha;exact List.mem_of_mem_take ha)
        have hfl:H.load b2 o2 (m*es)=some new:=by
         unfold firsts at hf
         simp only [beqF hm0] at hf
         exact hf
        have hnl:new.length=m*es:=by
         obtain ⟨bl',k1,k2,k3⟩:=Hp.load_eq hfl
         rw [k2,List.length_take];omega
        have hns:=Hp.load_sc hfl
        have hbx:=hR.live e1
        have hb2x:=hR.live e2
        -- the arguments
        obtain ⟨vs0,vi,vv,hvs,hv0,hvi,hvv⟩:=hv.three
        cases hv0 with
        | slice _ _ _ _ _ l off' cap' hσ hc ho hl=>
         simp only [Bool.false_eq_true,if_false] at hc
         obtain ⟨l',vc,ty,fr,g1,g2,g3,g4,g5,g6⟩:=hR.blk b bl e1
         rw [hσ] at g1
         obtain rfl:=Option.some.inj g1
         rw [q6,q10,sz_lt q14] at g3
         obtain ⟨J,hJ⟩: ∃ J:List AV,J=List.replicate (l.room*es) (AV.tup []):=⟨_,rfl⟩
         have hJl:J.length=l.room*es:=by rw [hJ,List.length_replicate]
         obtain ⟨m1,m2⟩:=hR.move e1 q5 hσ (w':=w) g2 (fun _ _=>rfl) rfl rfl rfl rfl (cells:=old++J) (es:=es) (off:=l.off) (room:=0) (by rw [List.length_append,hol,hJl];omega) (fun j a ha hs=>by
          by_cases hj:j<old.length
          ·rw [List.getElem?_append_left hj,hold] at ha
           exact g4 j a ha hs
          ·rw [List.getElem?_append_right (by omega),hJ] at ha
           have:=List.mem_of_getElem? ha
           rw [List.mem_replicate] at this
           rw [this.2] at hs
           cases hs) (g5 q5) (by rw [←q6];exact g6.1 q5) (fun t=>EsA.ne (.inl rfl) q14) (fun q=>g6.2.2 q5 (q6.trans q))
         obtain ⟨H1,hH1⟩: ∃ H1,(H.kill b).new (old++J) es=H1:=⟨_,rfl⟩
         obtain ⟨σ1,hσ1⟩: ∃ σ1,up σ H.nx ⟨l.blk,l.off,0⟩=σ1:=⟨_,rfl⟩
         rw [hH1,hσ1] at m1 m2
         have hget: ∀ j,H1.m.get j=if j=H.nx then some ⟨old++J,es,true⟩ else if j=b then none else H.m.get j:=fun j=>by
          rw [←hH1]
          show ((H.m.set b none).set H.nx _).get j=_
          rw [Tr.get_set,Tr.get_set]
         have hnx1:H1.nx=H.nx+1:=by rw [←hH1];rfl
         have hgx:H1.m.get H.nx=some ⟨old++J,es,true⟩:=by rw [hget,if_pos rfl]
         have hg2:H1.m.get b2=some bl2:=by rw [hget,if_neg (by omega),if_neg (fun q=>q9 q.symm)];exact e2
         have hargs:VRs σ1 [.slice H.nx 0 n (n+l.room) true, .int .i64 (.ofNat i), .slice b2 o2 m c2 ex2] vs.toList:=by
          rw [hvs]
          refine VRs.three_of ?_ (hvi.mono m2.ext) (hvv.mono m2.ext)
          exact .slice _ _ _ _ _ ⟨l.blk,l.off,0⟩ off' cap' (by rw [←hσ1];exact up_same _ _) (by simp [hc]) (fun q=>ho q) (by omega)
         have hH'get: ∀ j,((H.m.set b none).set (H.nx+11) (some ⟨A++(new++old.drop (i*es)),es,true⟩)).get j=if j=H.nx+11 then some ⟨A++(new++old.drop (i*es)),es,true⟩ else if j=b then none else H.m.get j:=fun j=>by
          rw [Tr.get_set,Tr.get_set]
         have hfirstD: ∀ (H2:Hp) (ln cp:Nat),H2.m.get H.nx=some ⟨old++J,es,true⟩→firsts H2 es (n-i) (.slice H.nx (0+i*es) ln cp true)=some (old.drop (i*es)):=fun H2 ln cp hg=>by
          unfold firsts
          simp only [beqF (show n-i≠0 by omega)]
          refine Hp.load_of hg ?_ hDl hDs
          simp only [Nat.zero_add]
          rw [List.drop_append_of_le_length (by omega), ←hDl]
          exact List.take_left
         by_cases hrm:l.room<m
         ·-- a new row
          have hZl:(repV zero (n+m-i)).length=(n+m-i)*es:=by rw [repV_length,hz0]
          have hZs: ∀ a∈repV zero (n+m-i),a.sc=true:=repV_sc hzs _
          have hk:i+(n+m-i)=n+m:=by omega
          obtain ⟨H2,hH2⟩: ∃ H2,H1.new (A++repV zero (n+m-i)) es=H2:=⟨_,rfl⟩
          have hget2: ∀ j,H2.m.get j=if j=H.nx+1 then some ⟨A++repV zero (n+m-i),es,true⟩ else H1.m.get j:=fun j=>by
           rw [←hH2]
           show (H1.m.set H1.nx _).get j=_
           rw [Tr.get_set,hnx1]
          have h1:append es bytes H1 (.slice H.nx 0 i (n+l.room) true) (repV zero (n+m-i)) (n+m-i)=some (.slice (H.nx+1) 0 (n+m) (n+m) false,H2):=by
           have hfA:firsts H1 es i (.slice H.nx 0 i (n+l.room) true)=some A:=by
            unfold firsts
            simp only
            split
            ·rename_i q
             obtain rfl:=Tr.beq_t q
             rw [hA2];simp
            ·refine Hp.load_of hgx ?_ hAl hAs
             simp only [List.drop_zero]
             rw [List.take_append_of_le_length (by omega),hA2]
           unfold append
           simp only [hk,bleF (show ¬ (n+m≤n+l.room) by omega),sbleT q11,okNew_of q14 (scAll_of hZs),hfA,Bool.and_self,rowE_ne q13]
           rw [hH2,hnx1]
          have h2:firsts H2 es m (.slice b2 o2 m c2 ex2)=some new:=by
           rw [firsts_same (H:=H) (by rw [hget2,if_neg (by omega),hg2,e2])];exact hf
          have hov3:=over_eq (A++repV zero (n+m-i)) (0+i*es) new (by rw [List.length_append,hAl,hZl,hnl];omega)
          have h3:=Hp.store_of (H:=H2) (b:=H.nx+1) (o:=0+i*es) (vs:=new) (by rw [hget2,if_pos rfl]) rfl hns hov3
          obtain ⟨H3,hH3⟩: ∃ H3:Hp,{ H2 with m:=H2.m.set (H.nx+1) (some { cells:=(A++repV zero (n+m-i)).take (0+i*es)++(new++(A++repV zero (n+m-i)).drop (0+i*es+new.length)),es:=es,rw:=true }) }=H3:=⟨_,rfl⟩
          rw [hH3] at h3
          have hget3: ∀ j,H3.m.get j=if j=H.nx+1 then some ⟨(A++repV zero (n+m-i)).take (0+i*es)++(new++(A++repV zero (n+m-i)).drop (0+i*es+new.length)),es,true⟩ else H1.m.get j:=fun j=>by
           rw [←hH3]
           show (H2.m.set (H.nx+1) _).get j=_
           rw [Tr.get_set]
           by_cases q:j=H.nx+1
           ·rw [if_pos q,if_pos q]
           ·rw [if_neg q,if_neg q,hget2,if_neg q]
          have hnx3:H3.nx=H.nx+2:=by rw [←hH3];show H2.nx=_;rw [←hH2];show H1.nx+1=_;rw [hnx1]
          have h4:=hfirstD { H3 with nx:=H3.nx+9 } (n-i) (n+l.room-i) (by show H3.m.get H.nx=_;rw [hget3,if_neg (by omega)];exact hgx)
          have hov5:=over_eq ((A++repV zero (n+m-i)).take (0+i*es)++(new++(A++repV zero (n+m-i)).drop (0+i*es+new.length))) (0+(i+m)*es) (old.drop (i*es)) (by
           simp only [List.length_append,List.length_take,List.length_drop,hAl,hZl,hnl,hol];omega)
          have h5:=Hp.store_of (H:={ H3 with nx:=H3.nx+9 }) (b:=H.nx+1) (o:=0+(i+m)*es) (vs:=old.drop (i*es)) (by show H3.m.get (H.nx+1)=_;rw [hget3,if_pos rfl]) rfl hDs hov5
          have hC:=ins_grow (A:=A) (Z:=repV zero (n+m-i)) (new:=new) (D:=old.drop (i*es)) hAl hnl hDl (by rw [hZl];omega)
          simp only [Nat.zero_add,hnl,hDl] at h5 h3 hov3
          rw [a2] at h5
          rw [hC] at h5
          obtain ⟨H5,hH5⟩: ∃ H5:Hp,{ m:=H3.m.set (H.nx+1) (some { cells:=A++(new++old.drop (i*es)),es:=es,rw:=true }),nx:=H3.nx+9 }=H5:=⟨_,rfl⟩
          rw [hH5] at h5
          have hr:=insert_run2 (r:=r) (g:=g) (call:=⟨ovA g,noAns,noIt⟩) (k:=0) hm0 q4 (show n+l.room<n+m by omega) (by omega) (by omega) ⟨by omega,Nat.le_trans (Nat.mul_le_mul_right _ (by omega)) q11⟩ h1 h2 (by rw [Nat.zero_add];exact h3) h4 (by rw [Nat.zero_add,a2];exact h5)
          obtain ⟨k1,k2⟩:=hrun _ _ _ _ hr σ1 w vs m1 hargs
          refine .inl ⟨k1 _ _,k2.mono ?_⟩
          rintro en w' ⟨σ2,v',rfl,j1,j2,j3⟩
          have hget5: ∀ j,H5.m.get j=if j=H.nx+1 then some ⟨A++(new++old.drop (i*es)),es,true⟩ else H1.m.get j:=fun j=>by
           rw [←hH5]
           show (H3.m.set (H.nx+1) _).get j=_
           rw [Tr.get_set]
           by_cases q:j=H.nx+1
           ·rw [if_pos q,if_pos q]
           ·rw [if_neg q,if_neg q,hget3,if_neg q]
          have hnx5:H5.nx=H.nx+11:=by rw [←hH5];show H3.nx+9=_;omega
          have hCl:(A++(new++old.drop (i*es))).length=(n+m)*es:=by simp only [List.length_append,hAl,hnl,hDl];omega
          obtain ⟨σ3,t1,t2,t3⟩:=take_over j2 (y:=H.nx+1) (C:=A++(new++old.drop (i*es))) (R:=[]) (es:=es) (by rw [List.append_nil,hget5,if_pos rfl]) hCl (by rw [List.append_nil];exact hCl) q13 q14 (Nat.le_refl _) j1
          rw [hnx5] at t1
          have hgeq: ∀ j,((H.m.set b none).set (H.nx+11) (some ⟨A++(new++old.drop (i*es)),es,true⟩)).get j=(((H5.kill (H.nx+1)).new (A++(new++old.drop (i*es))) es).kill H.nx).m.get j:=fun j=>by
           rw [hH'get]
           show _=(((H5.m.set (H.nx+1) none).set H5.nx _).set H.nx none).get j
           rw [Tr.get_set,Tr.get_set,Tr.get_set,hnx5,hget5,hget]
           by_cases c1:j=H.nx
           ·rw [if_pos c1,if_neg (by omega),if_neg (by omega),c1,hR.dead (Nat.le_refl _)]
           ·rw [if_neg c1]
            by_cases c2:j=H.nx+11
            ·rw [if_pos c2,if_pos c2]
            ·rw [if_neg c2,if_neg c2]
             by_cases c3:j=H.nx+1
             ·rw [if_pos c3,if_neg (by omega),c3,hR.dead (by omega)]
             ·rw [if_neg c3,if_neg c3,if_neg c1]
          refine ⟨σ3,v',rfl,t1,(t2.kill H.nx).congr hgeq (by show H.nx+12=H5.nx+1;omega),?_⟩
          exact (((m2.trans j3).trans t3).trans (Fr.kill _ _ _ _)).congr hgeq (by show H.nx+12=H5.nx+1;omega)
         ·-- in place
          have hmr:=Nat.mul_le_mul_right es (show m≤l.room by omega)
          have hg:ovA g g [.slice b2 o2 m c2 ex2, .slice H.nx (0+(i+m)*es) (n+m-(i+m)) (n+l.room-(i+m)) true] H1=some (.bool false,H1):=by
           unfold ovA
           simp only [Nat.beq_refl,hg2,hgx]
           have z1:=beqF (show b2≠H.nx by omega)
           have z2:=beqF (show sz bl2.es≠1 by rw [sz_lt (show bl2.es<esU by omega)];omega)
           have z3:=beqF (show (old++J).length≠0 by
            have:1≤n:=by omega
            have:=Nat.mul_le_mul_right es this
            rw [List.length_append,hol];omega)
           rw [z1,z2,z3,q7]
           rfl
          have h2:=hfirstD { H1 with nx:=H1.nx+9 } (n+m-i) (n+l.room-i) hgx
          have hov3:=over_eq (old++J) (0+(i+m)*es) (old.drop (i*es)) (by rw [List.length_append,hol,hJl,hDl];omega)
          have h3:=Hp.store_of (H:={ H1 with nx:=H1.nx+9 }) (b:=H.nx) (o:=0+(i+m)*es) (vs:=old.drop (i*es)) hgx rfl hDs hov3
          simp only [Nat.zero_add,hDl,a2] at h3
          obtain ⟨H2,hH2⟩: ∃ H2:Hp,{ m:=H1.m.set H.nx (some { cells:=(old++J).take (i*es+m*es)++(old.drop (i*es)++(old++J).drop (i*es+m*es+(n-i)*es)),es:=es,rw:=true }),nx:=H1.nx+9 }=H2:=⟨_,rfl⟩
          rw [hH2] at h3
          have hget2: ∀ j,H2.m.get j=if j=H.nx then some ⟨(old++J).take (i*es+m*es)++(old.drop (i*es)++(old++J).drop (i*es+m*es+(n-i)*es)),es,true⟩ else H1.m.get j:=fun j=>by
           rw [←hH2]
           show (H1.m.set H.nx _).get j=_
           rw [Tr.get_set]
          have h4:firsts H2 es m (.slice b2 o2 m c2 ex2)=some new:=by
           rw [firsts_same (H:=H) (by rw [hget2,if_neg (by omega),hg2,e2])];exact hf
          have hov5:=over_eq ((old++J).take (i*es+m*es)++(old.drop (i*es)++(old++J).drop (i*es+m*es+(n-i)*es))) (0+i*es) new (by
           simp only [List.length_append,List.length_take,List.length_drop,hnl,hol,hJl];omega)
          have h5:=Hp.store_of (H:=H2) (b:=H.nx) (o:=0+i*es) (vs:=new) (by rw [hget2,if_pos rfl]) rfl hns hov5
          simp only [Nat.zero_add,hnl] at h5
          have hC:=ins_place (X:=old++J) (new:=new) (D:=old.drop (i*es)) (a:=i*es) (mm:=m*es) (d:=(n-i)*es) (by rw [List.length_append,hol,hJl];omega)
          rw [hC] at h5
          have hXA:(old++J).take (i*es)=A:=by rw [List.take_append_of_le_length (by omega),hA2]
          rw [hXA] at h5
          obtain ⟨R,hRR⟩: ∃ R,(old++J).drop (i*es+m*es+(n-i)*es)=R:=⟨_,rfl⟩
          have hRl:R.length=l.room*es-m*es:=by rw [←hRR,List.length_drop,List.length_append,hol,hJl];omega
          rw [hRR] at h5
          obtain ⟨H5,hH5⟩: ∃ H5:Hp,{ H2 with m:=H2.m.set H.nx (some { cells:=A++(new++old.drop (i*es))++R,es:=es,rw:=true }) }=H5:=⟨_,rfl⟩
          rw [hH5] at h5
          have hr:=insert_run3 (r:=r) (g:=g) (zero:=zero) (bytes:=bytes) (call:=⟨ovA g,noAns,noIt⟩) (k:=0) hm0 q4 (show n+m≤n+l.room by omega) (by omega) hg h2 (by rw [Nat.zero_add,a2];exact h3) h4 (by rw [Nat.zero_add];exact h5)
          obtain ⟨k1,k2⟩:=hrun _ _ _ _ hr σ1 w vs m1 hargs
          refine .inl ⟨k1 _ _,k2.mono ?_⟩
          rintro en w' ⟨σ2,v',rfl,j1,j2,j3⟩
          have hget5: ∀ j,H5.m.get j=if j=H.nx then some ⟨A++(new++old.drop (i*es))++R,es,true⟩ else H1.m.get j:=fun j=>by
           rw [←hH5]
           show (H2.m.set H.nx _).get j=_
           rw [Tr.get_set]
           by_cases q:j=H.nx
           ·rw [if_pos q,if_pos q]
           ·rw [if_neg q,if_neg q,hget2,if_neg q]
          have hnx5:H5.nx=H.nx+10:=by rw [←hH5];show H2.nx=_;rw [←hH2];show H1.nx+9=_;omega
          have hCl:(A++(new++old.drop (i*es))).length=(n+m)*es:=by simp only [List.length_append,hAl,hnl,hDl];omega
          have hCR:(A++(new++old.drop (i*es))++R).length=(n+l.room)*es:=by rw [List.length_append,hCl,hRl,Nat.add_mul n l.room];omega
          obtain ⟨σ3,t1,t2,t3⟩:=take_over (j2.nx_up (n:=H.nx+11) (by omega)) (y:=H.nx) (C:=A++(new++old.drop (i*es))) (R:=R) (es:=es) (by show H5.m.get H.nx=_;rw [hget5,if_pos rfl]) hCl hCR q13 q14 (by omega) j1
          have hgeq: ∀ j,((H.m.set b none).set (H.nx+11) (some ⟨A++(new++old.drop (i*es)),es,true⟩)).get j=((({ H5 with nx:=H.nx+11 }:Hp).kill H.nx).new (A++(new++old.drop (i*es))) es).m.get j:=fun j=>by
           rw [hH'get]
           show _=((H5.m.set H.nx none).set (H.nx+11) _).get j
           rw [Tr.get_set,Tr.get_set,hget5,hget]
           by_cases c2:j=H.nx+11
           ·rw [if_pos c2,if_pos c2]
           ·rw [if_neg c2,if_neg c2]
            by_cases c1:j=H.nx
            ·rw [if_pos c1,if_neg (by omega),c1,hR.dead (Nat.le_refl _)]
            ·rw [if_neg c1,if_neg c1,if_neg c1]
          refine ⟨σ3,v',rfl,t1,t2.congr hgeq rfl,?_⟩
          exact ((m2.trans ((j3.nx_up (n:=H.nx+11) (by omega)))).trans t3).congr hgeq rfl
       ·cases h
      ·cases h
     ·cases h
   ·cases h
  ·cases h
 ·cases h
theorem insertB_ok (hm:P.follows .mixedOrders=true) {f g r es bytes size:Nat} {zero:List AV} (hz0:zero.length=es) (hzs: ∀ a∈zero,a.sc=true)
  {tS tR e:TypeId} (ht:P.underlying tS=some (.slice e)) (hz: ∀ w,(Go.sizeOf e).run P w= .ok size w)
  (hov: ∀ (args:Array Value) (w:World) (v:Value),(Extern.SlicesOverlaps.overlaps #[tS,tS] #[tR] args).run P w= .ok v w→(callFunc g args).run P w= .ok (.value v) w)
  (hF:cFn P f=some (insertF es bytes g r zero)) (args:List AV) (H:Hp) (v:AV) (H':Hp) (h:insertB es bytes args H=some (v,H')) (σ:Sg) (w:World) (vs:Array Value) (hR:Rel (gp P) σ H w) (hv:VRs σ args vs.toList):CallR P f vs w (End P σ H w v H'):=by
 unfold insertB at h
 split at h
 ·rename_i b o n c ex i x
  split at h
  ·rename_i ho hcn
   split at h
   ·rename_i bl e1
    split at h
    ·rename_i C hq hC
     obtain rfl:=Tr.beq_t ho
     simp only [Bool.and_eq_true] at hq
     obtain ⟨q1,q2,q3,q4,q5,q6⟩:=hq
     replace q2:=Tr.beq_t q2
     replace q3:=Tr.beq_t q3
     replace q4:=Nat.le_of_ble_eq_true q4
     replace q5:1<es:=Nat.le_of_ble_eq_true q5
     replace q6:es<esU:=Nat.le_of_ble_eq_true q6
     have hle:n*es≤bl.cells.length:=by rw [q3];exact Nat.mul_le_mul_right _ q4
     rw [takeN_eq,if_pos hle] at hC
     replace hC:=(Option.some.inj hC).symm
     have hCl:C.length=n*es:=by rw [hC,List.length_take];omega
     have hcells:C++bl.cells.drop (n*es)=bl.cells:=by rw [hC];exact List.take_append_drop _ _
     obtain ⟨x1,x2,x3,hvs,g1,g2,g3⟩:=hv.three
     have hb:H.m.get b=some ⟨C++bl.cells.drop (n*es),es,true⟩:=by
      rw [e1,hcells]
      obtain ⟨cells,es',rw'⟩:=bl
      simp only at q1 q2
      subst q1
      subst q2
      rfl
     obtain ⟨σ1,t1,t2,t3⟩:=take_over hR (y:=b) (ln:=n) (cY:=c) (C:=C) (R:=bl.cells.drop (n*es)) (es:=es) hb hCl (by rw [hcells];exact q3) q5 q6 q4 g1
     have hend: ∀ e w',End P σ1 ((H.kill b).new C es) w v H' e w'→End P σ H w v H' e w':=fun e w' ⟨σ2,v',h1,h2,h3,h4⟩=>⟨σ2,v',h1,h2,h3,t3.trans h4⟩
     rcases insert_ok hm hz0 hzs ht hz hov hF _ _ v H' h σ1 w vs t2 (by rw [hvs];exact VRs.three_of t1 (g2.mono t3.ext) (g3.mono t3.ext)) with ⟨k1,k2⟩ | ⟨v',w',k1,k2⟩
     ·exact .inl ⟨k1,k2.mono hend⟩
     ·exact .inr ⟨v',w',k1,hend _ _ k2⟩
    ·cases h
   ·cases h
  ·exact insert_ok hm hz0 hzs ht hz hov hF _ H v H' h σ w vs hR hv
 ·exact insert_ok hm hz0 hzs ht hz hov hF _ H v H' h σ w vs hR hv
end
section
variable {P:Program} {w:World} {σ:Sg}
def flatL:Lit→Option AV
 | .bool b=>some (.bool b)
 | .int k n=>some (.int k n)
 | .string l=>some (.str (l.map (·.toNat)))
 | _=>none
def flatAll {α:Type} (f:α→Option (List AV)):List α→Option (List AV)
 | []=>some []
 | a::l=>match f a,flatAll f l with | some x,some r=>some (x++r) | _,_=>none
def flatD:Nat→DataW Unit→Option (List AV)
 | 0,_=>none
 | _+1, .lit x=>match flatL x with | some v=>some [v] | none=>none
 | n+1, .agg l=>flatAll (flatD n) l
 | _+1,_=>none
def chain (P:Program) (f:TypeId→Bool) (tot:Nat):List Field→Nat→Bool
 | [],acc=>decide (acc=tot)
 | x::r,acc=>decide (x.offset=acc)&&(f x.type&&chain P f tot r (acc+P.cellsOf x.type))
def tileOk (P:Program):Nat→TypeId→Bool
 | 0,_=>false
 | n+1,t=>match P.underlying t with
  | some .bool=>true
  | some (.int _)=>true
  | some .string=>true
  | some (.struct fs)=>chain P (tileOk P n) (P.cellsOf t) fs.toList 0
  | some (.array k e)=>decide (k*P.cellsOf e=P.cellsOf t)&&tileOk P n e
  | _=>false
theorem flatAll_cons {α:Type} {f:α→Option (List AV)} {a:α} {l:List α} {r:List AV} (h:flatAll f (a::l)=some r): ∃ x y,f a=some x∧flatAll f l=some y∧r=x++y:=by
 rw [flatAll] at h
 split at h
 ·rename_i x y h1 h2
  exact ⟨x,y,h1,h2,(Option.some.inj h).symm⟩
 ·cases h
theorem flat_fields {α:Type} {f:α→Option (List AV)} {F:TypeId→List Value→Option α} {ok:TypeId→Bool} (hF: ∀ t cs x l,ok t=true→F t cs=some x→f x=some l→VRs σ l cs) {cs:List Value}:
  ∀ (fl:List Field) (xl:List α) (acc:Nat) (l:List AV),(∀ (i:Nat) (x:Field),fl[i]? =some x→F x.type ((cs.drop x.offset).take (P.cellsOf x.type))=xl[i]?)→xl.length=fl.length→chain P ok cs.length fl acc=true→flatAll f xl=some l→VRs σ l (cs.drop acc)
 | [],xl,acc,l,_,hl,hc,h=>by
  have:xl=[]:=List.length_eq_zero_iff.1 (by simpa using hl)
  subst this
  obtain rfl:=Option.some.inj h
  have hc:acc=cs.length:=by simpa [chain] using hc
  rw [hc,List.drop_length]
  exact .nil
 | x::fl,[],acc,l,_,hl,_,_=>by simp at hl
 | x::fl,y::xl,acc,l,hi,hl,hc,h=>by
  simp only [chain,Bool.and_eq_true,decide_eq_true_eq] at hc
  obtain ⟨h1,h2,h3⟩:=hc
  obtain ⟨l1,l2,g1,g2,rfl⟩:=flatAll_cons h
  have k0:=hi 0 x rfl
  have r1:=hF _ _ y l1 h2 (by rw [k0];rfl) g1
  have r2:=flat_fields hF fl xl (acc+P.cellsOf x.type) l2 (fun i z hz=>by have:=hi (i+1) z (by simpa using hz);simpa using this) (by simpa using hl) h3 g2
  rw [h1] at r1
  have:=r1.append r2
  rwa [←List.drop_drop,List.take_append_drop] at this
theorem flat_elems {α:Type} {f:α→Option (List AV)} {F:List Value→Option α} (hF: ∀ cs x l,F cs=some x→f x=some l→VRs σ l cs) {cs:List Value} {c k:Nat} (hk:k*c=cs.length):
  ∀ (xl:List α) (i:Nat) (l:List AV),(∀ j,j<xl.length→F ((cs.drop ((i+j)*c)).take c)=xl[j]?)→i+xl.length=k→flatAll f xl=some l→VRs σ l (cs.drop (i*c))
 | [],i,l,_,hl,h=>by
  obtain rfl:=Option.some.inj h
  have hl:i=k:=by simpa using hl
  rw [hl,hk,List.drop_length]
  exact .nil
 | y::xl,i,l,hi,hl,h=>by
  obtain ⟨l1,l2,g1,g2,rfl⟩:=flatAll_cons h
  have k0:=hi 0 (by simp)
  have r1:=hF _ y l1 (by rw [Nat.add_zero] at k0;rw [k0];rfl) g1
  have r2:=flat_elems hF hk xl (i+1) l2 (fun j hj=>by have:=hi (j+1) (by simpa using hj);rw [show i+(j+1)=i+1+j by omega] at this;simpa using this) (by simp at hl;omega) g2
  have:=r1.append r2
  rw [show (i+1)*c=i*c+c by rw [Nat.add_mul,Nat.one_mul]] at this
  rwa [←List.drop_drop,List.take_append_drop] at this
theorem flat_ok {base:Nat} {spare:Nat→Bool} {held:Bool}: ∀ (fuel:Nat) (n m:Nat) (t:TypeId) (cs:List Value) (x:DataW Unit × List MemPlace) (l:List AV),tileOk P n t=true→DataW.trod (fun _=>()) P w base spare held fuel t cs=some x→flatD m x.1=some l→VRs σ l cs
 | 0,n,m,t,cs,x,l,_,h,_=>by simp [DataW.trod] at h
 | fuel+1,0,m,t,cs,x,l,h,_,_=>by cases h
 | fuel+1,n+1,0,t,cs,x,l,_,_,h=>by cases h
 | fuel+1,n+1,m+1,t,cs,x,l,ht,h,hl=>by
  rw [tileOk] at ht
  split at ht
  ·rename_i hu
   obtain ⟨b,rfl,rfl⟩:=DataW.trod_bool hu h
   obtain rfl:=Option.some.inj hl
   exact .cons (.bool b) .nil
  ·rename_i k hu
   obtain ⟨b,rfl,rfl,_⟩:=DataW.trod_int hu h
   obtain rfl:=Option.some.inj hl
   exact .cons (.int k b) .nil
  ·rename_i hu
   obtain ⟨b,rfl,rfl,_⟩:=DataW.trod_string hu h
   obtain rfl:=Option.some.inj hl
   exact .cons (.str b) .nil
  ·rename_i fs hu
   obtain ⟨xs,k,e,rfl,h1,h2,h3⟩:=DataW.trod_struct hu h
   obtain rfl:fuel=k:=by omega
   simp only [flatD] at hl
   have:=flat_fields (P:=P) (σ:=σ) (f:=flatD m) (F:=fun t cs=>(DataW.trod (fun _=>()) P w base spare held fuel t cs).map (·.1)) (ok:=tileOk P n) (fun t cs y l q1 q2 q3=>by
    obtain ⟨z,z1,rfl⟩:=Option.map_eq_some_iff.1 q2
    exact flat_ok fuel n m t cs z l q1 z1 q3) (cs:=cs) fs.toList (xs.map (·.1)) 0 l (fun i f hf=>by
     rw [h3 i f (by simpa using hf),List.getElem?_map]) (by simpa using h2) (by rw [h1];exact ht) hl
   simpa using this
  ·rename_i k e hu
   rw [Bool.and_eq_true,decide_eq_true_eq] at ht
   obtain ⟨xs,k',e',rfl,h1,h2,h3⟩:=DataW.trod_array hu h
   obtain rfl:fuel=k':=by omega
   simp only [flatD] at hl
   have:=flat_elems (σ:=σ) (f:=flatD m) (F:=fun cs=>(DataW.trod (fun _=>()) P w base spare held fuel e cs).map (·.1)) (fun cs y l q2 q3=>by
    obtain ⟨z,z1,rfl⟩:=Option.map_eq_some_iff.1 q2
    exact flat_ok fuel n m e cs z l ht.2 z1 q3) (cs:=cs) (k:=k) (ht.1.trans h1.symm) (xs.map (·.1)) 0 l (fun j hj=>by
     rw [Nat.zero_add,h3 j (by simp at hj;omega),List.getElem?_map]) (by simp [h2]) hl
   simpa using this
  ·cases ht
theorem var_cells {n:String} {g:Nat} {cs:Array Value} (hg:P.globalNamed n=some g) (hv:w.var? P n=some cs): ∃ t fr,w.heap[g]? =some (.cells cs t fr):=by
 unfold World.var? at hv
 rw [hg] at hv
 simp only [Option.bind_some] at hv
 split at hv
 ·rename_i c t fr he
  cases hv
  exact ⟨t,fr,he⟩
 ·cases hv
def startT:List (Nat × List AV)→Tr Blk
 | []=> .lf
 | (g,l)::r=>(startT r).set g (some ⟨l,0,false⟩)
def startH (G:Nat) (L:List (Nat × List AV)):Hp:=⟨startT L,G⟩
def startS (G:Nat):Sg:=fun i=>if i<G then some ⟨i,0,0⟩ else none
theorem start_get: ∀ (L:List (Nat × List AV)) (i:Nat) (bl:Blk),(startT L).get i=some bl→ ∃ l,(i,l)∈L∧bl=⟨l,0,false⟩
 | [],i,bl,h=>by rw [startT,Tr.get_lf] at h;cases h
 | (g,l)::r,i,bl,h=>by
  rw [startT,Tr.get_set] at h
  split at h
  ·rename_i e
   subst e
   exact ⟨l,by simp,(Option.some.inj h).symm⟩
  ·obtain ⟨l',h1,h2⟩:=start_get r i bl h
   exact ⟨l',by simp [h1],h2⟩
theorem start_rel {G:Gp} {L:List (Nat × List AV)} (h: ∀ x∈L,x.1<G.n∧ ∃ cs t fr,w.heap[x.1]? =some (Obj.cells cs t fr)∧VRs (startS G.n) x.2 cs.toList):Rel G (startS G.n) (startH G.n L) w:=by
 refine ⟨fun i l e=>?_,Nat.le_refl _,fun g hg=>⟨0,if_pos hg⟩,fun i bl e=>?_,fun i j bi bj li lj hi hj h1 h2 h3 h4=>?_⟩
 ·unfold startS at e
  split at e
  ·assumption
  ·cases e
 ·obtain ⟨l,hm,rfl⟩:=start_get L i bl e
  obtain ⟨hg,cs,t,fr,hw,hv⟩:=h _ hm
  refine ⟨⟨i,0,0⟩,cs,t,fr,if_pos hg,hw,?_,fun j a ha _=>?_,fun q=>(by cases q),fun q=>(by cases q),fun t ht=>(by simp only [tagN] at ht;omega),fun q=>(by cases q)⟩
  ·have:=hv.length
   simp at this ⊢
   omega
  ·obtain ⟨v,g1,g2⟩:=hv.get j a ha
   exact ⟨v,by simpa using g1,g2⟩
 ·obtain ⟨l,_,rfl⟩:=start_get L i bi hi
  cases h4
def laidL (P:Program):List (String × DataW Unit)→List (Nat × List AV)
 | []=>[]
 | (n,d)::r=>match P.globalNamed n with
  | none=>laidL P r
  | some g=>match (P.globals[g]?).map (·.type) with
   | none=>laidL P r
   | some t=>match tileOk P 20 t,flatD 20 d with
    | true,some l=>(g,l)::laidL P r
    | _,_=>laidL P r
theorem laid_at: ∀ (laid:List (String × DataW Unit)) (ps:List MemPlace),DataW.LaidVars P w laid ps→ ∀ x∈laidL P laid,x.1<P.globals.size∧ ∃ cs t fr,w.heap[x.1]? =some (Obj.cells cs t fr)∧VRs σ x.2 cs.toList
 | [],_,_,x,hx=>by cases hx
 | (n,d)::r,ps,h,x,hx=>by
  obtain ⟨g,t,cs,fuel,p,q,h1,h2,h3,h4,h5,_⟩:=h
  have ih:=laid_at r q h5 x
  rw [laidL,h1] at hx
  simp only [h2] at hx
  split at hx
  ·rename_i l ht hl
   rcases List.mem_cons.1 hx with rfl | hx
   ·obtain ⟨ty,fr,he⟩:=var_cells h1 h3
    refine ⟨?_,cs,ty,fr,he,flat_ok fuel 20 20 t cs.toList _ l ht h4 hl⟩
    cases e:P.globals[g]? with
    | none=>rw [e] at h2;cases h2
    | some _=>exact (Array.getElem?_eq_some_iff.1 e).1
   ·exact ih hx
  ·exact ih hx
theorem laid_rel {laid:List (String × DataW Unit)} (h:laidMet P laid w):Rel (gp P) (startS P.globals.size) (startH P.globals.size (laidL P laid)) w:=by
 obtain ⟨ps,h1,_⟩:=h
 exact start_rel (laid_at laid ps h1)
def tabOf:List (Nat × IFn)→Tr IFn
 | []=> .lf
 | (f,F)::r=>(tabOf r).set f (some F)
theorem tab_get {P:Program}: ∀ (L:List (Nat × IFn)),(∀ x∈L,cFn P x.1=some x.2)→ ∀ (f:Nat) (F:IFn),(tabOf L).get f=some F→cFn P f=some F
 | [],_,f,F,h=>by rw [tabOf,Tr.get_lf] at h;cases h
 | (g,G)::r,hL,f,F,h=>by
  rw [tabOf,Tr.get_set] at h
  split at h
  ·rename_i e
   subst e
   obtain rfl:=Option.some.inj h
   exact hL (f,G) (by simp)
  ·exact tab_get r (fun x hx=>hL x (by simp [hx])) f F h
theorem start_keeps {G:Nat} {L:List (Nat × List AV)} {σ':Sg} {H':Hp} {w':World} (hf:Fr (startS G) (startH G L) w σ' H' w'):w'.os=w.os∧w'.tape=w.tape∧w'.output=w.output∧w.heap.size≤w'.heap.size∧ ∀ k,k<w.heap.size→w'.heap[k]? =w.heap[k]? :=by
 refine ⟨hf.os,hf.tape,hf.output,hf.size,fun k hk=>hf.keep k hk ?_⟩
 rintro ⟨i,bl,l,h1,h2,_⟩
 obtain ⟨l',_,rfl⟩:=start_get L i bl h1
 cases h2
end
end Go.Proofs.YtgfcgkbbmcgjmaaGreatDoor.Eng
