/- The engine, part Ef: what is said of code, and that it comes true. -/
import Derived.Test.YtgfcgkbbmcgjmaaGreatDoorDEv
namespace Go.Proofs.YtgfcgkbbmcgjmaaGreatDoor.Eng
set_option linter.unusedVariables false
set_option linter.unusedSimpArgs false
abbrev Ev:=Nat→AV
def upd (E:Ev) (i:Nat) (v:AV):Ev:=fun j=>match Nat.beq j i with | true=>v | false=>E j
def updO (E:Ev) (d:Option Nat) (v:AV):Ev:=match d with | some i=>upd E i v | none=>E
def Opd.at (E:Ev):Opd→AV
 | .c v=>v
 | .t i=>E i
def ats (E:Ev):List Opd→List AV
 | []=>[]
 | x::l=>x.at E::ats E l
def ato (E:Ev):Option Opd→Option AV
 | none=>none
 | some x=>some (x.at E)
def atp (E:Ev):List (Nat × Nat × Opd)→List (Nat × Nat × AV)
 | []=>[]
 | (a,b,x)::l=>(a,b,x.at E)::atp E l
def argE (l:List AV):Ev:=fun i=>match nthV l i with | some v=>v | none=> .undef
def memN (i:Nat):List Nat→Bool
 | []=>false
 | j::l=>match Nat.beq i j with | true=>true | false=>memN i l
inductive P1 where
 | i (k:IntKind) | b | s | v
inductive VP where
 | one (p:P1) | agg (l:List P1)
inductive RP where
 | one (p:VP) | tup (l:List VP)
def lkL:List (Nat × VP)→List AV→Nat→Option AV
 | (j,_)::L,v::vs,i=>match Nat.beq i j with | true=>some v | false=>lkL L vs i
 | _,_,_=>none
def updM (E:Ev) (ms:List Nat) (J:Ev) (L:List (Nat × VP)) (vs:List AV):Ev:=fun i=>
 match lkL L vs i with
 | some v=>v
 | none=>match memN i ms with | true=>J i | false=>E i
def valsL (E:Ev):List (Nat × VP)→List AV
 | []=>[]
 | (i,_)::L=>E i::valsL E L
def letH (H:Hp) (K:Hp→Prop):Prop:=K H
def eqB (a b:Bool):Bool:=match a with | true=>b | false=> !b
def andNotF (k:IntKind) (x y:Int):Int:=k.wrap ((BitVec.ofInt k.bits x &&& ~~~(BitVec.ofInt k.bits y)).toNat)
def Chk (b:Bool) (P:Prop):Prop:=match b with | true=>P | false=>False
def IfB (b:Bool) (P Q:Prop):Prop:=match b with | true=>P | false=>Q
def T1:P1→Type
 | .i _=>Int
 | .b=>Bool
 | .s=>List Nat
 | .v=>AV
def Ex1:P1→(AV→Prop)→Prop
 | .i k,P=> ∃ n:Int,P (.int k n)
 | .b,P=> ∃ b:Bool,P (.bool b)
 | .s,P=> ∃ s:List Nat,P (.str s)
 | .v,P=> ∃ v:AV,P v
def Ex1s:List P1→(List AV→Prop)→Prop
 | [],P=>P []
 | p::l,P=>Ex1 p fun v=>Ex1s l fun vs=>P (v::vs)
def ExV:VP→(AV→Prop)→Prop
 | .one p,P=>Ex1 p P
 | .agg l,P=>Ex1s l fun vs=>P (.agg vs)
def ExVs:List VP→(List AV→Prop)→Prop
 | [],P=>P []
 | p::l,P=>ExV p fun v=>ExVs l fun vs=>P (v::vs)
def ExR:RP→(AV→Prop)→Prop
 | .one p,P=>ExV p P
 | .tup l,P=>ExVs l fun vs=>P (.tup vs)
def IT1:List P1→Type→Type
 | [],X=>X
 | p::l,X=>T1 p→IT1 l X
def IT:List (Nat × VP)→Type
 | []=>Hp→Prop
 | (_, .one p)::r=>T1 p→IT r
 | (_, .agg l)::r=>IT1 l (IT r)
def ap1:(p:P1)→AV→(T1 p→Hp→Prop)→Hp→Prop
 | .i k, .int k' n,K=>match Nat.beq (top k) (top k') with | true=>K n | false=>fun _=>False
 | .b, .bool b,K=>K b
 | .s, .str s,K=>K s
 | .v,v,K=>K v
 | _,_,_=>fun _=>False
def ap1s:(l:List P1)→{X:Type}→IT1 l X→List AV→(X→Hp→Prop)→Hp→Prop
 | [],_,I,[],K=>K I
 | p::l,_,I,v::vs,K=>ap1 p v fun x=>ap1s l (I x) vs K
 | _,_,_,_,_=>fun _=>False
def apI:(L:List (Nat × VP))→IT L→List AV→Hp→Prop
 | [],I,[]=>I
 | (_, .one p)::r,I,v::vs=>ap1 p v fun x=>apI r (I x) vs
 | (_, .agg l)::r,I,v::vs=>match v with
  | .agg cs=>ap1s l I cs fun I'=>apI r I' vs
  | _=>fun _=>False
 | _,_,_=>fun _=>False
def all1:(p:P1)→(T1 p→AV→Prop)→Prop
 | .i k,Q=> ∀ n:Int,Q n (.int k n)
 | .b,Q=> ∀ b:Bool,Q b (.bool b)
 | .s,Q=> ∀ s:List Nat,Q s (.str s)
 | .v,Q=> ∀ v:AV,Q v v
def all1s:(l:List P1)→{X:Type}→IT1 l X→(X→List AV→Prop)→Prop
 | [],_,I,Q=>Q I []
 | p::l,_,I,Q=>all1 p fun x v=>all1s l (I x) fun y vs=>Q y (v::vs)
def allI:(L:List (Nat × VP))→IT L→((Hp→Prop)→List AV→Prop)→Prop
 | [],I,B=>B I []
 | (_, .one p)::r,I,B=>all1 p fun x v=>allI r (I x) fun h vs=>B h (v::vs)
 | (_, .agg l)::r,I,B=>all1s l I fun x cs=>allI r x fun h vs=>B h (.agg cs::vs)
abbrev Yh:=Nat→List AV→Hp→(AV→Hp→Prop)→Prop
def noYh:Yh:=fun _ _ _ _=>False
structure Env where
 fs:Nat→Option IFn
 given:Ans
 isGiven:Nat→Bool
def Env.all (V:Env) (n:Nat):Ans:=runs V.fs V.given V.isGiven n
def Env.cl (V:Env) (n:Nat):Cl:=⟨V.all n,noAns,fun g Y args H=>match V.fs g with
 | some G=>G.run ⟨V.all n,Y,noIt⟩ n args H
 | none=>none⟩
def Ok (H:Hp):Prop:= ∀ i,H.nx≤i→H.m.get i=none
structure Mo (H H':Hp):Prop where
 nx:H.nx≤H'.nx
 no: ∀ i,i<H.nx→H.m.get i=none→H'.m.get i=none
 fz: ∀ i bl,H.m.get i=some bl→bl.rw=false→H'.m.get i=some bl
structure Lq (H A:Hp):Prop where
 nx:A.nx=H.nx
 no: ∀ i,H.m.get i=none→A.m.get i=none
 so: ∀ i bl,H.m.get i=some bl→ ∃ rw,A.m.get i=some ⟨bl.cells,bl.es,rw⟩∧(bl.rw=true→rw=true)
def Cal (V:Env) (f:Nat) (args:List AV) (H:Hp) (Q:AV→Hp→Prop):Prop:=
 Ok H→ ∃ v H',Ok H'∧Mo H H'∧Q v H'∧ ∃ n0, ∀ n,n0≤n→ ∀ A,Lq H A→ ∃ A',V.all n f args A=some (v,A')∧Lq H' A'
def New (H:Hp) (cells:List AV) (es:Nat) (K:Nat→Hp→Prop):Prop:=K H.nx (H.new cells es)
def celK (ag:Bool) (v:AV) (K:List AV→Prop):Prop:=
 match ag with
 | true=>match v with | .agg l=>K l | _=>False
 | false=>Chk v.sc (K [v])
def hdB:List Bool→Bool
 | []=>false
 | b::_=>b
def tlB:List Bool→List Bool
 | []=>[]
 | _::l=>l
def fillW (cells:List AV):List (Nat × Nat × AV)→List Bool→(List AV→Prop)→Prop
 | [],_,K=>K cells
 | (off,n,v)::r,ag,K=>celK (hdB ag) v fun cs=>
  Chk (Nat.beq cs.length n&& !(Nat.beq n 0)) (match over cells off cs with | some l=>fillW l r (tlB ag) K | none=>False)
def ptrM (v:AV) (K:Nat→Nat→Prop):Prop:=match v with | .ptr b o=>K b o | _=>False
def nilM (v:AV) (K:AV→Prop):Prop:=match v with | .ptr b o=>K (.ptr b o) | .func f a b=>K (.func f a b) | _=>False
def bsel (c x y:Bool):Bool:=match c with | true=>x | false=>y
def isel (c:Bool) (x y:Int):Int:=match c with | true=>x | false=>y
def pickW (c a b:AV) (K:AV→Prop):Prop:=
 match c with
 | .bool c=>match a,b with
  | .bool x, .bool y=>K (.bool (bsel c x y))
  | a,b=>IfB c (K a) (K b)
 | _=>False
def binW (op:BinOp) (x y:AV) (K:AV→Prop):Prop:=
 match x,y with
 | .int k x, .int k' y=>
  match op with
  | .shl=>Chk (!(ltI y 0)) (K (.int k (shlF k x (minN y.toNat (bitsI k)))))
  | .shr=>Chk (!(ltI y 0)) (K (.int k (shrF x (minN y.toNat (bitsI k)))))
  | op=>Chk (Nat.beq (top k) (top k')) (match op with
   | .quo=>Chk (!(eqI y 0)) (K (.int k (wrapF k (x.tdiv y))))
   | .rem=>Chk (!(eqI y 0)) (K (.int k (x.tmod y)))
   | .add=>K (.int k (wrapF k (x+y)))
   | .sub=>K (.int k (wrapF k (x-y)))
   | .mul=>K (.int k (wrapF k (x*y)))
   | .and=>K (.int k (landF k x y))
   | .or=>K (.int k (lorF k x y))
   | .xor=>K (.int k (lxorF k x y))
   | .andNot=>K (.int k (k.wrap ((BitVec.ofInt k.bits x &&& ~~~(BitVec.ofInt k.bits y)).toNat)))
   | .eql=>K (.bool (eqI x y))
   | .neq=>K (.bool (!(eqI x y)))
   | .lss=>K (.bool (ltI x y))
   | .leq=>K (.bool (!(ltI y x)))
   | .gtr=>K (.bool (ltI y x))
   | .geq=>K (.bool (!(ltI x y)))
   | _=>False)
 | .str x, .str y=>
  match op with
  | .add=>Chk (Nat.ble (x.length+y.length) 9223372036854775807) (K (.str (x++y)))
  | .eql=>K (.bool (eqL x y))
  | .neq=>K (.bool (!(eqL x y)))
  | .lss=>K (.bool (ltL x y))
  | .leq=>K (.bool (ltL x y||eqL x y))
  | .gtr=>K (.bool (!(ltL x y||eqL x y)))
  | .geq=>K (.bool (!(ltL x y)))
  | _=>False
 | _,_=>False
def eqM (c:EqC) (x y:AV) (K:Bool→Prop):Prop:=match eqC c x y with | some b=>K b | none=>False
def toStrF (H:Hp):AV→Option (List Nat)
 | .nils=>some []
 | .slice b o ln c e=>match firsts H 1 ln (.slice b o ln c e) with
  | some cs=>strV cs
  | none=>none
 | _=>none
def subF (s:List Nat) (lo hi:Option AV):Option (List Nat):=
 match bounds s.length s.length lo hi none with
 | some (l,h,_)=>some (takeL (dropL s l) (h-l))
 | none=>none
def ixF (es:Nat) (x:AV) (j:Int):Option (Nat × Nat):=
 match x,j with
 | .slice b o ln _ _, .ofNat j=>match Nat.blt j ln with | true=>some (b,o+j*es) | false=>none
 | _,_=>none
def sixF (s:List Nat) (j:Int):Option Nat:=
 match j with
 | .ofNat j=>nthL s j
 | _=>none
def appF (es bytes:Nat) (H:Hp) (x y:AV):Option (AV × Hp):=
 match lenV y with
 | some n=>match firsts H es n y with
  | some new=>append es bytes H x new n
  | none=>none
 | none=>none
def appNF (es bytes:Nat) (zero:List AV) (H:Hp) (x:AV) (n:Int):Option (AV × Hp):=
 match n with
 | .ofNat n=>match Nat.ble n room&&Nat.ble (n*bytes) room with
  | true=>append es bytes H x (repV zero n) n
  | false=>none
 | _=>none
def lenS:AV→Option Nat
 | .slice _ _ n _ _=>some n
 | .nils=>some 0
 | _=>none
def capF:AV→Option Nat
 | .nils=>some 0
 | .slice _ _ _ c true=>some c
 | _=>none
def copyF (es:Nat) (H:Hp) (x y:AV):Option (Nat × Hp):=
 match lenV x,lenV y with
 | some d,some n=>match firsts H es (minN n d) y with
  | some cs=>match x with
   | .slice b o _ _ _=>match H.store b o cs with
    | some H'=>some (minN n d,H')
    | none=>none
   | .nils=>some (minN n d,H)
   | _=>none
  | none=>none
 | _,_=>none
def clearF (zero:List AV) (H:Hp) (x:AV):Option Hp:=
 match x with
 | .nils=>some H
 | .slice b o ln _ _=>match Nat.beq ln 0 with
  | true=>some H
  | false=>H.store b o (repV zero ln)
 | _=>none
structure AOp where
 d:Option Nat
 k:IK
 an:RP
 ag:List Bool
def callM (V:Env) (Y:Yh) (fv:AV) (args:List AV) (H:Hp) (Q:AV→Hp→Prop):Prop:=
 match fv with
 | .func f first caps=>Cal V f (first++(args++caps)) H Q
 | .yld i=>Y i args H Q
 | _=>False
def wpI (V:Env) (Y:Yh) (o:AOp) (E:Ev) (H:Hp) (K:AV→Hp→Prop):Prop:=
 match o.k with
 | .move x=>K (x.at E) H
 | .pick c a b=>pickW (c.at E) (a.at E) (b.at E) fun v=>K v H
 | .box n tg x=>celK (hdB o.ag) (x.at E) fun cs=>Chk (Nat.beq cs.length n&&scAll cs) (New H cs (tagN+tg) fun b H1=>K (.ptr b 0) H1)
 | .build zero parts=>fillW zero (atp E parts) o.ag fun cs=>K (.agg cs) H
 | .buildSlice ln es zero parts=>fillW zero (atp E parts) o.ag fun cs=>Chk (okNew es cs) (New H cs es fun b H1=>K (.slice b 0 ln ln true) H1)
 | .load n agg x=>ptrM (x.at E) fun b q=>match agg,o.an with
  | true, .one (.agg ps)=>Ex1s ps fun vs=>H.load b q n=some vs∧K (.agg vs) H
  | false, .one (.one p)=>Ex1 p fun v=>H.load b q n=some [v]∧K v H
  | _,_=>False
 | .store n a x=>ptrM (a.at E) fun b q=>celK (hdB o.ag) (x.at E) fun cs=>Chk (Nat.beq cs.length n) (∃ H1,H.store b q cs=some H1∧K .undef H1)
 | .nilc x=>match o.an with
  | .tup _=>ptrM (x.at E) fun b q=>K (.ptr b q) H
  | .one _=>nilM (x.at E) fun v=>K v H
 | .bin op x y=>binW op (x.at E) (y.at E) fun v=>K v H
 | .eqv c neg x y=>eqM c (x.at E) (y.at E) fun b=>K (.bool (negB neg b)) H
 | .un op x=>match un op (x.at E) with | some v=>K v H | none=>False
 | .toInt k x=>match x.at E with | .int _ n=>K (.int k (wrapF k n)) H | _=>False
 | .movestr x=>match x.at E with | .str s=>K (.str s) H | _=>False
 | .toBytes x=>match x.at E with | .str s=>New H (bytesV s) 1 fun b H1=>K (.slice b 0 s.length s.length false) H1 | _=>False
 | .toStr x=> ∃ s,toStrF H (x.at E)=some s∧K (.str s) H
 | .mkfun f first caps=>K (.func f (ats E first) (ats E caps)) H
 | .mkslice es bytes zero ln cp=>match ln.at E,cp.at E with
  | .int _ l, .int _ c=> ∃ l' c':Nat,l= .ofNat l'∧c= .ofNat c'∧l'≤c'∧c'*bytes≤room∧c'≤room∧Chk (okNew es zero) (New H (repV zero c') es fun b H1=>K (.slice b 0 l' c' true) H1)
  | _,_=>False
 | .slice es x lo hi mx=> ∃ v,cut es (x.at E) (ato E lo) (ato E hi) (ato E mx)=some v∧K v H
 | .substr x lo hi=>match x.at E with | .str s=> ∃ r,subF s (ato E lo) (ato E hi)=some r∧K (.str r) H | _=>False
 | .arrslice n es x lo hi mx=>ptrM (x.at E) fun b q=> ∃ l h m,bounds n n (ato E lo) (ato E hi) (ato E mx)=some (l,h,m)∧K (.slice b (q+l*es) (h-l) (m-l) true) H
 | .faddr off x=>ptrM (x.at E) fun b q=>K (.ptr b (q+off)) H
 | .field off n agg x=>match x.at E with
  | .agg cs=>match takeN (dropN cs off) n with
   | some r=>match agg with
    | true=>K (.agg r) H
    | false=>match r with | [v]=>K v H | _=>False
   | none=>False
  | _=>False
 | .iaddr es x i=>match i.at E with | .int _ j=> ∃ b q,ixF es (x.at E) j=some (b,q)∧K (.ptr b q) H | _=>False
 | .arraddr ln es x i=>ptrM (x.at E) fun b q=>match i.at E with | .int _ j=> ∃ j':Nat,j= .ofNat j'∧j'<ln∧K (.ptr b (q+j'*es)) H | _=>False
 | .strix x i=>match x.at E,i.at E with | .str s, .int _ j=> ∃ c,sixF s j=some c∧K (.int .u8 (.ofNat c)) H | _,_=>False
 | .arrix ln es agg x i=>match x.at E,i.at E with
  | .agg cs, .int _ j=> ∃ j':Nat,j= .ofNat j'∧j'<ln∧(match agg,o.an with
   | true, .one (.agg ps)=>Ex1s ps fun vs=>takeN (dropN cs (j'*es)) es=some vs∧K (.agg vs) H
   | false, .one (.one p)=>Ex1 p fun v=>takeN (dropN cs (j'*es)) es=some [v]∧K v H
   | _,_=>False)
  | _,_=>False
 | .ext x i=>match x.at E with
  | .tup l=>match nthV l i with | some v=>K v H | none=>False
  | _=>False
 | .append es bytes x y=> ∃ v H1,appF es bytes H (x.at E) (y.at E)=some (v,H1)∧K v H1
 | .appendN es bytes zero x y=>match y.at E with | .int _ n=> ∃ v H1,appNF es bytes zero H (x.at E) n=some (v,H1)∧K v H1 | _=>False
 | .len x=> ∃ n:Nat,lenS (x.at E)=some n∧K (.int .i64 (.ofNat n)) H
 | .strlen x=>match x.at E with | .str s=>K (.int .i64 (.ofNat s.length)) H | _=>False
 | .cap x=> ∃ n:Nat,capF (x.at E)=some n∧K (.int .i64 (.ofNat n)) H
 | .const n=>K (.int .i64 (.ofNat n)) H
 | .copy es x y=> ∃ n H1,copyF es H (x.at E) (y.at E)=some (n,H1)∧K (.int .i64 (.ofNat n)) H1
 | .clear zero x=> ∃ H1,clearF zero H (x.at E)=some H1∧K .undef H1
 | .mn x r=>match minmaxs true (x.at E) (ats E r) with | some v=>K v H | none=>False
 | .mx x r=>match minmaxs false (x.at E) (ats E r) with | some v=>K v H | none=>False
 | .call f args=>Cal V f (ats E args) H fun v H1=>ExR o.an fun u=>v=u∧K u H1
 | .callv fv args=>callM V Y (fv.at E) (ats E args) H fun v H1=>ExR o.an fun u=>v=u∧K u H1
 | .bad=>False
abbrev rv:RP:= .one (.one .v)
inductive Items where
 | nil
 | op (o:AOp) (r:Items)
 | grp (t:Nat) (pol:Bool) (a:Items) (d:Nat) (p:P1) (x:Opd) (oth:AV) (r:Items)
def opsI:List AOp→Items→Items
 | [],r=>r
 | o::l,r=> .op o (opsI l r)
def consO (d:Option Nat) (l:List Nat):List Nat:=match d with | some i=>i::l | none=>l
def Items.mods:Items→List Nat
 | .nil=>[]
 | .op o r=>consO o.d r.mods
 | .grp _ _ a d _ _ _ r=>a.mods++d::r.mods
def pickK (t:Nat) (pol:Bool) (x:Opd) (oth:AV):IK:=match pol with | true=> .pick (.t t) x (.c oth) | false=> .pick (.t t) (.c oth) x
def Items.er (g:Option (Nat × Bool)):Items→List IOp
 | .nil=>[]
 | .op o r=>⟨o.d,g,o.k⟩::r.er g
 | .grp t pol a d _ x oth r=>a.er (some (t,pol))++⟨some d,g,pickK t pol x oth⟩::r.er g
def Items.dead:Items→List Nat→Bool
 | .nil,_=>true
 | .op o r,l=>r.dead (consO o.d l)
 | .grp t _ a d _ _ _ r,l=>memN t l&&(!(memN t a.mods)&&(a.dead l&&r.dead (d::(a.mods++l))))
def wpR (V:Env) (Y:Yh):Items→Ev→Hp→(Ev→Hp→Prop)→Prop
 | .nil,E,H,K=>K E H
 | .op o r,E,H,K=>wpI V Y o E H fun v H1=>wpR V Y r (updO E o.d v) H1 K
 | .grp t pol a d p x oth r,E,H,K=>
  Chk (!(memN t a.mods)&&a.dead []) (match E t with
  | .bool c=> ∃ I:IT [(d, .one p)],
    IfB (match pol with | true=>c | false=> !c) (wpR V Y a (upd E t (.bool pol)) H fun E1 H1=>apI [(d, .one p)] I [x.at E1] H1) (apI [(d, .one p)] I [oth] H)∧
    ∀ (H1:Hp) (J:Ev),allI [(d, .one p)] I fun h vs=>h H1→wpR V Y r (updM E (d::a.mods) J [(d, .one p)] vs) H1 K
  | _=>False)
structure DOp where
 i:Nat
 o:AOp
 gd:Option (Nat × Bool)
 c:Cls
structure RecW where
 E:Ev
 k:IK
 v:AV
 hi:Nat
def rfW (v:AV) (P:Prop):Prop:=
 match v with
 | .int _ _=>P
 | .str _=>P
 | .bool _=>P
 | .nilp=>P
 | .ptr _ _=>P
 | .nils=>P
 | .slice .. =>P
 | v=>Chk (same v v) P
def rdW (H:Hp) (E:Ev) (k:IK) (v:AV) (P:Prop):Prop:=
 match k with
 | .load n agg x=>ptrM (x.at E) fun b q=>H.load b q n=some (match agg with | true=>v.cells | false=>[v])∧rfW v P
 | .toStr x=>match v with | .str s=>toStrF H (x.at E)=some s∧P | _=>False
 | _=>False
def rereadsW (H:Hp) (k:Nat):List RecW→Prop→Prop
 | [],P=>P
 | r::l,P=>match Nat.ble k r.hi with
  | false=>rereadsW H k l P
  | true=>rdW H r.E r.k r.v (rereadsW H k l P)
def rereadW (E:Ev) (x:IK) (v:AV) (lo:Nat):Nat→List Hp→Prop→Prop
 | _,[],P=>P
 | k,H::l,P=>match Nat.ble lo k with
  | false=>P
  | true=>rdW H E x v (rereadW E x v lo (k-1) l P)
def wpMk (o:AOp) (E:Ev) (H:Hp) (i:Nat) (K:AV→Hp→Prop):Prop:=
 match o.k with
 | .box n tg x=>celK (hdB o.ag) (x.at E) fun cs=>Chk (Nat.beq cs.length n&&scAll cs) (K (.ptr i 0) ⟨H.m.set i (some ⟨cs,tagN+tg,true⟩),H.nx⟩)
 | .buildSlice ln es zero parts=>fillW zero (atp E parts) o.ag fun cs=>Chk (okNew es cs) (K (.slice i 0 ln ln true) ⟨H.m.set i (some ⟨cs,es,true⟩),H.nx⟩)
 | .toBytes x=>match x.at E with | .str s=>K (.slice i 0 s.length s.length false) ⟨H.m.set i (some ⟨bytesV s,1,true⟩),H.nx⟩ | _=>False
 | _=>False
def isRd:IK→Bool
 | .load .. =>true
 | .toStr _=>true
 | _=>false
def notCall:IK→Bool
 | .call .. =>false
 | .callv .. =>false
 | _=>true
def tstD (E:Ev) (gd:Option (Nat × Bool)) (K1 K2:Ev→Prop):Prop:=
 match gd with
 | none=>K1 E
 | some (t,pol)=>match E t with
  | .bool c=>IfB (match pol with | true=>c | false=> !c) (K1 (upd E t (.bool pol))) (K2 (upd E t (.bool (!pol))))
  | .tup []=>K2 E
  | _=>False
def wpD (V:Env) (Y:Yh) (base n:Nat):List DOp→Ev→Hp→Nat→List Hp→Bool→List Nat→List RecW→(Ev→Hp→Prop)→Prop
 | [],E,H,_,_,_,_,_,K=>K E H
 | x::r,E,H,k,sn,dirty,made,rc,K=>
  tstD E x.gd (fun E1=>match x.c with
    | .pure=>Chk (notCall x.o.k) <| wpI V Y x.o E1 H fun v _=>wpD V Y base n r (updO E1 x.o.d v) H k sn dirty made rc K
    | .mk=>Chk (Nat.blt x.i n&& !(memN x.i made)) (wpMk x.o E1 H (base+x.i) fun v H1=>wpD V Y base n r (updO E1 x.o.d v) H1 k sn true (x.i::made) rc K)
    | .eff=>wpI V Y x.o E1 H fun v H1=>rereadsW H1 (k+1) rc (wpD V Y base n r (updO E1 x.o.d v) H1 (k+1) (H1::sn) false made rc K)
    | .rd lo hi=>Chk (isRd x.o.k) <| wpI V Y x.o E1 H fun v _=>
      (match dirty,Nat.ble lo k,sn with
      | false,true,_::l=>rfW v (rereadW E1 x.o.k v lo (k-1) l (wpD V Y base n r (updO E1 x.o.d v) H k sn dirty made (⟨E1,x.o.k,v,hi⟩::rc) K))
      | _,_,_=>rereadW E1 x.o.k v lo k sn (wpD V Y base n r (updO E1 x.o.d v) H k sn dirty made (⟨E1,x.o.k,v,hi⟩::rc) K)))
   (fun E2=>match x.c with
    | .eff=>wpD V Y base n r (updO E2 x.o.d .undef) H (k+1) (H::sn) false made rc K
    | .pure=>wpD V Y base n r (updO E2 x.o.d .undef) H k sn dirty made rc K
    | .mk=>wpD V Y base n r (updO E2 x.o.d .undef) H k sn dirty made rc K
    | .rd _ _=>wpD V Y base n r (updO E2 x.o.d .undef) H k sn dirty made rc K)
def dmods:List DOp→List Nat
 | []=>[]
 | x::r=>consO x.o.d (dmods r)
def derase:List DOp→List (Nat × IOp × Cls)
 | []=>[]
 | x::r=>(x.i,⟨x.o.d,x.gd,x.o.k⟩,x.c)::derase r
inductive AC where
 | skip
 | reg (l:Items)
 | draw (n:Nat) (ops:List DOp)
 | seq (a b:AC)
 | join (L:List (Nat × VP)) (a b:AC)
 | cond (c:Opd) (a b:AC)
 | block (id:Nat) (a:AC)
 | loop (L:List (Nat × VP)) (a:AC)
 | range (f:Opd) (p:Nat) (pt:VP) (a b:AC)
 | exit (id:Nat)
 | ret
 | bad
def AC.er:AC→IC
 | .skip=> .skip
 | .reg l=> .reg (l.er none)
 | .draw n ops=> .draw n (derase ops)
 | .seq a b=> .seq a.er b.er
 | .join _ a b=> .seq a.er b.er
 | .cond c a b=> .cond c a.er b.er
 | .block i a=> .block i a.er
 | .loop _ a=> .loop a.er
 | .range f p _ a b=> .range f p a.er b.er
 | .exit i=> .exit i
 | .ret=> .ret
 | .bad=> .bad
def AC.mods:AC→List Nat
 | .skip=>[]
 | .reg l=>l.mods
 | .draw _ ops=>dmods ops
 | .seq a b=>a.mods++b.mods
 | .join _ a b=>a.mods++b.mods
 | .cond _ a b=>a.mods++b.mods
 | .block _ a=>a.mods
 | .loop _ a=>a.mods
 | .range .. =>[]
 | .exit _=>[]
 | .ret=>[]
 | .bad=>[]
structure AFn where
 body:AC
 res:List IRes
def AFn.er (A:AFn):IFn:=⟨A.body.er,A.res⟩
def updC (E:Ev) (c:Opd) (b:Bool):Ev:=match c with | .t i=>upd E i (.bool b) | .c _=>E
def arg1 (args:List AV) (K:AV→Prop):Prop:=match args with | [x]=>K x | _=>False
def rangeW (rg:Nat→Yh→List AV→Hp→(Hp→Prop)→Prop) (f:AV) (H:Hp) (Y:Yh) (K:Hp→Prop):Prop:=
 match f with
 | .func g first caps=>rg g Y (first++(.yld H.nx::caps)) ⟨H.m,H.nx+1⟩ K
 | _=>False
abbrev KC:=AX→Ev→Hp→Prop
def wpC (V:Env) (Y:Yh) (rg:Nat→Yh→List AV→Hp→(Hp→Prop)→Prop):AC→Ev→Hp→KC→Prop
 | .skip,E,H,K=>K .normal E H
 | .reg l,E,H,K=>wpR V Y l E H fun E1 H1=>K .normal E1 H1
 | .draw n ops,E,H,K=>wpD V Y H.nx n ops E ⟨H.m,H.nx+n⟩ 0 [⟨H.m,H.nx+n⟩] false [] [] fun E1 H1=>K .normal E1 H1
 | .seq a b,E,H,K=>wpC V Y rg a E H fun r E1 H1=>match r with
  | .normal=>wpC V Y rg b E1 H1 K
  | .exit i=>K (.exit i) E1 H1
  | .ret=>K .ret E1 H1
 | .join L a b,E,H,K=> ∃ I:IT L,(wpC V Y rg a E H fun r E1 H1=>match r with
   | .normal=>apI L I (valsL E1 L) H1
   | .exit i=>K (.exit i) E1 H1
   | .ret=>K .ret E1 H1)∧
   ∀ (H1:Hp) (J:Ev),allI L I fun h vs=>h H1→wpC V Y rg b (updM E a.mods J L vs) H1 K
 | .cond c a b,E,H,K=>match c.at E with
  | .bool x=>IfB x (wpC V Y rg a (updC E c true) H K) (wpC V Y rg b (updC E c false) H K)
  | _=>False
 | .block i a,E,H,K=>wpC V Y rg a E H fun r E1 H1=>match r with
  | .normal=>K .normal E1 H1
  | .exit j=>match Nat.beq j i with | true=>K .normal E1 H1 | false=>K (.exit j) E1 H1
  | .ret=>K .ret E1 H1
 | .loop L a,E,H,K=> ∃ I:Nat→IT L,(∃ m,apI L (I m) (valsL E L) H)∧
   ∀ (m:Nat) (H1:Hp) (J:Ev),allI L (I m) fun h vs=>h H1→wpC V Y rg a (updM E a.mods J L vs) H1 fun r E2 H2=>match r with
    | .normal=> ∃ m',m'<m∧apI L (I m') (valsL E2 L) H2
    | .exit i=>K (.exit i) E2 H2
    | .ret=>K .ret E2 H2
 | .range f p pt a b,E,H,K=>rangeW rg (f.at E) H (fun i args H1 Q=>i=H.nx∧arg1 args fun x=>ExV pt fun u=>x=u∧wpC V noYh (fun _ _ _ _ _=>False) a (upd E p u) H1 fun r E2 H2=>match r with
   | .normal=>wpC V noYh (fun _ _ _ _ _=>False) b E2 H2 fun r E3 H3=>match r with
    | .normal=>Q (.bool true) H3
    | .exit _=>False
    | .ret=>False
   | .exit _=>False
   | .ret=>False) fun H1=>K .normal E H1
 | .exit i,E,H,K=>K (.exit i) E H
 | .ret,E,H,K=>K .ret E H
 | .bad,_,_,_=>False
def wpRes (E:Ev) (H:Hp):List IRes→(List AV→Prop)→Prop
 | [],K=>K []
 | .t i::r,K=>wpRes E H r fun l=>K (E i::l)
 | .cell i n agg::r,K=>ptrM (E i) fun b o=> ∃ cs,H.load b o n=some cs∧(match agg with
  | true=>wpRes E H r fun l=>K (.agg cs::l)
  | false=> ∃ v,cs=[v]∧wpRes E H r fun l=>K (v::l))
def wpF (V:Env) (Y:Yh) (rg:Nat→Yh→List AV→Hp→(Hp→Prop)→Prop) (A:AFn) (args:List AV) (H:Hp) (K:AV→Hp→Prop):Prop:=
 wpC V Y rg A.body (argE args) H fun r E1 H1=>match r with
  | .exit _=>False
  | .normal=>wpRes E1 H1 A.res fun l=>K (one l) H1
  | .ret=>wpRes E1 H1 A.res fun l=>K (one l) H1
def rgOf (V:Env) (fa:Nat→Option AFn):Nat→Yh→List AV→Hp→(Hp→Prop)→Prop:=fun g Y args H K=>
 match fa g with
 | some A=>wpF V Y (fun _ _ _ _ _=>False) A args H fun _ H1=>K H1
 | none=>False
section
variable {T:Tr AV} {E:Ev} {H:Hp}
def ET (T:Tr AV) (E:Ev):Prop:= ∀ i,(Opd.t i).ev T=E i
theorem ET.at (h:ET T E) (x:Opd):x.ev T=x.at E:=by
 cases x with
 | c v=>rfl
 | t i=>exact h i
theorem ET.ats (h:ET T E): ∀ l:List Opd,evs T l=Eng.ats E l
 | []=>rfl
 | x::l=>by rw [evs,Eng.ats,h.at,ET.ats h l]
theorem ET.ato (h:ET T E): ∀ x:Option Opd,evo T x=Eng.ato E x
 | none=>rfl
 | some x=>by rw [evo,Eng.ato,h.at]
theorem ET.atp (h:ET T E): ∀ l:List (Nat × Nat × Opd),evp T l=Eng.atp E l
 | []=>rfl
 | (a,b,x)::l=>by rw [evp,Eng.atp,h.at,ET.atp h l]
theorem bltT {a b:Nat} (h:a<b):Nat.blt a b=true:=by rw [Nat.blt_eq];exact h
theorem bltL {a b:Nat} (h:Nat.blt a b=true):a<b:=by rw [Nat.blt_eq] at h;exact h
theorem bleT {a b:Nat} (h:a≤b):Nat.ble a b=true:=by rw [Nat.ble_eq];exact h
theorem bleL {a b:Nat} (h:Nat.ble a b=true):a≤b:=by rw [Nat.ble_eq] at h;exact h
theorem upd_at (E:Ev) (i:Nat) (v:AV) (j:Nat):upd E i v j=if j=i then v else E j:=by
 unfold upd
 by_cases h:j=i
 ·subst h;rw [if_pos rfl,Nat.beq_refl]
 ·rw [if_neg h]
  cases hb:Nat.beq j i with
  | true=>exact absurd (Tr.beq_t hb) h
  | false=>rfl
theorem ET.put (h:ET T E) (d:Option Nat) (v:AV):ET (Eng.put T d v) (updO E d v):=by
 cases d with
 | none=>exact h
 | some d=>
  intro i
  have:=h i
  simp only [Opd.ev,Eng.put,updO] at this ⊢
  rw [Tr.get_set,upd_at]
  by_cases e:i=d
  ·rw [if_pos e,if_pos e]
  ·rw [if_neg e,if_neg e];exact this
theorem ET.congr (h:ET T E) {E':Ev} (e: ∀ i,E' i=E i):ET T E':=fun i=>(h i).trans (e i).symm
theorem nthV_eq: ∀ (l:List AV) (i:Nat),nthV l i=l[i]?
 | [],i=>by simp [nthV]
 | a::l,0=>rfl
 | a::l,i+1=>by rw [nthV,nthV_eq l i];rfl
theorem ET.args (l:List AV):ET (Tr.ofList l 0 .lf) (argE l):=by
 intro i
 simp only [Opd.ev,argE]
 rw [Tr.get_ofList,nthV_eq]
 by_cases h:0≤i∧i<0+l.length
 ·rw [if_pos h,Nat.sub_zero]
  cases l[i]? <;> rfl
 ·rw [if_neg h,List.getElem?_eq_none (by omega)]
  rfl
theorem Ok.lt (h:Ok H) {b:Nat} {bl:Blk} (e:H.m.get b=some bl):b<H.nx:=by
 apply Classical.byContradiction
 intro hb
 rw [h b (by omega)] at e
 cases e
theorem Ok.new (h:Ok H) (cells:List AV) (es:Nat):Ok (H.new cells es):=by
 intro i hi
 simp only [Hp.new] at hi ⊢
 rw [Tr.get_set_ne _ _ (by omega)]
 exact h i (by omega)
theorem Ok.put (h:Ok H) {b:Nat} {bl:Blk} (e:H.m.get b=some bl) (x:Option Blk):Ok { H with m:=H.m.set b x }:=by
 intro i hi
 have:=h.lt e
 simp only at hi ⊢
 rw [Tr.get_set_ne _ _ (by omega)]
 exact h i hi
theorem Ok.kill (h:Ok H) (b:Nat):Ok (H.kill b):=by
 intro i hi
 simp only [Hp.kill] at hi ⊢
 rw [Tr.get_set]
 split
 ·rfl
 ·exact h i hi
theorem store_inv {b o:Nat} {vs:List AV} {H':Hp} (e:H.store b o vs=some H'): ∃ bl cs,H.m.get b=some bl∧bl.rw=true∧scAll vs=true∧over bl.cells o vs=some cs∧H'={ H with m:=H.m.set b (some { bl with cells:=cs }) }:=by
 unfold Hp.store at e
 split at e
 ·rename_i bl hb
  split at e
  ·rename_i hc
   rw [Bool.and_eq_true] at hc
   split at e
   ·rename_i cs hcs
    exact ⟨bl,cs,hb,hc.1,hc.2,hcs,(Option.some.inj e).symm⟩
   ·cases e
  ·cases e
 ·cases e
theorem Mo.refl (H:Hp):Mo H H:=⟨Nat.le_refl _,fun _ _ h=>h,fun _ _ h _=>h⟩
theorem Mo.trans {H H1 H2:Hp} (h:Mo H H1) (k:Mo H1 H2):Mo H H2:=⟨Nat.le_trans h.nx k.nx,fun i hi hn=>k.no i (Nat.lt_of_lt_of_le hi h.nx) (h.no i hi hn),fun i bl e hr=>k.fz i bl (h.fz i bl e hr) hr⟩
theorem Mo.new (hO:Ok H) (cells:List AV) (es:Nat):Mo H (H.new cells es):=⟨Nat.le_succ _,fun i hi hn=>by
 simp only [Hp.new]
 rw [Tr.get_set_ne _ _ (by omega)]
 exact hn,fun i bl e _=>by
 have:=hO.lt e
 simp only [Hp.new]
 rw [Tr.get_set_ne _ _ (by omega)]
 exact e⟩
theorem Mo.set {b:Nat} {bl:Blk} (e:H.m.get b=some bl) (hr:bl.rw=true) (x:Option Blk):Mo H { H with m:=H.m.set b x }:=⟨Nat.le_refl _,fun i hi hn=>by
 have:i≠b:=fun h=>by rw [h,e] at hn;cases hn
 simp only
 rw [Tr.get_set_ne _ _ this]
 exact hn,fun i bl' e' hr'=>by
 have:i≠b:=fun h=>by rw [h,e] at e';cases e';rw [hr] at hr';cases hr'
 simp only
 rw [Tr.get_set_ne _ _ this]
 exact e'⟩
theorem Ok.store (h:Ok H) {b o:Nat} {vs:List AV} {H':Hp} (e:H.store b o vs=some H'):Ok H'∧Mo H H':=by
 obtain ⟨bl,cs,hb,hr,_,_,rfl⟩:=store_inv e
 exact ⟨h.put hb _,Mo.set hb hr _⟩
theorem Ok.append (h:Ok H) {es bytes:Nat} {s v:AV} {new:List AV} {n:Nat} {H':Hp} (e:Eng.append es bytes H s new n=some (v,H')):Ok H'∧Mo H H':=by
 unfold Eng.append at e
 split at e
 ·split at e
  ·cases e;exact ⟨h,Mo.refl _⟩
  ·split at e
   ·cases e;exact ⟨h.new _ _,Mo.new h _ _⟩
   ·cases e
 ·split at e
  ·split at e
   ·rename_i hs
    cases e
    exact h.store hs
   ·cases e
  ·split at e
   ·cases e
   ·split at e
    ·cases e
    ·split at e
     ·cases e;exact ⟨h.new _ _,Mo.new h _ _⟩
     ·split at e
      ·cases e
      ·rename_i bl hb
       split at e
       ·rename_i hc
        rw [Bool.and_eq_true] at hc
        cases e
        have hm:Mo H (H.kill _):=Mo.set hb hc.1 none
        exact ⟨(h.kill _).new _ _,hm.trans (Mo.new (h.kill _) _ _)⟩
       ·cases e
 ·cases e
theorem ikMk_ok (h:Ok H) {k:IK} {v:AV} {H':Hp} (e:(match ikMk T k with | some (d,cs,es)=>some (d.at_ H.nx,H.new cs es) | none=>none)=some (v,H')):Ok H'∧Mo H H':=by
 split at e
 ·cases e;exact ⟨h.new _ _,Mo.new h _ _⟩
 ·cases e
theorem ikRun_ok (h:Ok H) {k:IK} {v:AV} {H':Hp} (e:ikRun T H k=some (v,H')):Ok H'∧Mo H H':=by
 have hr:Ok H∧Mo H H:=⟨h,Mo.refl _⟩
 cases k with
 | store n a x=>
  simp only [ikRun] at e
  split at e
  ·split at e
   ·split at e
    ·rename_i hs
     cases e
     exact h.store hs
    ·cases e
   ·cases e
  ·cases e
 | append es bytes x y=>
  simp only [ikRun] at e
  split at e
  ·split at e
   ·exact h.append e
   ·cases e
  ·cases e
 | appendN es bytes z x y=>
  simp only [ikRun] at e
  split at e
  ·split at e
   ·exact h.append e
   ·cases e
  ·cases e
 | copy es x y=>
  simp only [ikRun] at e
  split at e
  ·split at e
   ·split at e
    ·split at e
     ·rename_i hs
      cases e
      exact h.store hs
     ·cases e
    ·cases e;exact hr
    ·cases e
   ·cases e
  ·cases e
 | clear z x=>
  simp only [ikRun] at e
  split at e
  ·cases e;exact hr
  ·split at e
   ·cases e;exact hr
   ·split at e
    ·rename_i hs
     cases e
     exact h.store hs
    ·cases e
  ·cases e
 | box n tg x=>exact ikMk_ok h e
 | buildSlice l es z ps=>exact ikMk_ok h e
 | toBytes x=>exact ikMk_ok h e
 | mkslice es b z x y=>exact ikMk_ok h e
 | _=>
  simp only [ikRun] at e
  repeat' (split at e)
  all_goals first | (cases e;exact hr) | cases e
theorem Lq.refl (H:Hp):Lq H H:=⟨rfl,fun _ h=>h,fun i bl e=>⟨bl.rw,e,id⟩⟩
theorem Lq.trans {A B:Hp} (h:Lq H A) (k:Lq A B):Lq H B:=⟨k.nx.trans h.nx,fun i hn=>k.no i (h.no i hn),fun i bl e=>by
 obtain ⟨r,e1,h1⟩:=h.so i bl e
 obtain ⟨r2,e2,h2⟩:=k.so i _ e1
 exact ⟨r2,e2,fun hh=>h2 (h1 hh)⟩⟩
theorem Lq.load {A:Hp} (h:Lq H A) (b o n:Nat):A.load b o n=H.load b o n:=by
 unfold Hp.load
 cases e:H.m.get b with
 | none=>rw [h.no b e]
 | some bl=>obtain ⟨r,e1,_⟩:=h.so b bl e;rw [e1]
theorem Lq.firsts {A:Hp} (h:Lq H A) (es n:Nat) (v:AV):firsts A es n v=Eng.firsts H es n v:=by
 unfold Eng.firsts
 split <;> first | rw [h.load] | rfl
theorem Lq.set {A:Hp} (h:Lq H A) (b:Nat) (x y:Option Blk) (hx:(x=none∧y=none)∨ ∃ bl r,x=some bl∧y=some ⟨bl.cells,bl.es,r⟩∧(bl.rw=true→r=true)):Lq { H with m:=H.m.set b x } { A with m:=A.m.set b y }:=by
 refine ⟨h.nx,fun i hn=>?_,fun i bl e=>?_⟩
 ·simp only at hn ⊢
  rw [Tr.get_set] at hn ⊢
  split
  ·rename_i hi
   rw [if_pos hi] at hn
   rcases hx with ⟨_,rfl⟩ | ⟨bl,r,rfl,_⟩
   ·rfl
   ·cases hn
  ·rename_i hi
   rw [if_neg hi] at hn
   exact h.no i hn
 ·simp only at e ⊢
  rw [Tr.get_set] at e ⊢
  split
  ·rename_i hi
   rw [if_pos hi] at e
   rcases hx with ⟨rfl,_⟩ | ⟨bl',r,rfl,rfl,hr⟩
   ·cases e
   ·cases e;exact ⟨r,rfl,hr⟩
  ·rename_i hi
   rw [if_neg hi] at e
   exact h.so i bl e
theorem Lq.up {A:Hp} (h:Lq H A) (n:Nat):Lq { H with nx:=n } { A with nx:=n }:=⟨rfl,h.no,h.so⟩
theorem Lq.store {A:Hp} (h:Lq H A) {b o:Nat} {vs:List AV} {H':Hp} (e:H.store b o vs=some H'): ∃ A',A.store b o vs=some A'∧Lq H' A':=by
 obtain ⟨bl,cs,hb,hr,hs,ho,rfl⟩:=store_inv e
 obtain ⟨r,e1,h1⟩:=h.so b bl hb
 obtain rfl:=h1 hr
 refine ⟨{ A with m:=A.m.set b (some ⟨cs,bl.es,true⟩) },?_,h.set b _ _ (.inr ⟨_,true,rfl,rfl,fun _=>rfl⟩)⟩
 unfold Hp.store
 rw [e1]
 simp only [Bool.true_and,hs,ho]
theorem Lq.new {A:Hp} (h:Lq H A) (cells:List AV) (es:Nat):Lq (H.new cells es) (A.new cells es):=by
 have:=(h.set H.nx (some ⟨cells,es,true⟩) (some ⟨cells,es,true⟩) (.inr ⟨_,true,rfl,rfl,id⟩)).up (H.nx+1)
 unfold Hp.new
 rw [h.nx]
 exact this
theorem Lq.append {A:Hp} (h:Lq H A) {es bytes:Nat} {s v:AV} {new:List AV} {n:Nat} {H':Hp} (e:Eng.append es bytes H s new n=some (v,H')): ∃ A',Eng.append es bytes A s new n=some (v,A')∧Lq H' A':=by
 unfold Eng.append at e ⊢
 split at e
 ·split at e
  ·rename_i hc
   (try simp only [hc])
   cases e
   exact ⟨_,rfl,h⟩
  ·rename_i hc
   try simp only [hc]
   split at e
   ·rename_i hc2;try simp only [hc2]
    cases e;exact ⟨_,by rw [h.nx],h.new _ _⟩
   ·cases e
 ·simp only [h.firsts,h.nx]
  split at e
  ·rename_i hc
   try simp only [hc]
   split at e
   ·rename_i hs
    cases e
    obtain ⟨A',e1,e2⟩:=h.store hs
    exact ⟨A',by rw [e1],e2⟩
   ·cases e
  ·rename_i hc
   try simp only [hc]
   split at e
   ·cases e
   ·rename_i hc2
    try simp only [hc2]
    split at e
    ·cases e
    ·rename_i old ho
     try simp only [ho]
     split at e
     ·cases e;exact ⟨_,rfl,h.new _ _⟩
     ·split at e
      ·cases e
      ·rename_i bl hb
       obtain ⟨r,e1,h1⟩:=h.so _ bl hb
       simp only [e1]
       split at e
       ·rename_i hq
        rw [Bool.and_eq_true] at hq
        obtain rfl:=h1 hq.1
        cases e
        simp only [Bool.true_and,hq.2]
        exact ⟨_,rfl,Lq.new (h.set _ none none (.inl ⟨rfl,rfl⟩)) _ _⟩
       ·cases e
 ·cases e
theorem Lq.mkb {A:Hp} (h:Lq H A) {T:Tr AV} {k:IK} {v:AV} {H':Hp} (e:(match ikMk T k with | some (d,cs,es)=>some (d.at_ H.nx,H.new cs es) | none=>none)=some (v,H')): ∃ A',(match ikMk T k with | some (d,cs,es)=>some (d.at_ A.nx,A.new cs es) | none=>none)=some (v,A')∧Lq H' A':=by
 split at e
 ·cases e;exact ⟨_,by rw [h.nx],h.new _ _⟩
 ·cases e
theorem Lq.run {A:Hp} (h:Lq H A) {T:Tr AV} {k:IK} {v:AV} {H':Hp} (e:ikRun T H k=some (v,H')): ∃ A',ikRun T A k=some (v,A')∧Lq H' A':=by
 cases k with
 | load n agg x=>
  simp only [ikRun,h.load] at e ⊢
  repeat' (split at e)
  all_goals first | (cases e;exact ⟨_,rfl,h⟩) | cases e
 | toStr x=>
  simp only [ikRun,h.firsts] at e ⊢
  repeat' (split at e)
  all_goals first | (cases e;exact ⟨_,rfl,h⟩) | cases e
 | store n a x=>
  simp only [ikRun] at e ⊢
  split at e
  ·split at e
   ·rename_i hc
    try simp only [hc]
    split at e
    ·rename_i hs
     cases e
     obtain ⟨A',e1,e2⟩:=h.store hs
     exact ⟨A',by rw [e1],e2⟩
    ·cases e
   ·cases e
  ·cases e
 | append es bytes x y=>
  simp only [ikRun,h.firsts] at e ⊢
  split at e
  ·split at e
   ·exact h.append e
   ·cases e
  ·cases e
 | appendN es bytes z x y=>
  simp only [ikRun] at e ⊢
  split at e
  ·rename_i n _
   split at e
   ·rename_i hc
    try simp only [hc]
    exact h.append e
   ·cases e
  ·cases e
 | copy es x y=>
  simp only [ikRun,h.firsts] at e ⊢
  split at e
  ·split at e
   ·split at e
    ·split at e
     ·rename_i hs
      cases e
      obtain ⟨A',e1,e2⟩:=h.store hs
      exact ⟨A',by rw [e1],e2⟩
     ·cases e
    ·cases e;exact ⟨_,rfl,h⟩
    ·cases e
   ·cases e
  ·cases e
 | clear z x=>
  simp only [ikRun] at e ⊢
  split at e
  ·cases e;exact ⟨_,rfl,h⟩
  ·split at e
   ·rename_i hc;cases e;(try simp only [hc]);exact ⟨_,rfl,h⟩
   ·rename_i hc
    try simp only [hc]
    split at e
    ·rename_i hs
     cases e
     obtain ⟨A',e1,e2⟩:=h.store hs
     exact ⟨A',by rw [e1],e2⟩
    ·cases e
  ·cases e
 | box n tg x=>exact h.mkb e
 | buildSlice l es z ps=>exact h.mkb e
 | toBytes x=>exact h.mkb e
 | mkslice es b z x y=>exact h.mkb e
 | _=>
  simp only [ikRun] at e ⊢
  repeat' (split at e)
  all_goals first | (cases e;exact ⟨_,rfl,h⟩) | cases e
end
theorem Ex1.get {p:P1} {P:AV→Prop} (h:Ex1 p P): ∃ v,P v:=by
 cases p <;> exact ⟨_,h.choose_spec⟩
theorem Ex1s.get: ∀ {l:List P1} {P:List AV→Prop},Ex1s l P→ ∃ vs,P vs
 | [],P,h=>⟨[],h⟩
 | p::l,P,h=>by
  obtain ⟨v,hv⟩:=Ex1.get h
  obtain ⟨vs,hvs⟩:=Ex1s.get hv
  exact ⟨_,hvs⟩
theorem ExV.get {p:VP} {P:AV→Prop} (h:ExV p P): ∃ v,P v:=by
 cases p with
 | one p=>exact Ex1.get h
 | agg l=>exact ⟨_,(Ex1s.get h).choose_spec⟩
theorem ExVs.get: ∀ {l:List VP} {P:List AV→Prop},ExVs l P→ ∃ vs,P vs
 | [],P,h=>⟨[],h⟩
 | p::l,P,h=>by
  obtain ⟨v,hv⟩:=ExV.get h
  obtain ⟨vs,hvs⟩:=ExVs.get hv
  exact ⟨_,hvs⟩
theorem ExR.get {p:RP} {P:AV→Prop} (h:ExR p P): ∃ v,P v:=by
 cases p with
 | one p=>exact ExV.get h
 | tup l=>exact ⟨_,(ExVs.get h).choose_spec⟩
theorem Chk.inv {b:Bool} {P:Prop} (h:Chk b P):b=true∧P:=by
 cases b with
 | true=>exact ⟨rfl,h⟩
 | false=>cases h
theorem IfB.inv {b:Bool} {P Q:Prop} (h:IfB b P Q):(b=true∧P)∨(b=false∧Q):=by
 cases b with
 | true=>exact .inl ⟨rfl,h⟩
 | false=>exact .inr ⟨rfl,h⟩
theorem celK.inv {ag:Bool} {v:AV} {K:List AV→Prop} (h:celK ag v K):K v.cells:=by
 unfold celK at h
 split at h
 ·split at h
  ·exact h
  ·cases h
 ·obtain ⟨h1,h2⟩:=h.inv
  cases v <;> first | exact h2 | cases h1
theorem fillW.inv: ∀ {ps:List (Nat × Nat × AV)} {cells:List AV} {ag:List Bool} {K:List AV→Prop},fillW cells ps ag K→ ∃ cs,fillP cells ps=some cs∧K cs
 | [],cells,ag,K,h=>⟨cells,rfl,h⟩
 | (off,n,v)::r,cells,ag,K,h=>by
  rw [fillW] at h
  obtain ⟨h1,h2⟩:=h.inv.inv
  split at h2
  ·rename_i l hl
   obtain ⟨cs,h3,h4⟩:=fillW.inv h2
   refine ⟨cs,?_,h4⟩
   rw [fillP,h1,hl]
   exact h3
  ·cases h2
theorem ptrM.inv {v:AV} {K:Nat→Nat→Prop} (h:ptrM v K): ∃ b o,v= .ptr b o∧K b o:=by
 unfold ptrM at h
 split at h
 ·exact ⟨_,_,rfl,h⟩
 ·cases h
theorem pickW.inv {c a b:AV} {K:AV→Prop} (h:pickW c a b K): ∃ x,c= .bool x∧K (match x with | true=>a | false=>b):=by
 unfold pickW at h
 split at h
 ·rename_i c
  refine ⟨c,rfl,?_⟩
  split at h
  ·cases c <;> exact h
  ·rcases h.inv with ⟨rfl,h⟩ | ⟨rfl,h⟩ <;> exact h
 ·cases h
theorem binW.inv {op:BinOp} {x y:AV} {K:AV→Prop} (h:binW op x y K): ∃ v,bin op x y=some v∧K v:=by
 unfold binW at h
 split at h
 ·rename_i k x k' y
  simp only [bin]
  split at h
  ·obtain ⟨h1,h2⟩:=h.inv
   have h1:ltI y 0=false:=by simpa using h1
   exact ⟨_,by simp only [binI,h1],h2⟩
  ·obtain ⟨h1,h2⟩:=h.inv
   have h1:ltI y 0=false:=by simpa using h1
   exact ⟨_,by simp only [binI,h1],h2⟩
  ·rename_i op n1 n2
   obtain ⟨h1,h2⟩:=h.inv
   split at h2 <;> first | (cases h2;done) | skip
   case h_1=>
    obtain ⟨h3,h4⟩:=h2.inv
    have h3:eqI y 0=false:=by simpa using h3
    exact ⟨_,by simp only [binI,h1,h3],h4⟩
   case h_2=>
    obtain ⟨h3,h4⟩:=h2.inv
    have h3:eqI y 0=false:=by simpa using h3
    exact ⟨_,by simp only [binI,h1,h3],h4⟩
   all_goals exact ⟨_,by simp only [binI,h1],h2⟩
 ·rename_i x y
  simp only [bin]
  split at h <;> first | (cases h;done) | skip
  case h_1=>
   obtain ⟨h1,h2⟩:=h.inv
   exact ⟨_,by simp only [binS,h1],h2⟩
  all_goals exact ⟨_,by simp only [binS],h⟩
 ·cases h
section
variable {V:Env} {Y:Yh} {C:Nat→Cl}
def YhOk (C:Nat→Cl) (Y:Yh):Prop:= ∀ i args H Q,Y i args H Q→Ok H→ ∃ v H',Ok H'∧Mo H H'∧Q v H'∧ ∃ n0, ∀ n,n0≤n→ ∀ A,Lq H A→ ∃ A',(C n).yl i args A=some (v,A')∧Lq H' A'
theorem noYh_ok (C:Nat→Cl):YhOk C noYh:=fun _ _ _ _ h=>h.elim
theorem wpI_ok (hC: ∀ n,(C n).fn=V.all n) (hY:YhOk C Y) {o:AOp} {E:Ev} {H:Hp} {K:AV→Hp→Prop} {T:Tr AV} (hT:ET T E) (hH:Ok H) (h:wpI V Y o E H K):
  ∃ v H',Ok H'∧Mo H H'∧K v H'∧ ∃ n0, ∀ n,n0≤n→ ∀ A,Lq H A→ ∃ A',ikStep (C n) T A o.k=some (v,A')∧Lq H' A':=by
 have key: ∀ v H',(∀ n A,ikStep (C n) T A o.k=ikRun T A o.k)→ikRun T H o.k=some (v,H')→K v H'→ ∃ v H',Ok H'∧Mo H H'∧K v H'∧ ∃ n0, ∀ n,n0≤n→ ∀ A,Lq H A→ ∃ A',ikStep (C n) T A o.k=some (v,A')∧Lq H' A':=fun v H' h0 h1 h2=>
  ⟨v,H',(ikRun_ok hH h1).1,(ikRun_ok hH h1).2,h2,0,fun n _ A hA=>by rw [h0];exact hA.run h1⟩
 unfold wpI at h
 revert h key
 generalize o.k=k
 intro h key
 cases k with
 | move x=>exact key _ _ (fun _ _=>rfl) (by simp only [ikRun,hT.at]) h
 | pick c a b=>
  obtain ⟨x,hx,hk⟩:=h.inv
  refine key _ _ (fun _ _=>rfl) ?_ hk
  simp only [ikRun,hT.at,hx]
  cases x <;> rfl
 | box n tg x=>
  obtain ⟨h1,h2⟩:=h.inv.inv
  exact key _ _ (fun _ _=>rfl) (by simp only [ikRun,ikMk,hT.at,h1];rfl) h2
 | build z ps=>
  obtain ⟨cs,h1,h2⟩:=h.inv
  exact key _ _ (fun _ _=>rfl) (by simp only [ikRun,hT.atp,h1]) h2
 | buildSlice ln es z ps=>
  obtain ⟨cs,h1,h2⟩:=h.inv
  obtain ⟨h3,h4⟩:=h2.inv
  exact key _ _ (fun _ _=>rfl) (by simp only [ikRun,ikMk,hT.atp,h1,h3];rfl) h4
 | load n agg x=>
  obtain ⟨b,q,hx,h1⟩:=h.inv
  split at h1
  ·obtain ⟨vs,h2,h3⟩:=Ex1s.get h1
   exact key _ _ (fun _ _=>rfl) (by simp only [ikRun,hT.at,hx,h2]) h3
  ·obtain ⟨v,h2,h3⟩:=Ex1.get h1
   exact key _ _ (fun _ _=>rfl) (by simp only [ikRun,hT.at,hx,h2]) h3
  ·cases h1
 | store n a x=>
  obtain ⟨b,q,hx,h1⟩:=h.inv
  obtain ⟨h2,H1,h3,h4⟩:=h1.inv.inv
  exact key _ _ (fun _ _=>rfl) (by simp only [ikRun,hT.at,hx,h2,h3]) h4
 | nilc x=>
  simp only at h
  split at h
  ·obtain ⟨b,q,hx,h1⟩:=ptrM.inv h
   exact key _ _ (fun _ _=>rfl) (by simp only [ikRun,hT.at,hx]) h1
  unfold nilM at h
  split at h
  ·rename_i hx;exact key _ _ (fun _ _=>rfl) (by simp only [ikRun,hT.at,hx]) h
  ·rename_i hx;exact key _ _ (fun _ _=>rfl) (by simp only [ikRun,hT.at,hx]) h
  ·cases h
 | bin op x y=>
  obtain ⟨v,h1,h2⟩:=h.inv
  exact key _ _ (fun _ _=>rfl) (by simp only [ikRun,hT.at,h1]) h2
 | eqv c neg x y=>
  simp only [eqM] at h
  split at h
  ·rename_i b hb;exact key _ _ (fun _ _=>rfl) (by simp only [ikRun,hT.at,hb]) h
  ·cases h
 | un op x=>
  simp only at h
  split at h
  ·rename_i v hv;exact key _ _ (fun _ _=>rfl) (by simp only [ikRun,hT.at,hv]) h
  ·cases h
 | toInt k x=>
  simp only at h
  split at h
  ·rename_i hv;exact key _ _ (fun _ _=>rfl) (by simp only [ikRun,hT.at,hv]) h
  ·cases h
 | movestr x=>
  simp only at h
  split at h
  ·rename_i hv;exact key _ _ (fun _ _=>rfl) (by simp only [ikRun,hT.at,hv]) h
  ·cases h
 | toBytes x=>
  simp only at h
  split at h
  ·rename_i hv;exact key _ _ (fun _ _=>rfl) (by simp only [ikRun,ikMk,hT.at,hv];rfl) h
  ·cases h
 | toStr x=>
  obtain ⟨s,h1,h2⟩:=h
  refine key _ _ (fun _ _=>rfl) ?_ h2
  simp only [ikRun,hT.at]
  unfold toStrF at h1
  split at h1
  ·rename_i hx;rw [hx];cases h1;rfl
  ·rename_i hx
   rw [hx]
   split at h1
   ·rename_i hc;simp only [hc,h1]
   ·cases h1
  ·cases h1
 | mkfun f a b=>exact key _ _ (fun _ _=>rfl) (by simp only [ikRun,hT.ats]) h
 | mkslice es bytes zero ln cp=>
  simp only at h
  split at h
  ·rename_i hl hc
   obtain ⟨l',c',rfl,rfl,h1,h2,h3,h4⟩:=h
   obtain ⟨h5,h6⟩:=h4.inv
   refine key _ _ (fun _ _=>rfl) ?_ h6
   simp only [ikRun,ikMk,hT.at,hl,hc]
   rw [show (Nat.ble l' c'&&(Nat.ble (c'*bytes) Eng.room&&(Nat.ble c' Eng.room&&okNew es zero)))=true by
    simp only [Bool.and_eq_true,Nat.ble_eq];exact ⟨h1,h2,h3,h5⟩]
   rfl
  ·cases h
 | slice es x lo hi mx=>
  obtain ⟨v,h1,h2⟩:=h
  exact key _ _ (fun _ _=>rfl) (by simp only [ikRun,hT.at,hT.ato,h1]) h2
 | substr x lo hi=>
  simp only at h
  split at h
  ·rename_i s hs
   obtain ⟨r,h1,h2⟩:=h
   refine key _ _ (fun _ _=>rfl) ?_ h2
   simp only [ikRun,hT.at,hT.ato,hs]
   unfold subF at h1
   split at h1
   ·rename_i hb;cases h1;rw [hb]
   ·cases h1
  ·cases h
 | arrslice n es x lo hi mx=>
  obtain ⟨b,q,hx,l,hh,m,h1,h2⟩:=h.inv
  exact key _ _ (fun _ _=>rfl) (by simp only [ikRun,hT.at,hT.ato,hx,h1]) h2
 | faddr off x=>
  obtain ⟨b,q,hx,h1⟩:=h.inv
  exact key _ _ (fun _ _=>rfl) (by simp only [ikRun,hT.at,hx]) h1
 | field off n agg x=>
  simp only at h
  split at h
  ·rename_i cs hx
   split at h
   ·rename_i r hr
    split at h
    ·exact key _ _ (fun _ _=>rfl) (by simp only [ikRun,hT.at,hx,hr]) h
    ·split at h
     ·exact key _ _ (fun _ _=>rfl) (by simp only [ikRun,hT.at,hx,hr]) h
     ·cases h
   ·cases h
  ·cases h
 | iaddr es x i=>
  simp only at h
  split at h
  ·rename_i k j hi
   obtain ⟨b,q,h1,h2⟩:=h
   refine key _ _ (fun _ _=>rfl) ?_ h2
   simp only [ikRun,hT.at,hi]
   unfold ixF at h1
   split at h1
   ·rename_i hx
    rw [hx]
    split at h1
    ·rename_i hb
     cases h1
     simp only [hb]
    ·cases h1
   ·cases h1
  ·cases h
 | arraddr ln es x i=>
  obtain ⟨b,q,hx,h1⟩:=h.inv
  split at h1
  ·rename_i k j hi
   obtain ⟨j',rfl,h2,h3⟩:=h1
   exact key _ _ (fun _ _=>rfl) (by simp only [ikRun,hT.at,hx,hi,bltT h2]) h3
  ·cases h1
 | strix x i=>
  simp only at h
  split at h
  ·rename_i s k j hx hi
   obtain ⟨c,h1,h2⟩:=h
   refine key _ _ (fun _ _=>rfl) ?_ h2
   simp only [ikRun,hT.at,hx,hi]
   unfold sixF at h1
   split at h1
   ·simp only [h1]
   ·cases h1
  ·cases h
 | arrix ln es agg x i=>
  simp only at h
  split at h
  ·rename_i cs k j hx hi
   obtain ⟨j',rfl,h2,h3⟩:=h
   split at h3
   ·obtain ⟨vs,h4,h5⟩:=Ex1s.get h3
    exact key _ _ (fun _ _=>rfl) (by simp only [ikRun,hT.at,hx,hi,bltT h2,h4]) h5
   ·obtain ⟨v,h4,h5⟩:=Ex1.get h3
    exact key _ _ (fun _ _=>rfl) (by simp only [ikRun,hT.at,hx,hi,bltT h2,h4]) h5
   ·cases h3
  ·cases h
 | ext x i=>
  simp only at h
  split at h
  ·rename_i l hx
   split at h
   ·rename_i v hv;exact key _ _ (fun _ _=>rfl) (by simp only [ikRun,hT.at,hx,hv]) h
   ·cases h
  ·cases h
 | append es bytes x y=>
  obtain ⟨v,H1,h1,h2⟩:=h
  refine key _ _ (fun _ _=>rfl) ?_ h2
  simp only [ikRun,hT.at]
  unfold appF at h1
  split at h1
  ·rename_i hn
   rw [hn]
   split at h1
   ·rename_i hf;simp only [hf,h1]
   ·cases h1
  ·cases h1
 | appendN es bytes zero x y=>
  simp only at h
  split at h
  ·rename_i k n hy
   obtain ⟨v,H1,h1,h2⟩:=h
   refine key _ _ (fun _ _=>rfl) ?_ h2
   simp only [ikRun,hT.at,hy]
   unfold appNF at h1
   split at h1
   ·split at h1
    ·rename_i hb;simp only [hb,h1]
    ·cases h1
   ·cases h1
  ·cases h
 | len x=>
  obtain ⟨n,h1,h2⟩:=h
  refine key _ _ (fun _ _=>rfl) ?_ h2
  simp only [ikRun,hT.at]
  unfold lenS at h1
  split at h1
  ·rename_i hx;cases h1;rw [hx]
  ·rename_i hx;cases h1;rw [hx]
  ·cases h1
 | strlen x=>
  simp only at h
  split at h
  ·rename_i hv;exact key _ _ (fun _ _=>rfl) (by simp only [ikRun,hT.at,hv]) h
  ·cases h
 | cap x=>
  obtain ⟨n,h1,h2⟩:=h
  refine key _ _ (fun _ _=>rfl) ?_ h2
  simp only [ikRun,hT.at]
  unfold capF at h1
  split at h1
  ·rename_i hx;cases h1;rw [hx];rfl
  ·rename_i hx;cases h1;rw [hx]
  ·cases h1
 | const n=>exact key _ _ (fun _ _=>rfl) rfl h
 | copy es x y=>
  obtain ⟨n,H1,h1,h2⟩:=h
  refine key _ _ (fun _ _=>rfl) ?_ h2
  simp only [ikRun,hT.at]
  revert h1
  generalize Opd.at E x=a
  generalize Opd.at E y=b
  intro h1
  unfold copyF at h1
  split at h1
  ·rename_i d m hd hm
   simp only [hd,hm]
   split at h1
   ·rename_i cs hf
    simp only [hf]
    cases a with
    | slice b o l c e=>
     simp only at h1 ⊢
     split at h1
     ·rename_i hs;cases h1;simp only [hs]
     ·cases h1
    | nils=>cases h1;rfl
    | _=>cases h1
   ·cases h1
  ·cases h1
 | clear zero x=>
  obtain ⟨H1,h1,h2⟩:=h
  refine key _ _ (fun _ _=>rfl) ?_ h2
  simp only [ikRun,hT.at]
  revert h1
  generalize Opd.at E x=a
  intro h1
  cases a with
  | nils=>cases h1;rfl
  | slice b o l c e=>
   simp only [clearF] at h1 ⊢
   split at h1
   ·rename_i hb;cases h1;(try simp only [hb])
   ·rename_i hb;(try simp only [hb]);rw [h1]
  | _=>cases h1
 | mn x r=>
  simp only at h
  split at h
  ·rename_i v hv;exact key _ _ (fun _ _=>rfl) (by simp only [ikRun,hT.at,hT.ats,hv]) h
  ·cases h
 | mx x r=>
  simp only at h
  split at h
  ·rename_i v hv;exact key _ _ (fun _ _=>rfl) (by simp only [ikRun,hT.at,hT.ats,hv]) h
  ·cases h
 | call f args=>
  obtain ⟨v,H1,h1,h2,h3,n0,h4⟩:=h hH
  obtain ⟨u,rfl,h5⟩:=ExR.get h3
  exact ⟨v,H1,h1,h2,h5,n0,fun n hn A hA=>by simp only [ikStep,hC,hT.ats];exact h4 n hn A hA⟩
 | callv fv args=>
  simp only [callM] at h
  split at h
  ·rename_i f first caps hf
   obtain ⟨v,H1,h1,h2,h3,n0,h4⟩:=h hH
   obtain ⟨u,rfl,h5⟩:=ExR.get h3
   exact ⟨v,H1,h1,h2,h5,n0,fun n hn A hA=>by simp only [ikStep,hC,hT.ats,hT.at,hf];exact h4 n hn A hA⟩
  ·rename_i i hf
   obtain ⟨v,H1,h1,h2,h3,n0,h4⟩:=hY _ _ _ _ h hH
   obtain ⟨u,rfl,h5⟩:=ExR.get h3
   exact ⟨v,H1,h1,h2,h5,n0,fun n hn A hA=>by simp only [ikStep,hT.ats,hT.at,hf];exact h4 n hn A hA⟩
  ·cases h
 | bad=>cases h
theorem memN_iff {i:Nat}: ∀ {l:List Nat},memN i l=true↔i∈l
 | []=>by simp [memN]
 | j::l=>by
  rw [memN]
  cases hb:Nat.beq i j with
  | true=>have:=Tr.beq_t hb;subst this;simp
  | false=>
   have:=Tr.beq_f hb
   simp only [memN_iff (l:=l),List.mem_cons]
   exact ⟨.inr,fun h=>h.resolve_left this⟩
theorem memN_f {i:Nat} {l:List Nat} (h:i ∉ l):memN i l=false:=by
 cases hb:memN i l with
 | true=>exact absurd (memN_iff.1 hb) h
 | false=>rfl
def Same (ms:List Nat) (E E':Ev):Prop:= ∀ i,i ∉ ms→E' i=E i
theorem Same.refl (ms:List Nat) (E:Ev):Same ms E E:=fun _ _=>rfl
theorem Same.trans {a b:List Nat} {E E1 E2:Ev} (h:Same a E E1) (k:Same b E1 E2):Same (a++b) E E2:=fun i hi=>
 (k i fun m=>hi (List.mem_append.2 (.inr m))).trans (h i fun m=>hi (List.mem_append.2 (.inl m)))
theorem Same.mono {a b:List Nat} {E E1:Ev} (h:Same a E E1) (k: ∀ i,i∈a→i∈b):Same b E E1:=fun i hi=>h i fun m=>hi (k i m)
theorem Same.updO (E:Ev) (d:Option Nat) (v:AV) (l:List Nat):Same (consO d l) E (Eng.updO E d v):=by
 cases d with
 | none=>exact Same.refl _ _
 | some d=>intro i hi;simp only [Eng.updO,upd_at];rw [if_neg fun e=>hi (by simp [consO,e])]
theorem mem_consO {d:Option Nat} {l:List Nat} {i:Nat} (h:i∈l):i∈consO d l:=by
 cases d with
 | none=>exact h
 | some d=>exact List.mem_cons_of_mem _ h
theorem upd_same {E:Ev} {t:Nat} {v:AV} (h:E t=v) (i:Nat):upd E t v i=E i:=by
 rw [upd_at]
 split
 ·rename_i e;rw [e,h]
 ·rfl
theorem updM_of {E E':Ev} {ms:List Nat} (h:Same ms E E') (L:List (Nat × VP)):updM E ms E' L (valsL E' L)=E':=by
 funext i
 have hl: ∀ L,(∃ v,lkL L (valsL E' L) i=some v∧v=E' i)∨lkL L (valsL E' L) i=none:=by
  intro L
  induction L with
  | nil=>exact .inr rfl
  | cons a L ih=>
   obtain ⟨j,p⟩:=a
   simp only [valsL,lkL]
   cases hb:Nat.beq i j with
   | true=>exact .inl ⟨_,rfl,by rw [Tr.beq_t hb]⟩
   | false=>exact ih
 unfold updM
 rcases hl L with ⟨v,h1,h2⟩ | h1
 ·rw [h1];exact h2
 ·rw [h1]
  cases hb:memN i ms with
  | true=>rfl
  | false=>exact (h i fun m=>by rw [memN_iff.2 m] at hb;cases hb).symm
theorem ap1_of {p:P1} {v:AV} {K:T1 p→Hp→Prop} {H:Hp} (h:ap1 p v K H) {Q:T1 p→AV→Prop} (ha:all1 p Q): ∃ x,K x H∧Q x v:=by
 cases p with
 | i k=>
  cases v with
  | int k' n=>
   have h2:(match Nat.beq (top k) (top k') with | true=>K n | false=>fun _=>False) H:=h
   revert h2
   cases hb:Nat.beq (top k) (top k') with
   | true=>
    intro h2
    have:=Tr.beq_t hb
    have hk:k=k':=by cases k <;> cases k' <;> first | rfl | (revert this;decide)
    subst hk
    exact ⟨n,h2,ha n⟩
   | false=>intro h2;exact h2.elim
  | _=>cases h
 | b=>
  cases v with
  | bool b=>exact ⟨b,h,ha b⟩
  | _=>cases h
 | s=>
  cases v with
  | str s=>exact ⟨s,h,ha s⟩
  | _=>cases h
 | v=>exact ⟨v,h,ha v⟩
theorem ap1s_of: ∀ {l:List P1} {X:Type} {I:IT1 l X} {vs:List AV} {K:X→Hp→Prop} {H:Hp},ap1s l I vs K H→ ∀ {Q:X→List AV→Prop},all1s l I Q→ ∃ x,K x H∧Q x vs
 | [],X,I,[],K,H,h,Q,ha=>⟨I,h,ha⟩
 | [],X,I,_::_,K,H,h,Q,ha=>by cases h
 | p::l,X,I,[],K,H,h,Q,ha=>by cases h
 | p::l,X,I,v::vs,K,H,h,Q,ha=>by
  obtain ⟨x,h1,h2⟩:=ap1_of (p:=p) (K:=fun x=>ap1s l (I x) vs K) (Q:=fun x v=>all1s l (I x) fun y vs=>Q y (v::vs)) h ha
  exact ap1s_of (l:=l) (I:=I x) (Q:=fun y vs=>Q y (v::vs)) h1 h2
theorem apI_of: ∀ {L:List (Nat × VP)} {I:IT L} {vs:List AV} {H:Hp},apI L I vs H→ ∀ {B:(Hp→Prop)→List AV→Prop},allI L I B→ ∃ h:Hp→Prop,h H∧B h vs
 | [],I,[],H,h,B,ha=>⟨I,h,ha⟩
 | [],I,_::_,H,h,B,ha=>by cases h
 | (j, .one p)::r,I,[],H,h,B,ha=>by cases h
 | (j, .agg l)::r,I,[],H,h,B,ha=>by cases h
 | (j, .one p)::r,I,v::vs,H,h,B,ha=>by
  obtain ⟨x,h1,h2⟩:=ap1_of (p:=p) (K:=fun x=>apI r (I x) vs) (Q:=fun x v=>allI r (I x) fun h vs=>B h (v::vs)) h ha
  exact apI_of (L:=r) (I:=I x) (B:=fun h vs=>B h (v::vs)) h1 h2
 | (j, .agg l)::r,I,v::vs,H,h,B,ha=>by
  cases v with
  | agg cs=>
   obtain ⟨x,h1,h2⟩:=ap1s_of (l:=l) (I:=I) (K:=fun I'=>apI r I' vs) (Q:=fun x cs=>allI r x fun h vs=>B h (.agg cs::vs)) h ha
   exact apI_of (L:=r) (I:=x) (B:=fun h vs=>B h (.agg cs::vs)) h1 h2
  | _=>exact h.elim
theorem er_grp {t:Nat} {pol:Bool} {a:Items} {d:Nat} {p:P1} {x:Opd} {oth:AV} {l:Items} (g:Option (Nat × Bool)):(Items.grp t pol a d p x oth l).er g=a.er (some (t,pol))++⟨some d,g,pickK t pol x oth⟩::l.er g:=rfl
theorem skip_run: ∀ (a:Items) (l:List Nat) (g:Nat × Bool) (T:Tr AV) (E:Ev),ET T E→a.dead l=true→g.1 ∉ a.mods→(∀ b,E g.1= .bool b→b= !g.2)→(∀ t∈l,E t= .undef)→
  ∃ T' E',ET T' E'∧Same a.mods E E'∧(∀ t∈a.mods++l,E' t= .undef)∧ ∀ call H r,regRun call (a.er (some g)++r) T H=regRun call r T' H
 | .nil,l,g,T,E,hT,hd,hm,hg,hl=>⟨T,E,hT,Same.refl _ _,fun t ht=>hl t (by simpa [Items.mods] using ht),fun _ _ r=>rfl⟩
 | .op o a,l,g,T,E,hT,hd,hm,hg,hl=>by
  have hw:wants T (some g)=false:=by
   have:=hT g.1
   simp only [Opd.ev] at this
   simp only [wants]
   split
   ·rename_i x hx
    rw [hx] at this
    have:=hg x this.symm
    subst this
    cases g.2 <;> rfl
   ·rfl
  have hne: ∀ i,i≠g.1∨o.d≠some i:=fun i=>by
   by_cases e:i=g.1
   ·refine .inr fun h=>hm ?_
    rw [←e,Items.mods,h]
    exact List.mem_cons_self
   ·exact .inl e
  have hgd:updO E o.d .undef g.1=E g.1:=by
   cases hd':o.d with
   | none=>rfl
   | some d=>
    rw [updO,upd_at,if_neg fun e=>?_]
    rcases hne g.1 with q | q
    ·exact q rfl
    ·exact q (by rw [hd',e])
  obtain ⟨T',E',h1,h2,h3,h4⟩:=skip_run a (consO o.d l) g (Eng.put T o.d .undef) (updO E o.d .undef) (hT.put o.d .undef) hd (fun m=>hm (mem_consO m)) (fun b hb=>hg b (by rw [←hgd];exact hb)) (fun t ht=>by
   cases hd':o.d with
   | none=>rw [hd'] at ht;exact hl t ht
   | some d=>
    rw [hd'] at ht
    rw [updO,upd_at]
    split
    ·rfl
    ·rename_i hne;exact hl t ((List.mem_cons.1 ht).resolve_left hne))
  refine ⟨T',E',h1,?_,fun t ht=>h3 t ?_,fun call H r=>?_⟩
  ·exact ((Same.updO E o.d .undef []).trans h2).mono fun i hi=>by
    rw [Items.mods]
    cases hd':o.d with
    | none=>rw [hd'] at hi;simpa [consO] using hi
    | some d=>rw [hd'] at hi;simpa [consO] using hi
  ·rw [Items.mods] at ht
   cases hd':o.d with
   | none=>rw [hd'] at ht;simpa [consO] using ht
   | some d=>rw [hd'] at ht;simp only [consO,List.cons_append,List.mem_cons,List.mem_append] at ht ⊢; rcases ht with q | q | q <;> simp [q]
  ·rw [Items.er,List.cons_append,regRun,hw]
   exact h4 call H r
 | .grp t pol a d p x oth r0,l,g,T,E,hT,hd,hm,hg,hl=>by
  simp only [Items.dead,Bool.and_eq_true] at hd
  obtain ⟨d1,d2,d3,d4⟩:=hd
  have ht:t∈l:=memN_iff.1 d1
  have htu:=hl t ht
  have htm:t ∉ a.mods:=fun m=>by rw [memN_iff.2 m] at d2;cases d2
  have hm1:g.1 ∉ a.mods:=fun m=>hm (by rw [Items.mods];exact List.mem_append.2 (.inl m))
  have hm2:g.1≠d:=fun m=>hm (by rw [Items.mods,m];exact List.mem_append.2 (.inr List.mem_cons_self))
  have hm3:g.1 ∉ r0.mods:=fun m=>hm (by rw [Items.mods];exact List.mem_append.2 (.inr (List.mem_cons_of_mem _ m)))
  obtain ⟨T1,E1,h1,h2,h3,h4⟩:=skip_run a l (t,pol) T E hT d3 htm (fun b hb=>by rw [show E (t,pol).1=E t from rfl,htu] at hb;cases hb) hl
  have hg1:E1 g.1=E g.1:=h2 _ hm1
  obtain ⟨T2,E2,k1,k2,k3,k4⟩:=skip_run r0 (d::(a.mods++l)) g (Eng.put T1 (some d) .undef) (updO E1 (some d) .undef) (h1.put _ _) d4 hm3
   (fun b hb=>hg b (by rw [updO,upd_at,if_neg hm2] at hb;rw [←hg1];exact hb))
   (fun u hu=>by
    rw [updO,upd_at]
    split
    ·rfl
    ·rename_i hne;exact h3 u ((List.mem_cons.1 hu).resolve_left hne))
  refine ⟨T2,E2,k1,?_,fun u hu=>k3 u ?_,fun call H r=>?_⟩
  ·refine ((h2.trans (Same.updO E1 (some d) .undef [])).trans k2).mono fun i hi=>?_
   rw [Items.mods]
   simp only [consO,List.append_assoc,List.mem_append,List.mem_cons,List.not_mem_nil,or_false,List.nil_append,List.cons_append] at hi ⊢
   exact hi
  ·rw [Items.mods] at hu
   simp only [List.append_assoc,List.mem_append,List.mem_cons,List.cons_append] at hu ⊢
   rcases hu with q | q | q | q <;> simp [q]
  ·have hw:wants T1 (some g)=false:=by
    have:=h1 g.1
    simp only [Opd.ev] at this
    simp only [wants]
    split
    ·rename_i x hx
     rw [hx,hg1] at this
     have:=hg x this.symm
     subst this
     cases g.2 <;> rfl
    ·rfl
   rw [er_grp,List.append_assoc,h4,List.cons_append,regRun,hw]
   exact k4 call H r
theorem wants_true {T:Tr AV} {E:Ev} (hT:ET T E) {t:Nat} {pol c:Bool} (h:E t= .bool c):wants T (some (t,pol))=(match pol with | true=>c | false=> !c):=by
 have h1:=hT t
 rw [h] at h1
 simp only [Opd.ev] at h1
 unfold wants
 cases hg:T.get t with
 | none=>rw [hg] at h1;cases h1
 | some v=>
  rw [hg] at h1
  simp only at h1
  subst h1
  simp only [hg]
  cases c <;> cases pol <;> rfl
theorem wpR_ok (hC: ∀ n,(C n).fn=V.all n) (hY:YhOk C Y): ∀ (l:Items) (g:Option (Nat × Bool)) (E:Ev) (H:Hp) (K:Ev→Hp→Prop) (T:Tr AV),ET T E→Ok H→(∀ t pol,g=some (t,pol)→t ∉ l.mods∧E t= .bool pol)→wpR V Y l E H K→
  ∃ T' E' H',ET T' E'∧Same l.mods E E'∧Ok H'∧Mo H H'∧K E' H'∧ ∃ n0, ∀ n,n0≤n→ ∀ A,Lq H A→ ∃ A',Lq H' A'∧ ∀ r,regRun (C n) (l.er g++r) T A=regRun (C n) r T' A'
 | .nil,g,E,H,K,T,hT,hH,hg,h=>⟨T,E,H,hT,Same.refl _ _,hH,Mo.refl _,h,0,fun n _ A hA=>⟨A,hA,fun r=>rfl⟩⟩
 | .op o l,g,E,H,K,T,hT,hH,hg,h=>by
  obtain ⟨v,H1,h1,h2,h3,n1,h4⟩:=wpI_ok hC hY hT hH h
  obtain ⟨T',E',H',k1,k2,k3,k4,k5,n2,k6⟩:=wpR_ok hC hY l g (updO E o.d v) H1 K (Eng.put T o.d v) (hT.put _ _) h1 (fun t pol e=>by
   obtain ⟨m1,m2⟩:=hg t pol e
   refine ⟨fun m=>m1 (mem_consO m),?_⟩
   rw [←m2]
   exact Same.updO E o.d v l.mods t m1) h3
  refine ⟨T',E',H',k1,?_,k3,h2.trans k4,k5,max n1 n2,fun n hn A hA=>?_⟩
  ·exact fun i hi=>(k2 i fun m=>hi (mem_consO m)).trans (Same.updO E o.d v l.mods i hi)
  ·have hw:wants T g=true:=by
    cases g with
    | none=>rfl
    | some g=>
     obtain ⟨t,pol⟩:=g
     obtain ⟨_,m2⟩:=hg t pol rfl
     rw [wants_true hT m2]
     cases pol <;> rfl
   obtain ⟨A1,e1,e2⟩:=h4 n (by omega) A hA
   obtain ⟨A2,e3,e4⟩:=k6 n (by omega) A1 e2
   refine ⟨A2,e3,fun r=>?_⟩
   rw [Items.er,List.cons_append,regRun,hw]
   simp only
   rw [e1]
   exact e4 r
 | .grp t pol a d p x oth l,g,E,H,K,T,hT,hH,hg,h=>by
  obtain ⟨hb,h⟩:=Chk.inv h
  rw [Bool.and_eq_true] at hb
  obtain ⟨b1,b2⟩:=hb
  have htm:t ∉ a.mods:=fun m=>by rw [memN_iff.2 m] at b1;cases b1
  cases hc:E t with
  | bool c=>
   rw [hc] at h
   obtain ⟨I,hI,hrest⟩:=h
   -- the rest,from any state in which the picked value lies at d
   have rest: ∀ (T1:Tr AV) (E1:Ev) (H1:Hp) (v:AV),ET T1 E1→Same a.mods E E1→Ok H1→Mo H H1→apI [(d, .one p)] I [v] H1→(∀ (call:Cl) (A:Hp),ikStep call T1 A (pickK t pol x oth)=some (v,A))→
     (∃ n0, ∀ n,n0≤n→ ∀ A,Lq H A→ ∃ A',Lq H1 A'∧ ∀ r,regRun (C n) (a.er (some (t,pol))++r) T A=regRun (C n) r T1 A')→
     ∃ T' E' H',ET T' E'∧Same (Items.grp t pol a d p x oth l).mods E E'∧Ok H'∧Mo H H'∧K E' H'∧ ∃ n0, ∀ n,n0≤n→ ∀ A,Lq H A→ ∃ A',Lq H' A'∧ ∀ r,regRun (C n) ((Items.grp t pol a d p x oth l).er g++r) T A=regRun (C n) r T' A':=by
    intro T1 E1 H1 v hT1 hS1 hH1 hnx hap hst ⟨n1,hrun⟩
    have hE2:Same (d::a.mods) E (upd E1 d v):=fun i hi=>by
     rw [upd_at,if_neg fun e=>hi (by simp [e])]
     exact hS1 i fun m=>hi (List.mem_cons_of_mem _ m)
    obtain ⟨hh,q1,q2⟩:=apI_of hap (hrest H1 (upd E1 d v))
    have q3:=q2 q1
    have hEq:updM E (d::a.mods) (upd E1 d v) [(d, .one p)] [v]=upd E1 d v:=by
     have:=updM_of hE2 [(d, .one p)]
     rwa [show valsL (upd E1 d v) [(d, .one p)]=[v] by simp [valsL,upd_at]] at this
    rw [hEq] at q3
    obtain ⟨T',E',H',k1,k2,k3,k4,k5,n2,k6⟩:=wpR_ok hC hY l g (upd E1 d v) H1 K (Eng.put T1 (some d) v) (hT1.put (some d) v) hH1 (fun t' pol' e=>by
     obtain ⟨m1,m2⟩:=hg t' pol' e
     rw [Items.mods] at m1
     refine ⟨fun m=>m1 (List.mem_append.2 (.inr (List.mem_cons_of_mem _ m))),?_⟩
     rw [←m2]
     exact hE2 t' fun m=>m1 (by rcases List.mem_cons.1 m with q | q <;> simp [q])) q3
    refine ⟨T',E',H',k1,?_,k3,hnx.trans k4,k5,max n1 n2,fun n hn A hA=>?_⟩
    ·intro i hi
     rw [Items.mods] at hi
     refine (k2 i fun m=>hi (by simp [m])).trans (hE2 i fun m=>hi ?_)
     rcases List.mem_cons.1 m with q | q <;> simp [q]
    ·have hw:wants T1 g=true:=by
      cases g with
      | none=>rfl
      | some g=>
       obtain ⟨t',pol'⟩:=g
       obtain ⟨m1,m2⟩:=hg t' pol' rfl
       have:E1 t'= .bool pol':=by
        rw [←m2]
        exact hS1 t' fun m=>m1 (by rw [Items.mods];exact List.mem_append.2 (.inl m))
       rw [wants_true hT1 this]
       cases pol' <;> rfl
     obtain ⟨A1,e1,e2⟩:=hrun n (by omega) A hA
     obtain ⟨A2,e3,e4⟩:=k6 n (by omega) A1 e1
     refine ⟨A2,e3,fun r=>?_⟩
     rw [er_grp,List.append_assoc,e2,List.cons_append,regRun,hw]
     simp only
     rw [hst]
     exact e4 r
   rcases hI.inv with ⟨hcb,hJ⟩ | ⟨hcb,hJ⟩
   ·-- it holds
    have hcp:c=pol:=by cases pol <;> cases c <;> first | rfl | cases hcb
    subst hcp
    obtain ⟨T1,E1,H1,k1,k2,k3,k4,k5,n1,k6⟩:=wpR_ok hC hY a (some (t,c)) (upd E t (.bool c)) H _ T (hT.congr fun i=>upd_same hc i) hH (fun t' pol' e=>by
     cases e
     exact ⟨htm,by rw [upd_at,if_pos rfl]⟩) hJ
    have hS1:Same a.mods E E1:=fun i hi=>(k2 i hi).trans (upd_same hc i)
    refine rest T1 E1 H1 (x.at E1) k1 hS1 k3 k4 k5 (fun call A=>?_) ⟨n1,k6⟩
    have:(Opd.t t).ev T1= .bool c:=(k1 t).trans ((hS1 t htm).trans hc)
    cases c
    ·simp only [pickK,ikStep,ikRun,this,k1.at]
    ·simp only [pickK,ikStep,ikRun,this,k1.at]
   ·have hcp:c= !pol:=by cases pol <;> cases c <;> first | rfl | cases hcb
    subst hcp
    obtain ⟨T1,E1,k1,k2,k3,k4⟩:=skip_run a [] (t,pol) T E hT b2 htm (fun b hb=>by rw [show E (t,pol).1=E t from rfl,hc] at hb;cases hb;rfl) (fun _ h=>by cases h)
    refine rest T1 E1 H oth k1 k2 hH (Mo.refl _) hJ (fun call A=>?_) ⟨0,fun n _ A hA=>⟨A,hA,fun r=>k4 _ _ r⟩⟩
    have:(Opd.t t).ev T1= .bool !pol:=(k1 t).trans ((k2 t htm).trans hc)
    cases pol
    ·have this:(Opd.t t).ev T1= .bool true:=this
     simp only [pickK,ikStep,ikRun,this];rfl
    ·have this:(Opd.t t).ev T1= .bool false:=this
     simp only [pickK,ikStep,ikRun,this];rfl
  | _=>rw [hc] at h;exact h.elim
end
section
variable {V:Env} {Y:Yh} {C:Nat→Cl}
theorem rfW.inv {v:AV} {P:Prop} (h:rfW v P):same v v=true∧P:=by
 have eqLr: ∀ l:List Nat,eqL l l=true:=by
  intro l
  induction l with
  | nil=>rfl
  | cons a l ih=>rw [eqL,Nat.beq_refl];exact ih
 have eqIr: ∀ n:Int,eqI n n=true:=fun n=>by cases n <;> simp [eqI]
 unfold rfW at h
 split at h
 ·exact ⟨by simp only [same,Nat.beq_refl,eqIr],h⟩
 ·exact ⟨by simp only [same,eqLr],h⟩
 ·rename_i b;exact ⟨by cases b <;> rfl,h⟩
 ·exact ⟨rfl,h⟩
 ·exact ⟨by simp only [same,Nat.beq_refl];rfl,h⟩
 ·exact ⟨rfl,h⟩
 ·rename_i b o n c e;exact ⟨by simp only [same,Nat.beq_refl];cases e <;> rfl,h⟩
 ·exact h.inv
def RdK (k:IK) (v:AV):Prop:=(∃ n agg x,k= .load n agg x∧(agg=true→ ∃ l,v= .agg l))∨ ∃ x s,k= .toStr x∧v= .str s
theorem rdW.inv {H A:Hp} (hA:Lq H A) {E:Ev} {T:Tr AV} (hT:ET T E) {k:IK} {v:AV} {P:Prop} (h:rdW H E k v P) (hv:RdK k v):(∃ u H',ikRun T A k=some (u,H')∧u=v)∧same v v=true∧P:=by
 rcases hv with ⟨n,agg,x,rfl,hv⟩ | ⟨x,s,rfl,rfl⟩
 ·simp only [rdW] at h
  obtain ⟨b,q,hx,h1,h2⟩:=ptrM.inv h
  obtain ⟨h3,h4⟩:=h2.inv
  refine ⟨⟨v,A,?_,rfl⟩,h3,h4⟩
  simp only [ikRun,hT.at,hx,hA.load,h1]
  cases agg with
  | true=>
   obtain ⟨l,rfl⟩:=hv rfl
   rfl
  | false=>rfl
 ·obtain ⟨h1,h2⟩:=h
  refine ⟨⟨.str s,A,?_,rfl⟩,(rfW.inv (v:= .str s) (P:=True) trivial).1,h2⟩
  simp only [ikRun,hT.at,hA.firsts]
  revert h1
  generalize Opd.at E x=a
  intro h1
  cases a with
  | nils=>cases h1;rfl
  | slice b o l c e=>
   simp only [toStrF] at h1 ⊢
   split at h1
   ·rename_i hc;simp only [hc,h1]
   ·cases h1
  | _=>cases h1
def RecOk (r:Rec) (w:RecW):Prop:=ET r.T w.E∧r.k=w.k∧r.v=w.v∧r.hi=w.hi∧RdK w.k w.v
inductive RecsOk:List Rec→List RecW→Prop where
 | nil:RecsOk [] []
 | cons {r:Rec} {w:RecW} {l:List Rec} {m:List RecW} (h:RecOk r w) (t:RecsOk l m):RecsOk (r::l) (w::m)
theorem rereadsW.inv {H A:Hp} (hA:Lq H A) {k:Nat} {P:Prop}: ∀ {rs:List Rec} {ws:List RecW},RecsOk rs ws→rereadsW H k ws P→rereads A k rs=true∧P
 | _,_, .nil,h=>⟨rfl,h⟩
 | _,_, .cons (r:=r) (w:=w) hr ht,h=>by
  obtain ⟨h1,h2,h3,h4,h5⟩:=hr
  rw [rereadsW] at h
  rw [rereads,h4]
  cases hb:Nat.ble k w.hi with
  | false=>
   rw [hb] at h
   exact rereadsW.inv hA ht h
  | true=>
   rw [hb] at h
   obtain ⟨⟨u,H',e1,e2⟩,e3,e4⟩:=rdW.inv hA h1 h h5
   obtain ⟨q1,q2⟩:=rereadsW.inv hA ht e4
   refine ⟨?_,q2⟩
   simp only [h2,e1,h3,e2,e3,q1]
inductive Lqs:List Hp→List Hp→Prop where
 | nil:Lqs [] []
 | cons {H A:Hp} {l m:List Hp} (h:Lq H A) (t:Lqs l m):Lqs (H::l) (A::m)
theorem Lqs.refl: ∀ l:List Hp,Lqs l l
 | []=> .nil
 | _::l=> .cons (Lq.refl _) (Lqs.refl l)
theorem rereadW.inv {E:Ev} {T:Tr AV} (hT:ET T E) {x:IK} {v:AV} {lo:Nat} {P:Prop} (hv:RdK x v): ∀ {sn as:List Hp} {k:Nat},Lqs sn as→rereadW E x v lo k sn P→reread T x v lo k as=true∧P
 | _,_,k, .nil,h=>⟨rfl,h⟩
 | _,_,k, .cons hA hl,h=>by
  rw [rereadW] at h
  rw [reread]
  cases hb:Nat.ble lo k with
  | false=>
   rw [hb] at h
   exact ⟨rfl,h⟩
  | true=>
   rw [hb] at h
   obtain ⟨⟨u,H',e1,e2⟩,e3,e4⟩:=rdW.inv hA hT h hv
   obtain ⟨q1,q2⟩:=rereadW.inv hT hv hl e4
   refine ⟨?_,q2⟩
   simp only [e1,e2,e3,q1]
theorem wpMk_ok {o:AOp} {E:Ev} {T:Tr AV} (hT:ET T E) {H:Hp} {i:Nat} {K:AV→Hp→Prop} (h:wpMk o E H i K): ∃ v cs es,K v ⟨H.m.set i (some ⟨cs,es,true⟩),H.nx⟩∧ ∀ A:Hp,A.m.get i=none→ikRunAt T A i o.k=some (v,⟨A.m.set i (some ⟨cs,es,true⟩),A.nx⟩):=by
 unfold wpMk at h
 split at h
 ·rename_i n tg x hk
  obtain ⟨h1,h2⟩:=h.inv.inv
  exact ⟨_,_,_,h2,fun A hi=>by simp only [ikRunAt,hi,hk,ikMk,hT.at,h1];rfl⟩
 ·rename_i ln es z ps hk
  obtain ⟨cs,h1,h2⟩:=h.inv
  obtain ⟨h3,h4⟩:=h2.inv
  exact ⟨_,_,_,h4,fun A hi=>by simp only [ikRunAt,hi,hk,ikMk,hT.atp,h1,h3];rfl⟩
 ·rename_i x hk
  split at h
  ·rename_i s hs
   exact ⟨_,_,_,h,fun A hi=>by simp only [ikRunAt,hi,hk,ikMk,hT.at,hs];rfl⟩
  ·cases h
 ·cases h
theorem tstD_ok {E:Ev} {T:Tr AV} (hT:ET T E) {gd:Option (Nat × Bool)} {K1 K2:Ev→Prop} (h:tstD E gd K1 K2): ∃ E',ET T E'∧(∀ i,E' i=E i)∧(wants T gd=true∧K1 E'∨wants T gd=false∧K2 E'):=by
 unfold tstD at h
 split at h
 ·exact ⟨E,hT,fun _=>rfl, .inl ⟨rfl,h⟩⟩
 ·rename_i t pol
  split at h
  ·rename_i c hc
   have hw:=wants_true hT (pol:=pol) hc
   rcases h.inv with ⟨hcb,hj⟩ | ⟨hcb,hj⟩
   ·have hcp:c=pol:=by cases pol <;> cases c <;> first | rfl | cases hcb
    subst hcp
    exact ⟨_,hT.congr (upd_same hc),upd_same hc, .inl ⟨hw.trans hcb,hj⟩⟩
   ·have hcp:c= !pol:=by cases pol <;> cases c <;> first | rfl | cases hcb
    subst hcp
    exact ⟨_,hT.congr (upd_same hc),upd_same hc, .inr ⟨hw.trans hcb,hj⟩⟩
  ·rename_i hc
   refine ⟨E,hT,fun _=>rfl, .inr ⟨?_,h⟩⟩
   have:=hT t
   rw [hc] at this
   simp only [Opd.ev] at this
   unfold wants
   cases hg:T.get t with
   | none=>simp only [hg]
   | some v=>rw [hg] at this;simp only at this;subst this;simp only [hg]
  ·cases h
section
variable {call:Cl} {base i:Nat} {o:IOp} {s:DSt} {v:AV} {H1:Hp}
theorem ds_skip {c:Cls} (hw:wants s.T o.gd=false) (hc:c≠ .eff):drawStep call base i o c s=some { s with T:=Eng.put s.T o.dst .undef }:=by
 delta drawStep
 rw [hw]
 cases c <;> first | rfl | exact absurd rfl hc
theorem ds_skip_eff (hw:wants s.T o.gd=false):drawStep call base i o .eff s=some { s with T:=Eng.put s.T o.dst .undef,k:=s.k+1,snaps:=s.H::s.snaps }:=by
 delta drawStep
 rw [hw]
theorem ds_pure (hw:wants s.T o.gd=true) (h:ikRun s.T s.H o.k=some (v,H1)):drawStep call base i o .pure s=some { s with T:=Eng.put s.T o.dst v }:=by
 delta drawStep
 rw [hw]
 simp only [h]
theorem ds_mk (hw:wants s.T o.gd=true) (h:ikRunAt s.T s.H (base+i) o.k=some (v,H1)):drawStep call base i o .mk s=some { s with T:=Eng.put s.T o.dst v,H:=H1 }:=by
 delta drawStep
 rw [hw]
 simp only [h]
theorem ds_eff (hw:wants s.T o.gd=true) (h:ikStep call s.T s.H o.k=some (v,H1)) (hr:rereads H1 (s.k+1) s.recs=true):drawStep call base i o .eff s=some { s with T:=Eng.put s.T o.dst v,H:=H1,k:=s.k+1,snaps:=H1::s.snaps }:=by
 delta drawStep
 rw [hw]
 simp only [h,hr]
theorem ds_rd {lo hi:Nat} (hw:wants s.T o.gd=true) (h:ikRun s.T s.H o.k=some (v,H1)) (hr:reread s.T o.k v lo s.k s.snaps=true):drawStep call base i o (.rd lo hi) s=some { s with T:=Eng.put s.T o.dst v,recs:=⟨s.T,o.k,v,hi⟩::s.recs }:=by
 delta drawStep
 rw [hw]
 simp only [h,hr]
end
theorem step_run {k:IK} (h:notCall k=true) {c:Cl} {T:Tr AV} {H:Hp}:ikStep c T H k=ikRun T H k:=by
 cases k <;> first | rfl | cases h
theorem wpI_rd {o:AOp} {E:Ev} {T:Tr AV} {H:Hp} {K:AV→Hp→Prop} (hT:ET T E) (hk:isRd o.k=true) (h:wpI V Y o E H K): ∃ v,ikRun T H o.k=some (v,H)∧RdK o.k v∧K v H:=by
 unfold wpI at h
 revert hk h
 generalize o.k=k
 intro hk h
 cases k <;> first | (cases hk;done) | skip
 ·simp only at h
  obtain ⟨b,q,hx,h1⟩:=ptrM.inv h
  split at h1
  ·obtain ⟨vs,h2,h3⟩:=Ex1s.get h1
   exact ⟨_,by simp only [ikRun,hT.at,hx,h2], .inl ⟨_,_,_,rfl,fun _=>⟨_,rfl⟩⟩,h3⟩
  ·obtain ⟨v,h2,h3⟩:=Ex1.get h1
   exact ⟨_,by simp only [ikRun,hT.at,hx,h2], .inl ⟨_,_,_,rfl,(fun h=>by cases h)⟩,h3⟩
  ·cases h1
 ·rename_i x
  obtain ⟨s,h1,h2⟩:=h
  refine ⟨.str s,?_, .inr ⟨_,_,rfl,rfl⟩,h2⟩
  simp only [ikRun,hT.at]
  revert h1
  generalize Opd.at E x=a
  intro h1
  cases a with
  | nils=>cases h1;rfl
  | slice b o l c e=>
   simp only [toStrF] at h1 ⊢
   split at h1
   ·rename_i hc;simp only [hc,h1]
   ·cases h1
  | _=>cases h1
theorem wpD_ok (hC: ∀ n,(C n).fn=V.all n) (hY:YhOk C Y) {base n:Nat}: ∀ (l:List DOp) (E:Ev) (H:Hp) (k:Nat) (sn:List Hp) (dirty:Bool) (made:List Nat) (rc:List RecW) (K:Ev→Hp→Prop) (T:Tr AV) (rs:List Rec),
  ET T E→RecsOk rs rc→(dirty=false→ ∃ l,sn=H::l)→Ok H→base+n≤H.nx→(∀ i,i<n→i ∉ made→H.m.get (base+i)=none)→wpD V Y base n l E H k sn dirty made rc K→
  ∃ T' E' H',ET T' E'∧Same (dmods l) E E'∧Ok H'∧H.nx≤H'.nx∧(∀ i,(i<base∨base+n≤i)→i<H.nx→H.m.get i=none→H'.m.get i=none)∧(∀ i bl,H.m.get i=some bl→bl.rw=false→H'.m.get i=some bl)∧K E' H'∧ ∃ n0, ∀ m,n0≤m→ ∀ A as,Lq H A→Lqs sn as→ ∃ s',drawRun (C m) base (derase l) ⟨T,A,k,as,rs⟩=some s'∧s'.T=T'∧Lq H' s'.H
 | [],E,H,k,sn,dirty,made,rc,K,T,rs,hT,hrc,hd,hH,hb,hm,h=>⟨T,E,H,hT,Same.refl _ _,hH,Nat.le_refl _,fun _ _ _ hn=>hn,fun _ _ e _=>e,h,0,fun m _ A as hA _=>⟨_,rfl,rfl,hA⟩⟩
 | x::l,E,H,k,sn,dirty,made,rc,K,T,rs,hT,hrc,hd,hH,hb,hm,h=>by
  rw [wpD] at h
  obtain ⟨E1,hT1,hE1,h⟩:=tstD_ok hT h
  have hsame: ∀ {E' Ex:Ev} {v:AV},(∀ i,Ex i=E i)→Same (dmods l) (updO Ex x.o.d v) E'→Same (dmods (x::l)) E E':=fun hx hh i hi=>by
   rw [dmods] at hi
   exact (hh i fun m=>hi (mem_consO m)).trans ((Same.updO _ x.o.d _ (dmods l) i hi).trans (hx i))
  -- a step,then the others
  have step: ∀ (Ex:Ev) (v:AV) (H1:Hp) (k1:Nat) (sn1:List Hp) (d1:Bool) (made1:List Nat) (rc1:List RecW) (T1:Tr AV) (rs1:List Rec) (n1:Nat),(∀ i,Ex i=E i)→(∀ m,n1≤m→ ∀ A as,Lq H A→Lqs sn as→ ∃ A1 as1,Lq H1 A1∧Lqs sn1 as1∧drawStep (C m) base x.i ⟨x.o.d,x.gd,x.o.k⟩ x.c ⟨T,A,k,as,rs⟩=some ⟨T1,A1,k1,as1,rs1⟩)→
    ET T1 (updO Ex x.o.d v)→RecsOk rs1 rc1→(d1=false→ ∃ l,sn1=H1::l)→Ok H1→H.nx≤H1.nx→(∀ i,(i<base∨base+n≤i)→i<H.nx→H.m.get i=none→H1.m.get i=none)→(∀ i bl,H.m.get i=some bl→bl.rw=false→H1.m.get i=some bl)→(∀ i,i<n→i ∉ made1→H1.m.get (base+i)=none)→wpD V Y base n l (updO Ex x.o.d v) H1 k1 sn1 d1 made1 rc1 K→
    ∃ T' E' H',ET T' E'∧Same (dmods (x::l)) E E'∧Ok H'∧H.nx≤H'.nx∧(∀ i,(i<base∨base+n≤i)→i<H.nx→H.m.get i=none→H'.m.get i=none)∧(∀ i bl,H.m.get i=some bl→bl.rw=false→H'.m.get i=some bl)∧K E' H'∧ ∃ n0, ∀ m,n0≤m→ ∀ A as,Lq H A→Lqs sn as→ ∃ s',drawRun (C m) base (derase (x::l)) ⟨T,A,k,as,rs⟩=some s'∧s'.T=T'∧Lq H' s'.H:=by
   intro Ex v H1 k1 sn1 d1 made1 rc1 T1 rs1 n1 hx hst g1 g5 g6 g7 g8 g8b g8c g9 hh
   obtain ⟨T',E',H',q1,q2,q3,q4,q4b,q4c,q5,n2,q6⟩:=wpD_ok hC hY l _ H1 k1 sn1 d1 made1 rc1 K T1 rs1 g1 g5 g6 g7 (Nat.le_trans hb g8) g9 hh
   refine ⟨T',E',H',q1,hsame hx q2,q3,Nat.le_trans g8 q4,fun i h1 h2 h3=>q4b i h1 (Nat.lt_of_lt_of_le h2 g8) (g8b i h1 h2 h3),fun i bl e hr=>q4c i bl (g8c i bl e hr) hr,q5,max n1 n2,fun m hm' A as hA has=>?_⟩
   obtain ⟨A1,as1,u1,u2,u3⟩:=hst m (by omega) A as hA has
   obtain ⟨s',e1,e2⟩:=q6 m (by omega) A1 as1 u1 u2
   refine ⟨s',?_,e2⟩
   rw [derase,drawRun,u3]
   exact e1
  rcases h with ⟨hw,h⟩ | ⟨hw,h⟩
  ·cases hc:x.c with
   | pure=>
    rw [hc] at h step
    obtain ⟨hq,h⟩:=Chk.inv h
    obtain ⟨v,H1,h1,h2,h3,n1,h4⟩:=wpI_ok hC hY hT1 hH h
    refine step E1 v H k sn dirty made rc (Eng.put T x.o.d v) rs n1 hE1 (fun m hm' A as hA has=>?_) (hT1.put _ _) hrc hd hH (Nat.le_refl _) (fun _ _ _ hn=>hn) (fun _ _ e _=>e) hm h3
    obtain ⟨A1,e1,_⟩:=h4 m hm' A hA
    rw [step_run hq] at e1
    exact ⟨A,as,hA,has,ds_pure hw e1⟩
   | mk=>
    rw [hc] at h step
    obtain ⟨hq,h⟩:=Chk.inv h
    rw [Bool.and_eq_true] at hq
    have hlt:x.i<n:=bltL hq.1
    have hnm:x.i ∉ made:=fun m=>by have:=hq.2;rw [memN_iff.2 m] at this;cases this
    obtain ⟨v,cs,es,h1,h2⟩:=wpMk_ok hT1 h
    have hno:=hm x.i hlt hnm
    refine step E1 v (⟨H.m.set (base+x.i) (some ⟨cs,es,true⟩),H.nx⟩:Hp) k sn true (x.i::made) rc (Eng.put T x.o.d v) rs 0 hE1 (fun m _ A as hA has=>?_) (hT1.put _ _) hrc (fun h=>by cases h) ?_ (Nat.le_refl _) ?_ ?_ ?_ h1
    ·exact ⟨_,as,hA.set (base+x.i) (some ⟨cs,es,true⟩) (some ⟨cs,es,true⟩) (.inr ⟨_,true,rfl,rfl,id⟩),has,ds_mk hw (h2 A (hA.no _ hno))⟩
    ·intro i hi
     have:i≠base+x.i:=by simp only at hi;omega
     rw [Tr.get_set_ne _ _ this]
     exact hH i hi
    ·intro i h1 _ hn
     rw [Tr.get_set_ne _ _ (by omega)]
     exact hn
    ·intro i bl e _
     have:i≠base+x.i:=fun h=>by rw [h,hno] at e;cases e
     rw [Tr.get_set_ne _ _ this]
     exact e
    ·intro i hi hn
     rw [Tr.get_set_ne _ _ fun e=>hn (by rw [show i=x.i by omega];exact List.mem_cons_self)]
     exact hm i hi fun m=>hn (List.mem_cons_of_mem _ m)
   | eff=>
    rw [hc] at h step
    obtain ⟨v,H1,h1,h2,h3,n1,h4⟩:=wpI_ok hC hY hT1 hH h
    have e2:=(rereadsW.inv (Lq.refl _) hrc h3).2
    refine step E1 v H1 (k+1) (H1::sn) false made rc (Eng.put T x.o.d v) rs n1 hE1 (fun m hm' A as hA has=>?_) (hT1.put _ _) hrc (fun _=>⟨sn,rfl⟩) h1 h2.nx (fun i _ hi hn=>h2.no i hi hn) h2.fz (fun i hi hn=>h2.no _ (by omega) (hm i hi hn)) e2
    obtain ⟨A1,u1,u2⟩:=h4 m hm' A hA
    exact ⟨A1,A1::as,u2, .cons u2 has,ds_eff hw u1 (rereadsW.inv u2 hrc h3).1⟩
   | rd lo hi=>
    rw [hc] at h step
    obtain ⟨hq,h⟩:=Chk.inv h
    obtain ⟨v,h1,hsh,h3⟩:=wpI_rd hT1 hq h
    have hrr:(∀ A as,Lq H A→Lqs sn as→reread T x.o.k v lo k as=true)∧wpD V Y base n l (updO E1 x.o.d v) H k sn dirty made (⟨E1,x.o.k,v,hi⟩::rc) K:=by
     split at h3
     ·rename_i hle _ _
      obtain ⟨l2,hl2⟩:=hd rfl
      obtain ⟨rfl,rfl⟩:=List.cons.inj hl2
      obtain ⟨r1,r2⟩:=h3.inv
      refine ⟨fun A as hA has=>?_,(rereadW.inv hT1 hsh (Lqs.refl _) r2).2⟩
      cases has with
      | cons hA2 ht=>
       have:=(rereadW.inv hT1 hsh ht r2).1
       obtain ⟨A2,w1,_⟩:=hA2.run h1
       rw [reread,hle]
       simp only [w1,r1,this]
     ·exact ⟨fun A as _ has=>(rereadW.inv hT1 hsh has h3).1,(rereadW.inv hT1 hsh (Lqs.refl _) h3).2⟩
    refine step E1 v H k sn dirty made (⟨E1,x.o.k,v,hi⟩::rc) (Eng.put T x.o.d v) (⟨T,x.o.k,v,hi⟩::rs) 0 hE1 (fun m _ A as hA has=>?_) (hT1.put _ _) (.cons ⟨hT1,rfl,rfl,rfl,hsh⟩ hrc) hd hH (Nat.le_refl _) (fun _ _ _ hn=>hn) (fun _ _ e _=>e) hm hrr.2
    obtain ⟨A2,w1,_⟩:=hA.run h1
    exact ⟨A,as,hA,has,ds_rd hw w1 (hrr.1 A as hA has)⟩
  ·cases hc:x.c with
   | eff=>
    rw [hc] at h step
    exact step E1 .undef H (k+1) (H::sn) false made rc (Eng.put T x.o.d .undef) rs 0 hE1 (fun m _ A as hA has=>⟨A,A::as,hA, .cons hA has,ds_skip_eff hw⟩) (hT1.put _ _) hrc (fun _=>⟨sn,rfl⟩) hH (Nat.le_refl _) (fun _ _ _ hn=>hn) (fun _ _ e _=>e) hm h
   | pure=>
    rw [hc] at h step
    exact step E1 .undef H k sn dirty made rc (Eng.put T x.o.d .undef) rs 0 hE1 (fun m _ A as hA has=>⟨A,as,hA,has,ds_skip hw (by intro e;cases e)⟩) (hT1.put _ _) hrc hd hH (Nat.le_refl _) (fun _ _ _ hn=>hn) (fun _ _ e _=>e) hm h
   | mk=>
    rw [hc] at h step
    exact step E1 .undef H k sn dirty made rc (Eng.put T x.o.d .undef) rs 0 hE1 (fun m _ A as hA has=>⟨A,as,hA,has,ds_skip hw (by intro e;cases e)⟩) (hT1.put _ _) hrc hd hH (Nat.le_refl _) (fun _ _ _ hn=>hn) (fun _ _ e _=>e) hm h
   | rd lo hi=>
    rw [hc] at h step
    exact step E1 .undef H k sn dirty made rc (Eng.put T x.o.d .undef) rs 0 hE1 (fun m _ A as hA has=>⟨A,as,hA,has,ds_skip hw (by intro e;cases e)⟩) (hT1.put _ _) hrc hd hH (Nat.le_refl _) (fun _ _ _ hn=>hn) (fun _ _ e _=>e) hm h
end
section
variable {V:Env}
theorem ET.updC {T:Tr AV} {E:Ev} (h:ET T E) {c:Opd} {b:Bool} (hc:c.at E= .bool b):ET T (Eng.updC E c b)∧ ∀ i,Eng.updC E c b i=E i:=by
 cases c with
 | c v=>exact ⟨h,fun _=>rfl⟩
 | t i=>exact ⟨h.congr (upd_same hc),upd_same hc⟩
def RgOk (V:Env) (rg:Nat→Yh→List AV→Hp→(Hp→Prop)→Prop):Prop:= ∀ g (Y:Yh) (y:Nat→Ans) args H K,(∀ i args H Q,Y i args H Q→Ok H→ ∃ v H',Ok H'∧Mo H H'∧Q v H'∧ ∃ n0, ∀ n,n0≤n→ ∀ A,Lq H A→ ∃ A',y n i args A=some (v,A')∧Lq H' A')→Ok H→rg g Y args H K→
 ∃ v H',Ok H'∧Mo H H'∧K H'∧ ∃ n0, ∀ n,n0≤n→ ∀ A,Lq H A→ ∃ A',(V.cl n).it g (y n) args A=some (v,A')∧Lq H' A'
theorem wpC_ok: ∀ (c:AC) {Y:Yh} {C:Nat→Cl} {rg:Nat→Yh→List AV→Hp→(Hp→Prop)→Prop},(∀ n,(C n).fn=V.all n)→YhOk C Y→((∀ n,(C n).it=(V.cl n).it)∧RgOk V rg∨rg=fun _ _ _ _ _=>False)→ ∀ {E:Ev} {H:Hp} {K:KC} {T:Tr AV},ET T E→Ok H→wpC V Y rg c E H K→
  ∃ r T' E' H',ET T' E'∧Same c.mods E E'∧Ok H'∧Mo H H'∧K r E' H'∧ ∃ n0, ∀ n,n0≤n→ ∀ A,Lq H A→ ∃ A',c.er.run (C n) n T A=some (r,T',A')∧Lq H' A'
 | .skip,Y,C,rg,hC,hY,hR,E,H,K,T,hT,hH,h=>⟨_,T,E,H,hT,Same.refl _ _,hH,Mo.refl _,h,0,fun n _ A hA=>⟨A,rfl,hA⟩⟩
 | .exit i,Y,C,rg,hC,hY,hR,E,H,K,T,hT,hH,h=>⟨_,T,E,H,hT,Same.refl _ _,hH,Mo.refl _,h,0,fun n _ A hA=>⟨A,rfl,hA⟩⟩
 | .ret,Y,C,rg,hC,hY,hR,E,H,K,T,hT,hH,h=>⟨_,T,E,H,hT,Same.refl _ _,hH,Mo.refl _,h,0,fun n _ A hA=>⟨A,rfl,hA⟩⟩
 | .bad,Y,C,rg,hC,hY,hR,E,H,K,T,hT,hH,h=>h.elim
 | .reg l,Y,C,rg,hC,hY,hR,E,H,K,T,hT,hH,h=>by
  obtain ⟨T',E',H',h1,h2,h3,h4,h5,n0,h6⟩:=wpR_ok hC hY l none E H _ T hT hH (fun _ _ e=>by cases e) h
  refine ⟨_,T',E',H',h1,h2,h3,h4,h5,n0,fun n hn A hA=>?_⟩
  obtain ⟨A1,e1,e2⟩:=h6 n hn A hA
  have:=e2 []
  rw [List.append_nil] at this
  exact ⟨A1,by simp only [AC.er,IC.run,this,regRun],e1⟩
 | .draw m ops,Y,C,rg,hC,hY,hR,E,H,K,T,hT,hH,h=>by
  have hH2:Ok ⟨H.m,H.nx+m⟩:=fun i hi=>hH i (by simp only at hi;omega)
  obtain ⟨T',E',H',h1,h2,h3,h4,h5,h5b,h6,n0,h7⟩:=wpD_ok hC hY (base:=H.nx) (n:=m) ops E ⟨H.m,H.nx+m⟩ 0 [⟨H.m,H.nx+m⟩] false [] [] _ T [] hT .nil (fun _=>⟨[],rfl⟩) hH2 (Nat.le_refl _) (fun i _ _=>hH _ (by omega)) h
  refine ⟨_,T',E',H',h1,h2,h3,⟨Nat.le_trans (Nat.le_add_right _ _) h4,fun i hi hn=>h5 i (.inl hi) (by simp only;omega) hn,h5b⟩,h6,n0,fun n hn A hA=>?_⟩
  have hA2:Lq ⟨H.m,H.nx+m⟩ ⟨A.m,A.nx+m⟩:=by rw [hA.nx];exact hA.up _
  obtain ⟨s',e1,e2,e3⟩:=h7 n hn _ _ hA2 (.cons hA2 .nil)
  rw [←hA.nx] at e1
  exact ⟨s'.H,by simp only [AC.er,IC.run,e1,e2],e3⟩
 | .seq a b,Y,C,rg,hC,hY,hR,E,H,K,T,hT,hH,h=>by
  obtain ⟨r,T1,E1,H1,h1,h2,h3,h4,h5,n1,h6⟩:=wpC_ok a hC hY hR hT hH h
  cases r with
  | normal=>
   obtain ⟨r',T2,E2,H2,k1,k2,k3,k4,k5,n2,k6⟩:=wpC_ok b hC hY hR h1 h3 h5
   exact ⟨r',T2,E2,H2,k1,h2.trans k2,k3,h4.trans k4,k5,max n1 n2,fun n hn A hA=>by
    obtain ⟨A1,e1,e2⟩:=h6 n (by omega) A hA
    obtain ⟨A2,e3,e4⟩:=k6 n (by omega) A1 e2
    exact ⟨A2,by simp only [AC.er,IC.run,e1,e3],e4⟩⟩
  | exit i=>exact ⟨_,T1,E1,H1,h1,h2.mono fun i hi=>List.mem_append.2 (.inl hi),h3,h4,h5,n1,fun n hn A hA=>by
    obtain ⟨A1,e1,e2⟩:=h6 n hn A hA
    exact ⟨A1,by simp only [AC.er,IC.run,e1],e2⟩⟩
  | ret=>exact ⟨_,T1,E1,H1,h1,h2.mono fun i hi=>List.mem_append.2 (.inl hi),h3,h4,h5,n1,fun n hn A hA=>by
    obtain ⟨A1,e1,e2⟩:=h6 n hn A hA
    exact ⟨A1,by simp only [AC.er,IC.run,e1],e2⟩⟩
 | .join L a b,Y,C,rg,hC,hY,hR,E,H,K,T,hT,hH,h=>by
  obtain ⟨I,ha,hb⟩:=h
  obtain ⟨r,T1,E1,H1,h1,h2,h3,h4,h5,n1,h6⟩:=wpC_ok a hC hY hR hT hH ha
  cases r with
  | normal=>
   obtain ⟨hh,q1,q2⟩:=apI_of h5 (hb H1 E1)
   have q3:=q2 q1
   rw [updM_of h2] at q3
   obtain ⟨r',T2,E2,H2,k1,k2,k3,k4,k5,n2,k6⟩:=wpC_ok b hC hY hR h1 h3 q3
   exact ⟨r',T2,E2,H2,k1,h2.trans k2,k3,h4.trans k4,k5,max n1 n2,fun n hn A hA=>by
    obtain ⟨A1,e1,e2⟩:=h6 n (by omega) A hA
    obtain ⟨A2,e3,e4⟩:=k6 n (by omega) A1 e2
    exact ⟨A2,by simp only [AC.er,IC.run,e1,e3],e4⟩⟩
  | exit i=>exact ⟨_,T1,E1,H1,h1,h2.mono fun i hi=>List.mem_append.2 (.inl hi),h3,h4,h5,n1,fun n hn A hA=>by
    obtain ⟨A1,e1,e2⟩:=h6 n hn A hA
    exact ⟨A1,by simp only [AC.er,IC.run,e1],e2⟩⟩
  | ret=>exact ⟨_,T1,E1,H1,h1,h2.mono fun i hi=>List.mem_append.2 (.inl hi),h3,h4,h5,n1,fun n hn A hA=>by
    obtain ⟨A1,e1,e2⟩:=h6 n hn A hA
    exact ⟨A1,by simp only [AC.er,IC.run,e1],e2⟩⟩
 | .cond c a b,Y,C,rg,hC,hY,hR,E,H,K,T,hT,hH,h=>by
  rw [wpC] at h
  cases hc:c.at E with
  | bool x=>
   rw [hc] at h
   simp only at h
   rcases h.inv with ⟨rfl,h⟩ | ⟨rfl,h⟩
   ·obtain ⟨g1,g2⟩:=hT.updC hc
    obtain ⟨r,T1,E1,H1,h1,h2,h3,h4,h5,n1,h6⟩:=wpC_ok a hC hY hR g1 hH h
    exact ⟨r,T1,E1,H1,h1,fun i hi=>(h2 i fun m=>hi (List.mem_append.2 (.inl m))).trans (g2 i),h3,h4,h5,n1,fun n hn A hA=>by
     obtain ⟨A1,e1,e2⟩:=h6 n hn A hA
     exact ⟨A1,by simp only [AC.er,IC.run,hT.at,hc,e1],e2⟩⟩
   ·obtain ⟨g1,g2⟩:=hT.updC hc
    obtain ⟨r,T1,E1,H1,h1,h2,h3,h4,h5,n1,h6⟩:=wpC_ok b hC hY hR g1 hH h
    exact ⟨r,T1,E1,H1,h1,fun i hi=>(h2 i fun m=>hi (List.mem_append.2 (.inr m))).trans (g2 i),h3,h4,h5,n1,fun n hn A hA=>by
     obtain ⟨A1,e1,e2⟩:=h6 n hn A hA
     exact ⟨A1,by simp only [AC.er,IC.run,hT.at,hc,e1],e2⟩⟩
  | _=>rw [hc] at h;exact h.elim
 | .block i a,Y,C,rg,hC,hY,hR,E,H,K,T,hT,hH,h=>by
  obtain ⟨r,T1,E1,H1,h1,h2,h3,h4,h5,n1,h6⟩:=wpC_ok a hC hY hR hT hH h
  cases r with
  | normal=>exact ⟨_,T1,E1,H1,h1,h2,h3,h4,h5,n1,fun n hn A hA=>by
    obtain ⟨A1,e1,e2⟩:=h6 n hn A hA
    exact ⟨A1,by simp only [AC.er,IC.run,e1],e2⟩⟩
  | exit j=>
   simp only at h5
   cases hb:Nat.beq j i with
   | true=>
    rw [hb] at h5
    exact ⟨_,T1,E1,H1,h1,h2,h3,h4,h5,n1,fun n hn A hA=>by
     obtain ⟨A1,e1,e2⟩:=h6 n hn A hA
     exact ⟨A1,by simp only [AC.er,IC.run,e1,hb],e2⟩⟩
   | false=>
    rw [hb] at h5
    exact ⟨_,T1,E1,H1,h1,h2,h3,h4,h5,n1,fun n hn A hA=>by
     obtain ⟨A1,e1,e2⟩:=h6 n hn A hA
     exact ⟨A1,by simp only [AC.er,IC.run,e1,hb],e2⟩⟩
  | ret=>exact ⟨_,T1,E1,H1,h1,h2,h3,h4,h5,n1,fun n hn A hA=>by
    obtain ⟨A1,e1,e2⟩:=h6 n hn A hA
    exact ⟨A1,by simp only [AC.er,IC.run,e1],e2⟩⟩
 | .loop L a,Y,C,rg,hC,hY,hR,E,H,K,T,hT,hH,h=>by
  obtain ⟨I,⟨m0,h0⟩,hb⟩:=h
  have go: ∀ (m:Nat) (E1:Ev) (H1:Hp) (T1:Tr AV),ET T1 E1→Same a.mods E E1→Ok H1→Mo H H1→apI L (I m) (valsL E1 L) H1→
    ∃ r T' E' H',ET T' E'∧Same a.mods E E'∧Ok H'∧Mo H H'∧K r E' H'∧ ∃ n0, ∀ n,n0≤n→ ∀ j,m<j→ ∀ A,Lq H1 A→ ∃ A',loopRun (a.er.run (C n) n) j T1 A=some (r,T',A')∧Lq H' A':=by
   intro m
   induction m using Nat.strongRecOn with
   | ind m ih=>
    intro E1 H1 T1 hT1 hS1 hH1 hM1 hI1
    obtain ⟨hh,q1,q2⟩:=apI_of hI1 (hb m H1 E1)
    have q3:=q2 q1
    rw [updM_of hS1] at q3
    obtain ⟨r,T2,E2,H2,h1,h2,h3,h4,h5,n1,h6⟩:=wpC_ok a hC hY hR hT1 hH1 q3
    have hS2:Same a.mods E E2:=fun i hi=>(h2 i hi).trans (hS1 i hi)
    cases r with
    | normal=>
     obtain ⟨m',hm',hI'⟩:=h5
     obtain ⟨r',T',E',H',k1,k2,k3,k4,k5,n2,k6⟩:=ih m' hm' E2 H2 T2 h1 hS2 h3 (hM1.trans h4) hI'
     refine ⟨r',T',E',H',k1,k2,k3,k4,k5,max n1 n2,fun n hn j hj A hA=>?_⟩
     obtain ⟨j,rfl⟩: ∃ i,j=i+1:=⟨j-1,by omega⟩
     obtain ⟨A1,e1,e2⟩:=h6 n (by omega) A hA
     rw [loopRun,e1]
     exact k6 n (by omega) j (by omega) A1 e2
    | exit i=>
     refine ⟨_,T2,E2,H2,h1,hS2,h3,hM1.trans h4,h5,n1,fun n hn j hj A hA=>?_⟩
     obtain ⟨j,rfl⟩: ∃ i,j=i+1:=⟨j-1,by omega⟩
     obtain ⟨A1,e1,e2⟩:=h6 n hn A hA
     exact ⟨A1,by rw [loopRun,e1],e2⟩
    | ret=>
     refine ⟨_,T2,E2,H2,h1,hS2,h3,hM1.trans h4,h5,n1,fun n hn j hj A hA=>?_⟩
     obtain ⟨j,rfl⟩: ∃ i,j=i+1:=⟨j-1,by omega⟩
     obtain ⟨A1,e1,e2⟩:=h6 n hn A hA
     exact ⟨A1,by rw [loopRun,e1],e2⟩
  obtain ⟨r,T',E',H',k1,k2,k3,k4,k5,n0,k6⟩:=go m0 E H T hT (Same.refl _ _) hH (Mo.refl _) h0
  exact ⟨r,T',E',H',k1,k2,k3,k4,k5,max n0 (m0+1),fun n hn A hA=>by simp only [AC.er,IC.run];exact k6 n (by omega) n (by omega) A hA⟩
 | .range f p pt a b,Y,C,rg,hC,hY,hR,E,H,K,T,hT,hH,h=>by
  rw [wpC] at h
  cases hf:f.at E with
  | func g first caps=>
   rw [hf] at h
   simp only [rangeW] at h
   rcases hR with ⟨hI,hR⟩ | rfl
   ·have hH2:Ok ⟨H.m,H.nx+1⟩:=fun i hi=>hH i (by simp only at hi;omega)
    obtain ⟨v,H',h1,h2,h3,n0,h4⟩:=hR g _ (fun n=>yldRun (a.er.run ⟨V.all n,noAns,noIt⟩ n) (b.er.run ⟨V.all n,noAns,noIt⟩ n) p T H.nx) _ _ _ (fun i args H1 Q hq hH1=>by
     obtain ⟨rfl,hq⟩:=hq
     have hb:Nat.beq H.nx H.nx=true:=Nat.beq_refl _
     match args,hq with
     | [x],hq=>
      obtain ⟨u,rfl,hq⟩:=ExV.get hq
      obtain ⟨r1,T1,E1,G1,a1,a2,a3,a4,a5,n1,a6⟩:=wpC_ok a (C:=fun n=>⟨V.all n,noAns,noIt⟩) (fun _=>rfl) (noYh_ok _) (.inr rfl) (hT.put (some p) x) hH1 hq
      cases r1 with
      | normal=>
       obtain ⟨r2,T2,E2,G2,b1,b2,b3,b4,b5,n2,b6⟩:=wpC_ok b (C:=fun n=>⟨V.all n,noAns,noIt⟩) (fun _=>rfl) (noYh_ok _) (.inr rfl) a1 a3 a5
       cases r2 with
       | normal=>
        refine ⟨_,G2,b3,a4.trans b4,b5,max n1 n2,fun n hn A hA=>?_⟩
        obtain ⟨A1,e1,e2⟩:=a6 n (by omega) A hA
        obtain ⟨A2,e3,e4⟩:=b6 n (by omega) A1 e2
        simp only [Eng.put] at e1
        exact ⟨A2,by simp only [yldRun,hb,e1,e3],e4⟩
       | exit i=>exact b5.elim
       | ret=>exact b5.elim
      | exit i=>exact a5.elim
      | ret=>exact a5.elim
     | [],hq=>exact hq.elim
     | _::_::_,hq=>exact hq.elim) hH2 h
    refine ⟨_,T,E,H',hT,Same.refl _ _,h1,⟨Nat.le_trans (Nat.le_succ _) h2.nx,fun i hi hn=>h2.no i (Nat.lt_succ_of_lt hi) hn,h2.fz⟩,h3,n0,fun n hn A hA=>?_⟩
    have hA2:Lq ⟨H.m,H.nx+1⟩ ⟨A.m,A.nx+1⟩:=by rw [hA.nx];exact hA.up _
    obtain ⟨A1,e1,e2⟩:=h4 n hn _ hA2
    refine ⟨A1,?_,e2⟩
    simp only [AC.er,IC.run,hT.at,hf,hC,hI]
    rw [←hA.nx] at e1
    rw [e1]
   ·exact h.elim
  | _=>rw [hf] at h;exact h.elim
theorem wpRes_ok {T:Tr AV} {E:Ev} {H:Hp} (hT:ET T E): ∀ {l:List IRes} {K:List AV→Prop},wpRes E H l K→ ∃ r,(∀ A,Lq H A→resOf T A l=some r)∧K r
 | [],K,h=>⟨[],fun _ _=>rfl,h⟩
 | .t i::l,K,h=>by
  obtain ⟨r,h1,h2⟩:=wpRes_ok hT (l:=l) (K:=fun r=>K (E i::r)) h
  refine ⟨(Opd.t i).ev T::r,fun A hA=>?_,?_⟩
  ·simp only [resOf,h1 A hA]
  ·rw [hT i];exact h2
 | .cell i n agg::l,K,h=>by
  obtain ⟨b,o,h1,cs,h2,h3⟩:=ptrM.inv h
  have h0:(Opd.t i).ev T= .ptr b o:=(hT i).trans h1
  cases agg with
  | true=>
   obtain ⟨r,k1,k2⟩:=wpRes_ok hT (l:=l) (K:=fun r=>K (.agg cs::r)) h3
   exact ⟨_,fun A hA=>by simp only [resOf,h0,hA.load,h2,k1 A hA],k2⟩
  | false=>
   obtain ⟨v,rfl,h3⟩:=h3
   obtain ⟨r,k1,k2⟩:=wpRes_ok hT (l:=l) (K:=fun r=>K (v::r)) h3
   exact ⟨_,fun A hA=>by simp only [resOf,h0,hA.load,h2,k1 A hA],k2⟩
theorem wpF_ok {A:AFn} {Y:Yh} {C:Nat→Cl} {rg:Nat→Yh→List AV→Hp→(Hp→Prop)→Prop} (hC: ∀ n,(C n).fn=V.all n) (hY:YhOk C Y) (hR:(∀ n,(C n).it=(V.cl n).it)∧RgOk V rg∨rg=fun _ _ _ _ _=>False) {args:List AV} {H:Hp} {K:AV→Hp→Prop} (hH:Ok H) (h:wpF V Y rg A args H K):
  ∃ v H',Ok H'∧Mo H H'∧K v H'∧ ∃ n0, ∀ n,n0≤n→ ∀ B,Lq H B→ ∃ B',A.er.run (C n) n args B=some (v,B')∧Lq H' B':=by
 obtain ⟨r,T,E,H',h1,h2,h3,h4,h5,n0,h6⟩:=wpC_ok A.body hC hY hR (ET.args args) hH h
 cases r with
 | exit i=>exact h5.elim
 | normal=>
  obtain ⟨l,k1,k2⟩:=wpRes_ok h1 h5
  exact ⟨_,H',h3,h4,k2,n0,fun n hn B hB=>by
   obtain ⟨B1,e1,e2⟩:=h6 n hn B hB
   exact ⟨B1,by simp only [IFn.run,AFn.er,e1,k1 B1 e2],e2⟩⟩
 | ret=>
  obtain ⟨l,k1,k2⟩:=wpRes_ok h1 h5
  exact ⟨_,H',h3,h4,k2,n0,fun n hn B hB=>by
   obtain ⟨B1,e1,e2⟩:=h6 n hn B hB
   exact ⟨B1,by simp only [IFn.run,AFn.er,e1,k1 B1 e2],e2⟩⟩
theorem rgOf_ok {fa:Nat→Option AFn} (hfa: ∀ g A,fa g=some A→V.fs g=some A.er):RgOk V (rgOf V fa):=by
 intro g Y y args H K hy hH h
 unfold rgOf at h
 split at h
 ·rename_i A hA
  obtain ⟨v,H',h1,h2,h3,n0,h4⟩:=wpF_ok (C:=fun n=>⟨V.all n,y n,noIt⟩) (fun _=>rfl) hy (.inr rfl) hH h
  exact ⟨v,H',h1,h2,h3,n0,fun n hn B hB=>by simp only [Env.cl,hfa g A hA];exact h4 n hn B hB⟩
 ·cases h
theorem cal_of {fa:Nat→Option AFn} (hfa: ∀ g A,fa g=some A→V.fs g=some A.er) {f:Nat} {A:AFn} (hf:V.fs f=some A.er) (hg:V.isGiven f=false) {args:List AV} {H:Hp} {Q:AV→Hp→Prop} (h:wpF V noYh (rgOf V fa) A args H Q):Cal V f args H Q:=by
 intro hH
 obtain ⟨v,H',h1,h2,h3,n0,h4⟩:=wpF_ok (C:=V.cl) (fun _=>rfl) (noYh_ok _) (.inl ⟨fun _=>rfl,rgOf_ok hfa⟩) hH h
 refine ⟨v,H',h1,h2,h3,n0+1,fun n hn B hB=>?_⟩
 obtain ⟨n,rfl⟩: ∃ i,n=i+1:=⟨n-1,by omega⟩
 obtain ⟨B',e1,e2⟩:=h4 n (by omega) B hB
 refine ⟨B',?_,e2⟩
 show runs V.fs V.given V.isGiven (n+1) f args B=_
 simp only [runs,hg,hf]
 exact e1
theorem cal_given {f:Nat} (hg:V.isGiven f=true) {args:List AV} {H H':Hp} {v:AV} {Q:AV→Hp→Prop} (h: ∀ A,Lq H A→ ∃ A',V.given f args A=some (v,A')∧Lq H' A') (hO:Ok H→Ok H'∧Mo H H') (hQ:Q v H'):Cal V f args H Q:=by
 intro hH
 refine ⟨v,H',(hO hH).1,(hO hH).2,hQ,1,fun n hn A hA=>?_⟩
 obtain ⟨n,rfl⟩: ∃ i,n=i+1:=⟨n-1,by omega⟩
 obtain ⟨B',e1,e2⟩:=h A hA
 refine ⟨B',?_,e2⟩
 show runs V.fs V.given V.isGiven (n+1) f args A=_
 simp only [runs,hg]
 exact e1
def frz1 (H:Hp) (b:Nat):Hp:=match H.m.get b with
 | some bl=>{ H with m:=H.m.set b (some ⟨bl.cells,bl.es,false⟩) }
 | none=>H
def frz (H:Hp):List Nat→Hp
 | []=>H
 | b::l=>frz (frz1 H b) l
theorem frz1_get (H:Hp) (b i:Nat):(frz1 H b).m.get i=(H.m.get i).map fun bl=>⟨bl.cells,bl.es,bl.rw&& !(Nat.beq i b)⟩:=by
 unfold frz1
 cases e:H.m.get b with
 | none=>
  simp only
  by_cases hi:i=b
  ·subst hi;rw [e];rfl
  ·rw [show Nat.beq i b=false by cases hb:Nat.beq i b with | true=>exact absurd (Tr.beq_t hb) hi | false=>rfl]
   cases H.m.get i with
   | none=>rfl
   | some bl=>simp
 | some bl=>
  simp only
  rw [Tr.get_set]
  by_cases hi:i=b
  ·subst hi;rw [if_pos rfl,e,Nat.beq_refl];simp
  ·rw [if_neg hi,show Nat.beq i b=false by cases hb:Nat.beq i b with | true=>exact absurd (Tr.beq_t hb) hi | false=>rfl]
   cases H.m.get i with
   | none=>rfl
   | some bl=>simp
theorem frz1_nx (H:Hp) (b:Nat):(frz1 H b).nx=H.nx:=by unfold frz1;split <;> rfl
theorem frz_nx: ∀ (l:List Nat) (H:Hp),(frz H l).nx=H.nx
 | [],H=>rfl
 | b::l,H=>by rw [frz,frz_nx l,frz1_nx]
theorem frz_get: ∀ (l:List Nat) (H:Hp) (i:Nat),(frz H l).m.get i=(H.m.get i).map fun bl=>⟨bl.cells,bl.es,bl.rw&& !(memN i l)⟩
 | [],H,i=>by rw [frz];cases H.m.get i with | none=>rfl | some bl=>simp [memN]
 | b::l,H,i=>by
  rw [frz,frz_get l,frz1_get]
  cases H.m.get i with
  | none=>rfl
  | some bl=>
   simp only [Option.map_some,memN,Option.some.injEq,Blk.mk.injEq,true_and]
   cases Nat.beq i b <;> cases bl.rw <;> simp
theorem frz_lq (H:Hp) (l:List Nat):Lq (frz H l) H:=by
 refine ⟨(frz_nx l H).symm,fun i hn=>?_,fun i bl e=>?_⟩
 ·rw [frz_get] at hn
  cases e:H.m.get i with
  | none=>rfl
  | some bl=>rw [e] at hn;cases hn
 ·rw [frz_get] at e
  cases e2:H.m.get i with
  | none=>rw [e2] at e;cases e
  | some bl2=>
   rw [e2] at e
   simp only [Option.map_some,Option.some.injEq] at e
   subst e
   exact ⟨bl2.rw,rfl,fun h=>by simp only [Bool.and_eq_true] at h;exact h.1⟩
theorem frz_mo (H:Hp) (l:List Nat):Mo H (frz H l):=⟨by rw [frz_nx];exact Nat.le_refl _,fun i _ hn=>by rw [frz_get,hn];rfl,fun i bl e hr=>by
 rw [frz_get,e]
 obtain ⟨c,s,r⟩:=bl
 simp only at hr
 subst hr
 rfl⟩
theorem frz_ok {H:Hp} (h:Ok H) (l:List Nat):Ok (frz H l):=fun i hi=>by rw [frz_nx] at hi;rw [frz_get,h i hi];rfl
theorem Cal.ahead {f:Nat} {args:List AV} {H:Hp} {Q:AV→Hp→Prop} (l:List Nat) (h:Cal V f args (frz H l) Q):Cal V f args H Q:=by
 intro hH
 obtain ⟨v,H',h1,h2,h3,n0,h4⟩:=h (frz_ok hH l)
 exact ⟨v,H',h1,(frz_mo H l).trans h2,h3,n0,fun n hn A hA=>h4 n hn A ((frz_lq H l).trans hA)⟩
theorem Cal.behind {f:Nat} {args:List AV} {H:Hp} {Q:AV→Hp→Prop} (h:Cal V f args H fun v H'=> ∃ l,Q v (frz H' l)):Cal V f args H Q:=by
 intro hH
 obtain ⟨v,H',h1,h2,⟨l,h3⟩,n0,h4⟩:=h hH
 refine ⟨v,frz H' l,frz_ok h1 l,h2.trans (frz_mo H' l),h3,n0,fun n hn A hA=>?_⟩
 obtain ⟨A',e1,e2⟩:=h4 n hn A hA
 exact ⟨A',e1,(frz_lq H' l).trans e2⟩
end
end Go.Proofs.YtgfcgkbbmcgjmaaGreatDoor.Eng
