/-
  Texts of the proof, put together: POd, QK, Qd, Qi, IdS, Qs, WOd, POe, WOe, POf, WOf, OkOutboxRecovers, LvA, LvB, LvC, LvD, LvE, LvF.
-/
import Derived.Test.YtfobhhegpkinaaaGreatDoorOR3
import Derived.Sort.KeysCollected
import GoSem.ClaimData
namespace Go.Proofs.YtfobhhegpkinaaaGreatDoor
open Go
set_option linter.unusedVariables false
structure Ac where
 fValue:(List Ab)
 fVersion:Int
 deriving DecidableEq,Inhabited
structure Al where
 fMade:Bool
 fEvents:(List Ai)
 fResults:(List (Ai×(List Ab)))
 fKeys:(List (Ai×(List (Ai×Ac))))
 fPending:(List Ak)
 deriving DecidableEq,Inhabited
structure Bl where
 fKind:Int
 fC:AC
 fS:Ai
 fN:Int
 deriving DecidableEq,Inhabited
def MM (ys:(List Ai)):Option ((List Ai)):=
 Bd (Dz 16 (([]:List Ai).length+ys.length))<|some (([]:List Ai)++ys)
def MN (ys:(List Ak)):Option ((List Ak)):=
 Bd (Dz 112 (([]:List Ak).length+ys.length))<|some (([]:List Ak)++ys)
def UU :Option (Al):=
 some (Al.mk true ([]:List Ai) ([]:List (Ai×(List Ab))) ([]:List (Ai×(List (Ai×Ac)))) ([]:List Ak))
def QV :Option (Bool):=
 some false
def Ev (o:Al):Option (Bool):=
 some o.fMade
def GO (ha:Int)(hb:(List (Ai×Ac))):Option (Stp (Int×(List (Ai×Ac))) (Out (Int×(List (Ai×Ac))) ((List (Ai×Ac))))):=
 Bd (Cb .i64 (ha+1))<|some (.next (ha+1,hb))
def Gp (l:(List Ap))(ha:Int)(hb:(List (Ai×Ac))):Option (Stp (Int×(List (Ai×Ac))) (Out (Int×(List (Ai×Ac))) ((List (Ai×Ac))))):=
 Bw (decide (ha<(l.length:Int))) (Bd (CY ha (l.length:Int))<|Bw (decide (((Aq l ha).fKind)=1)) (Bq (Hp ((Aq l ha).fValue)) λhd=>Bd (Cb .i64 (((B2 hb ((Aq l ha).fKey) (Ac.mk ([]:(List Ab)) 0)).fVersion)+1))<|Bw (decide (256<((mset hb ((Aq l ha).fKey) (Ac.mk hd (((B2 hb ((Aq l ha).fKey) (Ac.mk ([]:(List Ab)) 0)).fVersion)+1))).length:Int))) (some (.out (.ret (3,mset hb ((Aq l ha).fKey) (Ac.mk hd (((B2 hb ((Aq l ha).fKey) (Ac.mk ([]:(List Ab)) 0)).fVersion)+1)))))) (GO ha (mset hb ((Aq l ha).fKey) (Ac.mk hd (((B2 hb ((Aq l ha).fKey) (Ac.mk ([]:(List Ab)) 0)).fVersion)+1))))) (Bw (decide (((Aq l ha).fKind)=2)) (GO ha (mdel hb ((Aq l ha).fKey))) (GO ha hb))) (some (.out (.go hb)))
def Je (ha:(List (Ai×Ac))):Option (Int×(List (Ai×Ac))):=
 some (0,ha)
def Pw (F:Nat)(keys:(List (Ai×Ac)))(l:(List Ap)):Option (Int×(List (Ai×Ac))):=
 Bq (Ci (λσ=>Gp l σ.1 σ.2) F (0,keys)) (BO λν=>Je ν)
def Wd (x:Ak)(id:Ai):Option (Bool):=
 some (decide (x.fID=id))
def HK (ys:(List Ak))(id:Ai)(ha:Int):Option (Stp (Int) (Out (Int) (Unit))):=
 Bw (decide (ha<(ys.length:Int))) (Bd (CY ha (ys.length:Int))<|Bq (Wd (Ak.mk ((Aq ys ha).fID) ((Aq ys ha).fTenant) ((Aq ys ha).fCause) ((Aq ys ha).fAt) ((Aq ys ha).fEffect)) id) λhb=>Bw (hb) (some (.out (.ret ha))) (Bd (Cb .i64 (ha+1))<|some (.next (ha+1)))) (some (.out (.go ())))
def Le :Option (Int):=
 some (-1)
def PB (F:Nat)(ys:(List Ak))(id:Ai):Option (Int):=
 Bq (Ci (λσ=>HK ys id σ) F 0) (BO λν=>Le )
def ML (ys:(List Ak))(i:Int)(j:Int):Option ((List Ak)):=
 Bd (Gs i j)<|Bd (Gs j (ys.length:Int))<|Bd (Gs (ys.length:Int) (ys.length:Int))<|Bw (decide (i=j)) (some ys) (Bd (Gs i (ys.length:Int))<|Bd (Gs ((Int.toNat i+(ys.length-Int.toNat j):Nat):Int) (ys.length:Int))<|some (List.take (Int.toNat i+(ys.length-Int.toNat j)) (List.take (Int.toNat ((Int.toNat i+(ys.length-Int.toNat j):Nat):Int)) (List.take (Int.toNat i) ys++List.drop (Int.toNat j) ys++List.drop (Int.toNat i+(ys.length-Int.toNat j)) ys)++List.replicate ((List.take (Int.toNat i) ys++List.drop (Int.toNat j) ys++List.drop (Int.toNat i+(ys.length-Int.toNat j)) ys).length-Int.toNat ((Int.toNat i+(ys.length-Int.toNat j):Nat):Int)) (Ak.mk ([]:Ai) ([]:Ai) ([]:Ai) 0 (Ap.mk 0 ([]:Ai) ([]:(List Ab)) 0)))))
def J6 (o:Al)(event:Ai):Option ((List Ab)×Bool):=
 Bq (Ev o) λr1=>Bw (!r1) (some (([]:List Ab),false)) (Bq (Hp (B2 o.fResults event ([]:(List Ab)))) λr7=>some (r7,E6 o.fResults event))
def DJ (o:Al)(hb:(List Ak))(ha:Int):Option (Stp ((List Ak)×Int) (Out ((List Ak)) ((List Ak)))):=
 Bw (decide (ha<(o.fPending.length:Int))) (Bd (CY ha (o.fPending.length:Int))<|Bq (UT ((Aq o.fPending ha).fEffect)) λhd=>Bd (Dz 112 (hb.length+([(Ak.mk ((Aq o.fPending ha).fID) ((Aq o.fPending ha).fTenant) ((Aq o.fPending ha).fCause) ((Aq o.fPending ha).fAt) hd)]:List Ak).length))<|Bd (Cb .i64 (ha+1))<|some (.next (hb++([(Ak.mk ((Aq o.fPending ha).fID) ((Aq o.fPending ha).fTenant) ((Aq o.fPending ha).fCause) ((Aq o.fPending ha).fAt) hd)]:List Ak),ha+1))) (some (.out (.go hb)))
def Gi (ha:(List Ak)):Option ((List Ak)):=
 some ha
def Ec (F:Nat)(o:Al):Option ((List Ak)):=
 Bq (Ev o) λr1=>Bw (!r1) (some ([]:List Ak)) (Bq (Ci (λσ=>DJ o σ.1 σ.2) F (([]:List Ak),0)) (BO λν=>Gi ν))
def J8 (o:Al):Option ((List Ai)):=
 Bq (Ev o) λr1=>Bw (!r1) (some ([]:List Ai)) (Bq (MM o.fEvents) λr7=>some r7)
def Sr (F:Nat)(o:Al)(id:Ai):Option (Int×Al):=
 Bq (Ev o) λr2=>Bw (!r2) (some (10,o)) (Bq (PB F o.fPending id) λr8=>Bw (decide (r8<0)) (some (5,o)) (Bq (MN o.fPending) λha=>Bd (Cb .i64 (r8+1))<|Bq (ML ha r8 (r8+1)) λhb=>some (0,(Al.mk o.fMade o.fEvents o.fResults o.fKeys hb))))
def Gl (o:Al)(tenant:Ai)(hb:(List Ai))(hd:(List Bt))(ha:Int):Option (Stp ((List Bt)×Int) (Out ((List Bt)) ((List Bt)))):=
 Bw (decide (ha<((BJ hb).length:Int))) (Bd (CY ha ((BJ hb).length:Int))<|Bq (Hp ((B2 (B2 o.fKeys tenant ([]:(List (Ai×Ac)))) (Aq (BJ hb) ha) (Ac.mk ([]:(List Ab)) 0)).fValue)) λhe=>Bd (Dz 48 (hd.length+([(Bt.mk (Aq (BJ hb) ha) he ((B2 (B2 o.fKeys tenant ([]:(List (Ai×Ac)))) (Aq (BJ hb) ha) (Ac.mk ([]:(List Ab)) 0)).fVersion))]:List Bt).length))<|Bd (Cb .i64 (ha+1))<|some (.next (hd++([(Bt.mk (Aq (BJ hb) ha) he ((B2 (B2 o.fKeys tenant ([]:(List (Ai×Ac)))) (Aq (BJ hb) ha) (Ac.mk ([]:(List Ab)) 0)).fVersion))]:List Bt),ha+1))) (some (.out (.go hd)))
def Jc (ha:(List Bt)):Option ((List Bt)):=
 some ha
def GL (ha:Ai)(x16:Ac)(hb:(List Ai)):Option (Stp ((List Ai)) (Out ((List Bt)) ((List Ai)))):=
 Bd (Dz 16 (hb.length+([ha]:List Ai).length))<|some (.next (hb++([ha]:List Ai)))
def Gk (F:Nat)(o:Al)(tenant:Ai)(ha:(List Ai)):Option ((List Bt)):=
 Bd (Dz 16 ha.length)<|Bq (Ci (λσ=>Gl o tenant ha σ.1 σ.2) F (([]:List Bt),0)) (BO λν=>Jc ν)
def J7 (F:Nat)(o:Al)(tenant:Ai):Option ((List Bt)):=
 Bq (Ev o) λr1=>Bw (!r1) (some ([]:List Bt)) (TA (B2 o.fKeys tenant ([]:(List (Ai×Ac)))) λord=>Bq (Rk (λpe τ=>GL pe.1 pe.2 τ) ord ([]:List Ai)) (BO λν=>Gk F o tenant ν))
def GN (ha:Int)(hb:(List Ak)):Option (Stp (Int×(List Ak)) (Out (Bool×Int×Al) ((List Ak)))):=
 Bd (Cb .i64 (ha+1))<|some (.next (ha+1,hb))
def E0 (c:AC)(ha:Int)(hb:(List Ak)):Option (Stp (Int×(List Ak)) (Out (Bool×Int×Al) ((List Ak)))):=
 Bw (decide (ha<(c.fEffects.length:Int))) (Bd (CY ha (c.fEffects.length:Int))<|Bq (Gj ((Aq c.fEffects ha).fKind)) λhe=>Bw (he) (Bd (Dz 1 c.fEvent.length)<|Bd (Cb .i64 ha)<|Bq (UT (Aq c.fEffects ha)) λhd=>Bd (Dz 112 (hb.length+([(Ak.mk (BK c.fEvent ha) c.fTenant c.fEvent c.fAt hd)]:List Ak).length))<|GN ha (hb++([(Ak.mk (BK c.fEvent ha) c.fTenant c.fEvent c.fAt hd)]:List Ak))) (GN ha hb)) (some (.out (.go hb)))
def Ia (o:Al)(c:AC)(ha:Int×(List (Ai×Ac)))(hb:(List Ab))(hd:(List Ak)):Option (Bool×Int×Al):=
 some (true,0,(Al.mk o.fMade (o.fEvents++([c.fEvent]:List Ai)) (mset o.fResults c.fEvent hb) (mset o.fKeys c.fTenant ha.2) hd))
def Ib (ha:Ai)(hb:Ac)(hd:(List (Ai×Ac))):Option (Stp ((List (Ai×Ac))) (Out (Bool×Int×Al) ((List (Ai×Ac))))):=
 some (.next (mset hd ha hb))
def Ez (F:Nat)(o:Al)(c:AC)(hb:(List (Ai×Ac))):Option (Bool×Int×Al):=
 Bq (Pw F hb c.fEffects) λha=>Bw (!decide (ha.1=0)) (some (false,ha.1,o)) (Bd (Dz 16 (o.fEvents.length+([c.fEvent]:List Ai).length))<|Bq (Hp c.fResult) λhd=>Bq (Ci (λσ=>E0 c σ.1 σ.2) F (0,o.fPending)) (BO λν=>Ia o c ha hd ν))
def KX (F:Nat)(o:Al)(c:AC):Option (Bool×Int×Al):=
 Bq (Ev o) λr2=>Bw (!r2) (some (false,10,o)) (Bq (Nk F c) λr8=>Bw (!decide (r8=0)) (some (false,r8,o)) (Bw (E6 o.fResults c.fEvent) (some (false,0,o)) (Bw (decide (4000≤(o.fEvents.length:Int))) (some (false,3,o)) (TA (B2 o.fKeys c.fTenant ([]:(List (Ai×Ac)))) λord=>Bq (Rk (λpe τ=>Ib pe.1 pe.2 τ) ord ([]:List (Ai×Ac))) (BO λν=>Ez F o c ν)))))
def Hc (F:Nat)(o:Al)(r7:(List Ai)×Int)(hb:(List (List Ai)))(ha:Int):Option (Stp ((List (List Ai))×Int) (Out (Int×Al) ((List (List Ai))))):=
 Bw (decide (ha<(r7.1.length:Int))) (Bd (CY ha (r7.1.length:Int))<|Bq (ME F (Aq r7.1 ha)) λhd=>Bw (!decide (hd.2=0)) (some (.out (.ret (13,o)))) (Bd (Dz 24 (hb.length+([hd.1]:List (List Ai)).length))<|Bd (Cb .i64 (ha+1))<|some (.next (hb++([hd.1]:List (List Ai)),ha+1)))) (some (.out (.go hb)))
def HX (F:Nat)(o:Al)(rc:Ai)(ha:(List (List Ai))):Option (Int×Al):=
 Bd (imp (decide ((ha.length:Int)=1)) (CY 0 (ha.length:Int)))<|Bw (((decide ((ha.length:Int)=1))&&(decide (((Aq ha 0).length:Int)=2)))) (Bd (CY 0 (ha.length:Int))<|Bd (CY 1 ((Aq ha 0).length:Int))<|Bq (DV F (Aq (Aq ha 0) 1)) λhd=>Bw (((!decide (hd.2=0))||(!decide (hd.1=rc)))) (some (13,o)) (Bq (Sr F o (Aq (Aq ha 0) 1)) λhg=>some (0,hg.2))) (Bq (M0 F ha) λhb=>Bq (H7 F hb.1) λhe=>Bw (((!hb.2)||((!decide (he.2=0))||(!decide (he.1=rc))))) (some (13,o)) (Bq (KX F o hb.1) λhf=>some (hf.2.1,hf.2.2)))
def EK (F:Nat)(o:Al)(rc:Ai):Option (Int×Al):=
 Bq (Ev o) λr1=>Bw (!r1) (some (10,o)) (Bq (PE F rc) λr7=>Bq (Ci (λσ=>Hc F o r7 σ.1 σ.2) F (([]:List (List Ai)),0)) (BO λν=>HX F o rc ν))
def M9 (F:Nat)(o:Al)(x:Bl):Option (Bool×Int×Al):=
 Bw (decide (x.fKind=0)) (Bq (KX F o x.fC) λr4=>some (r4.1,r4.2.1,r4.2.2)) (Bw (decide (x.fKind=1)) (Bq (Sr F o x.fS) λha=>some (false,ha.1,ha.2)) (Bw (decide (x.fKind=2)) (Bq (Ec F o) λhg=>Bq (Nq hg x.fN) λhh=>Bq (Sr F o hh) λhb=>some (false,hb.1,hb.2)) (Bw (decide (x.fKind=3)) (Bq (EK F o x.fS) λhd=>some (false,hd.1,hd.2)) (Bw (decide (x.fKind=4)) (Bq (H7 F x.fC) λhi=>Bq (EK F o hi.1) λhe=>some (false,he.1,he.2)) (Bq (DV F x.fS) λhj=>Bq (EK F o hj.1) λhf=>some (false,hf.1,hf.2))))))
end Go.Proofs.YtfobhhegpkinaaaGreatDoor
namespace Go.Proofs.YtfobhhegpkinaaaGreatDoor
open Go
end Go.Proofs.YtfobhhegpkinaaaGreatDoor
namespace Go.Proofs.YtfobhhegpkinaaaGreatDoor.Q
open Go Go.RowKit Go.ChangeMaps
set_option linter.unusedVariables false
set_option linter.unusedSimpArgs false
end Go.Proofs.YtfobhhegpkinaaaGreatDoor.Q
namespace Go.Proofs.YtfobhhegpkinaaaGreatDoor.Q
open Go Go.RowKit
set_option linter.unusedVariables false
set_option linter.unusedSimpArgs false
def Aew:Rp:=⟨λ_ _=>True,λ_ _=>trivial,false,λh=>by cases h⟩
def Jy (v:Value)(i:Nat):Value:=match v with
 | .slice A _ cap=>.slice A i cap
 | v=>v
section
variable {P : Program} {n : Nat} {c : Cx} {ops : Array Oper} {Q : Exit → Act → World → Prop} {K : Act → World → Prop} {rest : List Oper} {l : Fr} {H : List Ent} {d : Nat} {d' : Option Nat} {x y z3 z4 : Operand} {ty t e : TypeId} {pos : String} {af : Array Edge} {g : Option (Nat × Bool)} {v : Value} {sz : Nat}
theorem QD:∀(zs:List (List Rp)) (k:Nat),(∀c∈zs,c.length=sz)→(zs.take k).flatten=zs.flatten.take (k*sz):=by
 intro zs
 induction zs with
 | nil=>intro k _;simp
 | cons z zs ih=>
  intro k hk
  cases k with
  | zero=>simp
  | succ k=>
   have hzl:=hk z (by simp);simp only[List.take_succ_cons,List.flatten_cons];rw[ih k (λc hc=>hk c (by simp[hc]))];have e1:(k+1)*sz=z.length+k*sz:=by rw[hzl,Nat.succ_mul];omega
   rw[e1,List.take_length_add_append]
theorem R3:∀(zs:List (List Rp)) (k:Nat),(∀c∈zs,c.length=sz)→(zs.drop k).flatten=zs.flatten.drop (k*sz):=by
 intro zs
 induction zs with
 | nil=>intro k _;simp
 | cons z zs ih=>
  intro k hk
  cases k with
  | zero=>simp
  | succ k=>
   have hzl:=hk z (by simp);simp only[List.drop_succ_cons,List.flatten_cons];rw[ih k (λc hc=>hk c (by simp[hc]))];have e1:(k+1)*sz=z.length+k*sz:=by rw[hzl,Nat.succ_mul];omega
   rw[e1,List.drop_length_add_append]
theorem Si {α:Type}{ys:List α}{enc:α→List Rp}{i:Nat}{k1 k2 k3:IntKind}{a0 b0 m0:Int}(ht:P.underlying t=some (.slice e))(hz:∀w,(sizeOf e).run P w = .ok sz w)(hx:ev l x=some (rv v))(h1:ev l y=some (rI k1 a0))(h2:ev l z3=some (rI k2 b0))(h3:ev l z4=some (rI k3 m0))(hi:H[i]? =some (.row v e sz (ys.map enc)))(g1:Gs a0 b0=true)(g2:Gs b0 m0=true)(g3:Gs m0 (ys.length:Int)=true) :
  Bv P n c l H { dst:=d',op:=.slice t x (some y) (some z3) (some z4),type:=ty,pos:=pos,after:=af,guard:=g } Aew:=λa w Z ha hw=>by
 obtain⟨_,us,⟨_,q2⟩,_⟩:=hw.ent hi;have a1:=(BM g1).1;have a2:=(BM g1).2;have a3:=(BM g2).2;have a4:=(BM g3).2;have b1:0≤b0:=by omega
 have b2:0≤m0:=by omega
 rcases q2 with⟨rfl,hz0⟩ | ⟨b,cap,cur,rfl,_,hb,hcap,hm,hcs,htk⟩
 ·simp only[AfP] at hz0;have c1:m0≤(0:Nat):=by omega
  have c2:b0≤(m0.toNat:Nat):=by omega
  have c3:a0≤(b0.toNat:Nat):=by omega
  have z1:m0=0:=by omega
  have z2:b0=0:=by omega
  have z3':a0=0:=by omega
  subst z1 z2 z3';exact⟨.slice none 0 0,trivial,by simp[execOp,ha.eval hx,ha.eval h1,ha.eval h2,ha.eval h3,Instr.sliceAt,Instr.slice,run_underlying ht,Instr.sliceBounds,Bg (m:=0) _ _ (Agp 0) (Agp 0),hz]⟩
 ·simp only[AfP] at hcap;have c1:m0≤(cap:Nat):=by omega
  have c2:b0≤(m0.toNat:Nat):=by omega
  have c3:a0≤(b0.toNat:Nat):=by omega
  refine⟨.slice (if m0.toNat=a0.toNat then some ⟨b,0,none⟩ else(some (⟨b,0,none⟩:Addr)).map (·.add (a0.toNat*sz))) (b0.toNat-a0.toNat) (m0.toNat-a0.toNat),trivial,?_⟩;simp[execOp,ha.eval hx,ha.eval h1,ha.eval h2,ha.eval h3,Instr.sliceAt,Instr.slice,run_underlying ht,Instr.sliceBounds,Bg (m:=cap) _ _ b2 c1,Bg (m:=m0.toNat) _ _ b1 c2,Bg (m:=b0.toNat) _ _ a1 c3,hz]
theorem Adx {α:Type}{ys:List α}{enc:α→List Rp}{i:Nat}{k:IntKind}{j:Int}(ht:P.underlying t=some (.slice e))(hz:∀w,(sizeOf e).run P w = .ok sz w)(hx:ev l x=some (rv v))(hy:ev l y=some (rI k j))(hi:H[i]? =some (.row v e sz (ys.map enc)))(hg:Gs j (ys.length:Int)=true) :
  Bv P n c l H { dst:=d',op:=.slice t x none (some y) none,type:=ty,pos:=pos,after:=af,guard:=g } (rv (Jy v j.toNat)):=λa w Z ha hw=>Dg<|by
 obtain⟨_,us,⟨_,q2⟩,_⟩:=hw.ent hi;have g0:=(BM hg).1;have g1:=(BM hg).2;rcases q2 with⟨rfl,hz0⟩ | ⟨b,cap,cur,rfl,_,hb,hcap,hm,hcs,htk⟩
 ·simp at hz0;subst hz0;obtain rfl:j=0:=by simp at g1;omega
  simp[execOp,ha.eval hx,ha.eval hy,Instr.sliceAt,Instr.slice,run_underlying ht,Instr.sliceBounds,Bg (m:=0) _ _ (Agp 0) (Agp 0),hz,Jy]
 ·simp only[AfP] at hcap;have hjc:j≤(cap:Int):=by omega
  simp[execOp,ha.eval hx,ha.eval hy,Instr.sliceAt,Instr.slice,run_underlying ht,Instr.sliceBounds,Bg (m:=cap) _ _ g0 hjc,hz,Jy];intro _;rfl
theorem ZP {α:Type}{ys:List α}{enc:α→List Rp}{i k:Nat}(ht:P.underlying t=some (.slice e))(h:ev l x=some (rv (Jy v k)))(hk:k≤ys.length){e':TypeId}(hi:H[i]? =some (.row v e' sz (ys.map enc))):Bv P n c l H { dst:=d',op:=.call { callee:=.builtin .len,args:=#[x],argTypes:=#[t] },type:=ty,pos:=pos,after:=af,guard:=g } (rI .i64 k):=λa w Z ha hw=>Dg<|by
 obtain⟨_,us,⟨_,h2⟩,_⟩:=hw.ent hi;rcases h2 with⟨rfl,hz⟩ | ⟨b,cap,cur,rfl,_⟩
 ·simp at hz;subst hz;obtain rfl:k=0:=by simpa using hk
  simp[execOp,resolve,invoke,builtin,ha.eval h,Builtin.len_,run_underlying ht,goInt,Jy]
 ·simp[execOp,resolve,invoke,builtin,ha.eval h,Builtin.len_,run_underlying ht,goInt,Jy]
theorem ZR {α:Type}{ys:List α}{enc:α→List Rp}{i k:Nat}{k1 k2:IntKind}{a0 b0:Int}(ht:P.underlying t=some (.slice e))(hz:∀w,(sizeOf e).run P w = .ok sz w)(h:ev l x=some (rv (Jy v k)))(h1:ev l y=some (rI k1 a0))(h2:ev l z3=some (rI k2 b0))(hi:H[i]? =some (.row v e sz (ys.map enc)))(hb0:b0=(ys.length:Int))(hg:Gs a0 b0=true) :
  Bv P n c l H { dst:=d',op:=.slice t x (some y) (some z3) none,type:=ty,pos:=pos,after:=af,guard:=g } (rv (IV sz v a0.toNat)):=λa w Z ha hw=>Dg<|by
 obtain⟨_,us,⟨_,q2⟩,_⟩:=hw.ent hi;have g0:=(BM hg).1;have g1:=(BM hg).2;have gb:0≤b0:=by omega
 rcases q2 with⟨rfl,hz0⟩ | ⟨b,cap,cur,rfl,_,hb,hcap,hm,hcs,htk⟩
 ·simp at hz0;subst hz0;simp at hb0;subst hb0;obtain rfl:a0=0:=by omega
  simp[execOp,ha.eval h,ha.eval h1,ha.eval h2,Instr.sliceAt,Instr.slice,run_underlying ht,Instr.sliceBounds,Bg (m:=0) _ _ (Agp 0) (Agp 0),hz,Jy,IV]
 ·simp only[AfP] at hcap;have c1:b0≤(cap:Nat):=by omega
  have c2:a0≤(b0.toNat:Nat):=by omega
  have hbn:b0.toNat=ys.length:=by omega
  simp[execOp,ha.eval h,ha.eval h1,ha.eval h2,Instr.sliceAt,Instr.slice,run_underlying ht,Instr.sliceBounds,Bg (m:=cap) _ _ gb c1,Bg (m:=b0.toNat) _ _ g0 c2,Bg (m:=ys.length) _ _ g0 (show a0≤((ys.length:Nat):Int) by omega),hz,Jy,IV,hbn]
theorem St.cut {Z:Fz}{w:World}{α:Type}{ys:List α}{enc:α→List Rp}{i k:Nat}(hw:St c H Z w)(hi:H[i]? =some (.row v e sz (ys.map enc)))(hk:k≤ys.length):St c (H.set i (.row (Jy v k) e sz ((ys.take k).map enc))) Z w:=by
 obtain⟨h0,us,⟨h1,h2⟩,h3⟩:=hw.ent hi;rcases h2 with⟨rfl,hz0⟩ | ⟨b,cap,cur,rfl,_,hb,hcap,hm,hcs,htk⟩
 ·simp at hz0;subst hz0;obtain rfl:k=0:=by simpa using hk
  exact hw.set hi rfl rfl rfl (AfZ _) (λ_ _ _=>rfl) ⟨by simp,[],⟨by simp,.inl ⟨rfl,by simp⟩⟩,trivial⟩ (by simp[Ent.foot,Value.ownBlock,Jy])
 ·simp only[AfP] at h1 hcap htk;refine hw.set hi rfl rfl rfl (AfZ _) (λ_ _ _=>rfl) ⟨λcl hcl=>?_,us.take (k*sz),⟨?_,.inr ⟨b,cap,cur,?_,Agn _,hb,?_,hm,hcs,?_⟩⟩,?_⟩ (by simp[Ent.foot,Value.ownBlock,Jy])
  ·rw[List.map_take] at hcl;exact h0 cl (List.mem_of_mem_take hcl)
  ·rw[Ag6,h1,AfP,Ag6,Nat.min_eq_left hk];exact Nat.min_eq_left (Nat.mul_le_mul_right _ hk)
  ·simp[Nat.min_eq_left hk,Jy]
  ·simp;omega
  ·rw[AfP,Ag6,Nat.min_eq_left hk,← htk,List.take_take,Nat.min_eq_left (Nat.mul_le_mul_right _ hk)]
  ·rw[List.map_take,QD _ _ h0];exact h3.take _
theorem WK.cut {α:Type}{ys:List α}{enc:α→List Rp}(i k:Nat)(hi:H[i]? =some (.row v e sz (ys.map enc)))(hk:k≤ys.length)(h:WK n c K l (H.set i (.row (Jy v k) e sz ((ys.take k).map enc)))):WK n c K l H:=λa w Z ha hw=>h a w Z ha (hw.cut hi hk)
theorem Ab7 {α:Type}{ys:List α}{enc:α→List Rp}{i:Nat}{a0 b0:Int}{inf:TypeInfo}(ht:P.underlying t=some (.slice e))(hinf:P.info? e=some inf)(hsize:inf.size=sz)(hsz:Nat.blt 0 sz=true)
  (hx:ev l x=some (rv (Jy v a0.toNat))) (hy:ev l y=some (rv (IV sz v b0.toNat))) (hi:H[i]? =some (.row v e sz (ys.map enc))) (henc:∀z,(enc z).length=sz) (hone:∀z,(enc z).all (·.one)=true) (g1:Gs a0 b0=true) (g2:Gs b0 (ys.length:Int)=true) (hn:Nat.blt d n=true)
  (h:WL P n c ops Q rest ((d,rv (Jy v (a0.toNat+(ys.length-b0.toNat))))::l) (H.set i (.row v e sz ((ys.take a0.toNat++ys.drop b0.toNat++ys.drop (a0.toNat+(ys.length-b0.toNat))).map enc)))) :
  WL P n c ops Q ({ dst:=some d,op:=.call { callee:=.builtin .append,args:=#[x,y],argTypes:=#[t,t] },type:=ty,pos:=pos,after:=af,guard:=none }::rest) l H:=
 Ke (λa w Z ha hw=>by
  obtain⟨h0,us,⟨h1,h2⟩,h3⟩:=hw.ent hi;have p1:=(BM g1).1;have p2:=(BM g1).2;have p3:=(BM g2).2;have hsz':0<sz:=by simpa using hsz
  rcases h2 with⟨rfl,hz0⟩ | ⟨b,cap,cur,rfl,_,hb,hcap,hm,hcs,htk⟩
  ·simp at hz0;subst hz0;obtain rfl:b0=0:=by simp at p3;omega
   obtain rfl:a0=0:=by omega
   have e1:=run_append_owned_none (P:=P) (w:=w) (base:=0) t ty e inf sz ht hinf (.slice none 0 0) 0 [] (World.ownsRow_nil w _ e sz);refine⟨.slice none 0 0,w,_,_,Z,?_,Fz.le.refl _,rfl,?_,h⟩
   ·simp[execOp,resolve,invoke,builtin,ha.eval hx,ha.eval hy,Jy,IV,e1]
   ·have:H.set i (.row (.slice none 0 0) e sz ((([]:List α).take (0:Int).toNat++([]:List α).drop (0:Int).toNat++([]:List α).drop ((0:Int).toNat+(([]:List α).length-(0:Int).toNat))).map enc))=H:=by
     obtain⟨hl,he⟩:=List.getElem?_eq_some_iff.1 hi;simp only[List.take_nil,List.drop_nil,Ag4];rw[← he,List.set_getElem_self]
    rw[this];exact hw
  ·simp only[AfP] at h1 hcap htk;have q1:a0.toNat≤b0.toNat:=by omega
   have q2:b0.toNat≤ys.length:=by omega
   generalize a0.toNat=A at *;generalize b0.toNat=B at *;have hAl:A*sz≤ys.length*sz:=Nat.mul_le_mul_right _ (by omega);have hBl:B*sz≤ys.length*sz:=Nat.mul_le_mul_right _ q2;have hlc:ys.length*sz≤cap*sz:=Nat.mul_le_mul_right _ hcap;have hnl:(us.drop (B*sz)).length=(ys.length-B)*sz:=by rw[Agy,h1,Nat.sub_mul]
   have hsum:A*sz+(ys.length-B)*sz≤ys.length*sz:=by rw[← Nat.add_mul];exact Nat.mul_le_mul_right _ (by omega)
   have hN:(A+(ys.length-B))*sz=A*sz+(ys.length-B)*sz:=Nat.add_mul _ _ _;have hus1:∀u∈us,u.oneCell'=true:=Bj.one (rs:=(ys.map enc).flatten) (by
    rw[Ags];intro r hr;obtain⟨cl,hcl,hrc⟩:=List.mem_flatten.1 hr;obtain⟨z',_,rfl⟩:=List.mem_map.1 hcl;exact List.all_eq_true.1 (hone z') r hrc) h3
   have hcell:∀j u,us[j]? =some u→w.cell? ((⟨b,0,none⟩:Addr).add j)=some u:=World.ownsRow.cells (g:=b) (w:=w) (base:=0) (e:=e) (size:=sz) (v:=.slice (some ⟨b,0,none⟩) ys.length cap) (n:=ys.length) (xs:=us) ⟨h1,.inr ⟨b,cap,cur,rfl,Agn _,hb,hcap,hm,hcs,htk⟩⟩ rfl;obtain⟨T,hT,hTc⟩:∃T:Addr,IV sz (.slice (some ⟨b,0,none⟩) ys.length cap) B = .slice (some T) (ys.length-B) (cap-B)∧∀j u,(us.drop (B*sz))[j]? =some u→w.cell? (T.add j)=some u:=by
    by_cases hcB:cap=B
    ·refine⟨⟨b,0,none⟩,by simp[IV,hcB],λj u hu=>?_⟩;have:(us.drop (B*sz)).length=0:=by rw[hnl,show ys.length-B=0 by omega];simp
     rw[List.length_eq_zero_iff.1 this] at hu;simp at hu
    ·refine⟨⟨b,B*sz,none⟩,by simp[IV,hcB,Iv],λj u hu=>?_⟩;rw[List.getElem?_drop] at hu;have:=hcell _ _ hu;rw[Iv] at this ⊢;simpa using this
   have e1:=run_append_room (P:=P) (w:=w) t ty e inf ht hinf b A cap cur hb T (ys.length-B) (cap-B) (us.drop (B*sz)) (by rw[hsize];exact hnl) hTc (λu hu=>hus1 u (List.mem_of_mem_drop hu)) (by omega) (by rw[hsize,hnl,hcs];omega);rw[hsize,hnl] at e1;have hcu:cur.toList.take (A*sz)=us.take (A*sz):=by rw[← htk,List.take_take,Nat.min_eq_left hAl]
   have hcd:(cur.toList.drop (A*sz+(ys.length-B)*sz)).take (ys.length*sz-(A*sz+(ys.length-B)*sz))=us.drop (A*sz+(ys.length-B)*sz):=by rw[← htk,List.drop_take]
   have hcl2:cur.toList.length=cap*sz:=by rw[Array.length_toList,hcs]
   have hl1:(us.take (A*sz)).length=A*sz:=by rw[Ag6,h1];exact Nat.min_eq_left hAl
   refine⟨.slice (some ⟨b,0,none⟩) (A+(ys.length-B)) cap,w.setRow b (cur.toList.take (A*sz)++us.drop (B*sz)++cur.toList.drop (A*sz+(ys.length-B)*sz)).toArray,_,_,Z,?_,Fz.le.refl _,rfl,?_,h⟩
   ·have ex:a.eval x = .slice (some ⟨b,0,none⟩) A cap:=by rw[ha.eval hx];rfl
    have ey:a.eval y = .slice (some T) (ys.length-B) (cap-B):=by rw[ha.eval hy,AfP];exact hT
    simp[execOp,resolve,invoke,builtin,ex,ey,e1]
   ·refine hw.set hi rfl rfl rfl (by simp[World.setRow]) (λk _ hk=>?_) ⟨?_,us.take (A*sz)++us.drop (B*sz)++us.drop (A*sz+(ys.length-B)*sz),⟨?_,.inr ⟨b,cap,_,?_,Agn _,setRow_heap w b cur _ e (0,0) hb,?_,hm,?_,?_⟩⟩,?_⟩ (by simp[Ent.foot,Value.ownBlock])
    ·simp only[Ent.foot,Value.ownBlock,Option.mem_toList,Option.mem_def,Option.some.injEq] at hk;simp only[World.setRow,Array.getElem?_modify];rw[Agt hk]
    ·intro cl hcl;obtain⟨z',_,rfl⟩:=List.mem_map.1 hcl;exact henc z'
    ·rw[AfK,AfK,hl1,hnl,Agy,h1,AfP,AfK,AfK,Ag6,Agy,Agy,Nat.min_eq_left (by omega),Nat.add_mul,Nat.add_mul,Nat.sub_mul ys.length (A+_),hN]
    ·congr 1
     simp;omega
    ·simp;omega
    ·rw[List.size_toArray,AfK,AfK,hcu,hl1,hnl,Agy,hcl2];omega
    ·rw[hcu];have e5:((ys.take A++ys.drop B++ys.drop (A+(ys.length-B))).map enc).length*sz=(us.take (A*sz)++us.drop (B*sz)).length+(ys.length*sz-(A*sz+(ys.length-B)*sz)):=by
      rw[AfK,hl1,hnl,AfP,AfK,AfK,Ag6,Agy,Agy,Nat.min_eq_left (by omega),Nat.add_mul,Nat.add_mul,Nat.sub_mul ys.length (A+_),hN]
     rw[e5,List.take_length_add_append,hcd]
    ·rw[Ag8,Ag8,List.flatten_append,List.flatten_append,List.map_take,List.map_drop,List.map_drop,QD _ _ h0,R3 _ _ h0,R3 _ _ h0,hN];exact((h3.take _).append (h3.drop _)).append (h3.drop _)) hn
theorem QI {α:Type}{ys:List α}{a0 b0:Int}(g1:Gs a0 b0=true)(g2:Gs b0 (ys.length:Int)=true):a0.toNat+(ys.length-b0.toNat)≤ys.length:=by
 have p1:=(BM g1).1;have p2:=(BM g1).2;have p3:=(BM g2).2;omega
theorem MX {α:Type}{ys:List α}{a0 b0:Int}(g1:Gs a0 b0=true)(g2:Gs b0 (ys.length:Int)=true):(ys.take a0.toNat++ys.drop b0.toNat++ys.drop (a0.toNat+(ys.length-b0.toNat))).length=ys.length:=by
 have h:=QI g1 g2;have p1:=(BM g1).1;have p2:=(BM g1).2;have p3:=(BM g2).2;rw[AfK,AfK,Ag6,Agy,Agy];omega
theorem Tk {α:Type}{ys:List α}{a0 b0:Int}(g1:Gs a0 b0=true)(g2:Gs b0 (ys.length:Int)=true):a0.toNat+(ys.length-b0.toNat)≤(ys.take a0.toNat++ys.drop b0.toNat++ys.drop (a0.toNat+(ys.length-b0.toNat))).length:=by
 rw[MX g1 g2];exact QI g1 g2
theorem AbF {α:Type}{ys:List α}{a0 b0:Int}(g1:Gs a0 b0=true)(g2:Gs b0 (ys.length:Int)=true):(ys.length:Int)=((ys.take a0.toNat++ys.drop b0.toNat++ys.drop (a0.toNat+(ys.length-b0.toNat))).length:Int):=by
 rw[MX g1 g2]
theorem AbG {α:Type}{ys:List α}{a0 b0 j:Int}(g1:Gs a0 b0=true)(g2:Gs b0 (ys.length:Int)=true)(g:Gs j (ys.length:Int)=true):Gs j ((ys.take a0.toNat++ys.drop b0.toNat++ys.drop (a0.toNat+(ys.length-b0.toNat))).length:Int)=true:=by
 rw[MX g1 g2];exact g
theorem AdQ {α:Type}{E:List α}{k m:Nat}{z:α}(h:k≤E.length):k≤(E.take m++List.replicate (E.length-m) z).length:=by
 rw[AfK,Ag6,List.length_replicate];omega
end
theorem Pc {P:Program}(w:World)(ty:TypeId)(it:Nat)(h:w.heap[it]? =some (.mapIter none 0 #[] 0)):(Instr.next (.pointer (some ⟨it,0,none⟩)) false ty).run P w = .ok (.tuple #[.bool false]) w:=by
 simp only[Instr.next,getObj,Sem.run_bind,Sem.run,h,Result.andThen];rfl
section
variable {P : Program} {n : Nat} {c : Cx} {ops : Array Oper} {Q : Exit → Act → World → Prop} {rest : List Oper} {l : Fr} {H : List Ent} {d : Nat} {ty t kt et rty : TypeId} {pos : String} {af : Array Edge} {x y u : Operand} {K : Act → World → Prop} {cx : Code}
variable {T : Type} {enc : T → Rp} {xs ys : List (Ai × T)} {i b it : Nat} {m lf : List (List UInt8 × Rp)} {cur : Option (List UInt8 × Rp)} {k : Ai} {r : Rp}
theorem ON (ht:P.underlying t=some (.map kt et))(hx:ev l x=some (NJ m))(hn:Nat.blt d n=true)(h:∀it,WL P n c ops Q rest ((d,rv (.pointer (some ⟨it,0,none⟩)))::l) (.itz it m m none::H)) :
  WL P n c ops Q ({ dst:=some d,op:=.range t x,type:=ty,pos:=pos,after:=af,guard:=none }::rest) l H:=
 Ke (λa w Z ha hw=>by
  rcases ha.ev hx with⟨e1,e2⟩ | ⟨b,es,ck,e1,e2,h2⟩
  ·refine⟨.pointer (some ⟨w.heap.size,0,none⟩),w.alloc (.mapIter none 0 #[] 0),_,_,Z,?_,Fz.le.refl _,rfl,hw.alloc _ (e:=.itz w.heap.size m m none) (.inl ⟨by simpa using heap_alloc_new w _,e2,e2,rfl⟩) (by simp[Ent.foot]),h w.heap.size⟩;simp[execOp,e1,run_range_nilMap w t kt et ht]
  ·have h1:w.heap[b]? =some (.map es ck):=hw.frz b _ e2;have hb:b<w.heap.size:=(Array.getElem?_eq_some_iff.1 h1).1;have hf:es.toList.filter (λe=>!(#[]:Array Nat).contains e.born)=es.toList:=List.filter_eq_self.2 λ_ _=>by simp
   obtain⟨f,h4,h5⟩:=h2.2.2.2;refine⟨.pointer (some ⟨w.heap.size,0,none⟩),w.alloc (.mapIter (some b) ck #[] ck),_,_,Z,?_,Fz.le.refl _,rfl,hw.alloc _ (e:=.itz w.heap.size m m none) (.inr ⟨b,es,ck,#[],ck,ck,e2,by simpa using heap_alloc_new w _,h2,h2.2.2.1,AfZ _,AfZ _,⟨f,h4,by rw[hf];exact h5⟩,trivial⟩) (by simp[Ent.foot]),h w.heap.size⟩;simp[execOp,e1,run_range_map w t kt et b es ck ht h1]) hn
theorem RJ (hx:ev l x=some (rv (.pointer (some ⟨it,0,none⟩))))(hi:H[i]? =some (.itz it m (AL enc ys) cur))(hn:Nat.blt d n=true)
  (h0:ys=[]→WL P n c ops Q rest ((d,CZ [rB false])::l) H)
  (h1:∀p ys',ys.Perm (p::ys')→WL P n c ops Q rest ((d,CZ [rB true,rS p.1,enc p.2])::l) (H.set i (.itz it m (AL enc ys') (some (p.1,enc p.2))))) :
  WL P n c ops Q ({ dst:=some d,op:=.next x false,type:=ty,pos:=pos,after:=af,guard:=none }::rest) l H:=
 Ke (λa w Z ha hw=>by
  rcases hw.ent hi with⟨q2,_,q8,_⟩ | ⟨b,es,ck,seen,since,c0,qz,q2,q3,q4,q5,q6,⟨f,q8,q9⟩,_⟩
  ·have hy:ys=[]:=by
    have:=congrArg List.length q8;rw[Hg] at this;exact Agf this
   exact⟨.tuple #[.bool false],w,CZ [rB false],H,Z,by simp[execOp,ha.eval hx,Pc w ty it q2],Fz.le.refl _,⟨[.bool false],rfl,rfl,trivial⟩,hw,h0 hy⟩
  have q1:w.heap[b]? =some (.map es ck):=hw.frz b _ qz;have q7:b≠it:=λe=>by subst e;rw[q1] at q2;cases q2
  have hlf:(leftOf es seen).toList=es.toList.filter λe=>!seen.contains e.born:=by simp[leftOf]
  rcases run_next_at (P:=P) w ty it b since c0 seen es ck q2 q1 q4 q5 with⟨r1,r2⟩ | ⟨e,r1,w1,r2,r3⟩
  ·have he:es.toList.filter (λe=>!seen.contains e.born)=[]:=by rw[← hlf];exact Agf (by simpa using r1)
   rw[he] at q9;have hf:f=[]:=by cases f with
    | nil=>rfl
    | cons _ _=>exact absurd q9 id
   subst hf;have hy:ys=[]:=by
    have:=q8.length_eq;rw[Hg] at this;exact Agf this.symm
   exact⟨.tuple #[.bool false],w,CZ [rB false],H,Z,by simp[execOp,ha.eval hx,r2],Fz.le.refl _,⟨[.bool false],rfl,rfl,trivial⟩,hw,h0 hy⟩
  ·rw[hlf] at r1;obtain⟨j,hj⟩:=List.mem_iff_getElem?.1 r1;obtain⟨k,r,e1,e2,e3⟩:=q9.at.2 j e hj;obtain⟨p,ys',s1,s2,s3,s4⟩:=Z2 q8 e1;have hnl:((es.toList.filter λe=>!seen.contains e.born).map (·.born)).Nodup:=q3.2.1.sublist ((List.filter_sublist ..).map _);have hleft:es.toList.filter (λx=>!(seen.push e.born).contains x.born)=(es.toList.filter λe=>!seen.contains e.born).eraseIdx j:=by
    rw[← MD (q:=λ_=>true) hnl hj,List.filter_filter];refine List.filter_congr λx _=>?_;simp only[Array.contains_push,Bool.not_or];rw[Bool.and_comm]
   have hd:St c H Z w1:=by
    rcases r2 with rfl | rfl
    ·exact hw
    ·exact hw.drawn _
   have q2':w1.heap[it]? =some (.mapIter (some b) since seen c0):=by rcases r2 with rfl | rfl<;>exact q2
   have q1':w1.heap[b]? =some (.map es ck):=by rcases r2 with rfl | rfl<;>exact q1
   obtain⟨t1,t2⟩:=MapKept.heap_set (o':=.mapIter (some b) since (seen.push e.born) ck) q2';refine⟨.tuple #[.bool true,e.key,e.val],ChangeMaps.setBlock w1 it (.mapIter (some b) since (seen.push e.born) ck),CZ [rB true,rS p.1,enc p.2],H.set i (.itz it m (AL enc ys') (some (p.1,enc p.2))),Z,by simp[execOp,ha.eval hx,r3],Fz.le.refl _,⟨[.bool true,e.key,e.val],rfl,rfl,?_,?_,trivial⟩,hd.set hi rfl rfl rfl (by simp[ChangeMaps.setBlock]) (λk' _ hk'=>t2 k' (λe'=>hk' (by simp[Ent.foot,e']))) ?_ (λk' hk'=>.inl (by simpa[Ent.foot] using hk')),h1 p ys' s1⟩
   ·show e.key = .string (B p.1);rw[s2];exact e2
   ·rw[s3];exact e3
   ·exact .inr ⟨b,es,ck,seen.push e.born,since,ck,qz,t1,q3,q4,Nat.le_trans q5 q6,AfZ _,⟨f.eraseIdx j,s4,by rw[hleft];exact q9.erase j⟩,rfl,seen,e,rfl,(List.mem_filter.1 r1).1,by rw[s2];exact e2,by rw[s3];exact e3⟩) hn
theorem St.uncurz {Z:Fz}{w:World}(h:St c H Z w)(hi:H[i]? =some (.itz it m lf cur)):St c (H.set i (.itz it m lf none)) Z w:=by
 refine h.set hi rfl rfl rfl (AfZ _) (λ_ _ _=>rfl) ?_ (λk hk=>.inl (by simpa[Ent.foot] using hk));rcases h.ent hi with⟨q1,q2,q3,_⟩ | ⟨b,es,ck,seen,since,c0,q1,q2,q3,q4,q5,q6,q8,_⟩
 ·exact .inl ⟨q1,q2,q3,rfl⟩
 ·exact .inr ⟨b,es,ck,seen,since,c0,q1,q2,q3,q4,q5,q6,q8,trivial⟩
theorem WK.uncurz (hi:H[i]? =some (.itz it m lf cur))(h:WK n c K l (H.set i (.itz it m lf none))):WK n c K l H:=λa w Z ha hw=>h a w Z ha (hw.uncurz hi)
theorem Pq {dd:Option Nat}{g:Option (Nat×Bool)}(hx:ev l x=some (rv (.pointer (some ⟨it,0,none⟩))))(hi:H[i]? =some (.itz it m lf (some (k,r)))) :
  Bv P n c l H { dst:=dd,op:=.entry x,type:=ty,pos:=pos,after:=af,guard:=g } (CZ [rS k,r]):=λa w Z ha hw=>by
 rcases hw.ent hi with⟨_,_,_,q⟩ | ⟨b,es,ck,seen,since,c0,qz,q2,q3,q4,q5,q6,q8,rfl,s0,e,rfl,h1,h2,h3⟩
 ·cases q
 have q1:w.heap[b]? =some (.map es _):=hw.frz b _ qz;exact⟨.tuple #[e.key,e.val],⟨[e.key,e.val],rfl,h2,h3,trivial⟩,by simp[execOp,ha.eval hx,run_entry_at w it b since s0 es c0 e q2 q1 h1 q3.2.1]⟩
end
end Go.Proofs.YtfobhhegpkinaaaGreatDoor.Q
namespace Go.Proofs.YtfobhhegpkinaaaGreatDoor
open Go Go.RowKit
set_option linter.unusedVariables false
set_option linter.unusedSimpArgs false
set_option maxRecDepth 100000
theorem Zg (v:Value)(ss:List (List UInt8))(hl:ss.length≤8796093022208)(w:World)(hv:Qa w v ss):Calls Tryz.prog 45 [v].toArray w (Y7 w [] (λu H=>H=[.row u 9 1 (BJ ss).length ((BJ ss).map encStr)])):=by
 refine Ig (n:=10) Tryz.func45 rfl Tryz.ntmps45 rfl (Ao (An (AF (AA rfl) rfl (As (Ay (Bb ?_))))));refine Ao (An (AF (Aj rfl) rfl (VA Tryz.call43 rfl (λw hw=>AcA v ss (by first | assumption | (simp;assumption)) w (hv.st0 hw)) rfl ?_)));rintro ha _ rfl;refine AF (AA rfl) rfl (As (Ay (Bb ?_)));refine Ao (An (AF (Aj rfl) rfl (VB (i:=0) Tryz.call77 rfl rfl (λw hw he=>Adm ha ss (by first | assumption | (simp;assumption)) w he) rfl ?_)));rintro _ _ ⟨rfl,rfl⟩;refine As (Ay (Bb ?_));refine Ao (An (AF (Aj rfl) rfl (VB (i:=0) Tryz.call78 rfl rfl (λw hw he=>Yh ha (ss.mergeSort λx y=>decide (x≤y)) (by first | assumption | (simp;assumption)) w he) rfl ?_)));rintro hb _ rfl;refine AF (AA rfl) rfl (As (Ay (Bb ?_)));exact A4 (A3 (Ch rfl rfl) (λw hw=>⟨_,_,rfl,hw,rfl⟩))
end Go.Proofs.YtfobhhegpkinaaaGreatDoor
namespace Go.Proofs.YtfobhhegpkinaaaGreatDoor.Q
open Go Go.RowKit Go.Proofs
set_option linter.unusedVariables false
theorem AbI {Z:Fz}{v:Value}{vs:List Value}(h:Bj Z [rv v] vs):vs=[v]:=Bj.eq_rv (us:=[v]) h
theorem VF {Z:Fz}:∀{ss:List Ai} {us:List Value},Bj Z (ss.map eS).flatten us→us=ss.map encStr
 | [],[],_=>rfl
 | s::r,u::us,⟨h1,h2⟩=>by
  rw[show u=Value.string (B s) from h1,VF (ss:=r) (us:=us) h2];rfl
theorem VN {Z:Fz}:∀ss:List Ai,Bj Z (ss.map eS).flatten (ss.map encStr)
 | []=>trivial
 | s::r=>⟨rfl,VN r⟩
theorem AbK {Z:Fz}{w:World}{v:Value}{e:TypeId}{ss:List Ai}(h:(Ent.row v e 1 (ss.map eS)).holds Z w):(Proofs.YtfobhhegpkinaaaGreatDoor.Ent.row v e 1 ss.length (ss.map encStr)).holds w:=by
 obtain⟨_,us,h1,h2⟩:=h;rw[VF h2,AfP] at h1;exact h1
theorem AbL {Z:Fz}{w:World}{v:Value}{e:TypeId}{ss:List Ai}(h:(Proofs.YtfobhhegpkinaaaGreatDoor.Ent.row v e 1 ss.length (ss.map encStr)).holds w):(Ent.row v e 1 (ss.map eS)).holds Z w:=
 ⟨λc hc=>by obtain⟨y,_,rfl⟩:=List.mem_map.1 hc;rfl,ss.map encStr,by rw[AfP];exact h,VN ss⟩
theorem XM (v:Value)(ss:List Ai)(g:Dz 16 ss.length=true):Fn Tryz.prog GE 45 [rv v] [.row v 9 1 (ss.map eS)] (λR H=>∃u:Value,R=rv u∧H=[.row u 9 1 ((BJ ss).map eS),.row v 9 1 (ss.map eS)]):=λw Z vs hv hs=>by
 have e:=AbI hv;subst e;have hl:ss.length≤8796093022208:=by have:=AfS g;omega
 have hc:=Zg v ss hl w (Qa.of_row (AbK (hs.ent (i:=0) rfl)));refine hc.mono ?_;rintro e w' ⟨u,H,rfl,ht,rfl⟩;refine⟨_,u,_,Z,rfl,⟨u,rfl,rfl⟩,rfl,hs.add ht.os ht.tape ht.output ht.size (λk hk=>ht.old k hk (by simp)) (AbL (ht.has _ (List.mem_cons_self ..))) (λk hk=>?_)⟩;rcases ht.own _ (List.mem_cons_self ..) k hk with h | h
 ·exact h
 ·cases h
open Go Go.RowKit
set_option linter.unusedSimpArgs false
set_option maxRecDepth 100000
set_option maxHeartbeats 4000000
@[reducible] def Ar (x:(List Ab)):Rp:=Br 4 (AH Ah x)
theorem GQ (Z:Fz):(Ar ([]:(List Ab))).p Z (.slice none 0 0):=SH.nil _ _
@[reducible] def C5 (x:Ac):List Rp:=[Br 4 (AH Ah x.fValue),AD x.fVersion]
@[reducible] def Ax (x:Ac):Rp:=BL (C5 x)
theorem G3 (Z:Fz):(Ax (Ac.mk ([]:(List Ab)) 0)).p Z (.agg #[(.slice none 0 0),(.int .i64 0)]):=⟨[.slice none 0 0,.int .i64 0],rfl,SH.nil _ _,rfl,trivial⟩
@[reducible] def Af (x:(List (Ai×Ac))):Rp:=NJ (AL Ax x)
theorem Dc (Z:Fz):(Af ([]:(List (Ai×Ac)))).p Z (.map none):=AbM _
@[reducible] def Bc (x:Bl):List Rp:=[AD x.fKind,rS x.fC.fEvent,rS x.fC.fTenant,AD x.fC.fAttempt,Br 4 (AH Ah x.fC.fResult),Br 4 (AH Av x.fC.fEffects),AD x.fC.fAt,rS x.fS,AD x.fN]
theorem MJ (x:Bl):(Bc x).length=9:=rfl
theorem AcF (parts:List (Nat×Value)):Tryz.prog.built 59 parts=Instr.fill (λi=>(#[(0,1),(1,1),(2,1),(3,1),(4,1)]:Array (Nat×Nat))[i]?) #[(.bool false),((.slice none 0 0)),((.map none)),((.map none)),((.slice none 0 0))] parts:=by kernel_rfl
theorem Oj {n:Nat}{c:Cx}{l:Fr}{H:List Ent}{d:Option Nat}{ty:TypeId}{pos:String}{af:Array Edge}{g:Option (Nat×Bool)}{x0:Operand}{r0:Rp}(h0:ev l x0=some r0)(u0:r0.one=true){x2:Operand}{r2:Rp}(h2:ev l x2=some r2)(u2:r2.one=true){x3:Operand}{r3:Rp}(h3:ev l x3=some r3)(u3:r3.one=true):Bv Tryz.prog n c l H { dst:=d,op:=.build 59 #[(0,x0),(2,x2),(3,x3)],type:=ty,pos:=pos,after:=af,guard:=g } (BL [r0,rv (.slice none 0 0),r2,r3,rv (.slice none 0 0)]):=λa w Z ha _=>by
  have p0:=ha.ev h0;have c0:=Bz (r0.hone u0 Z _ p0);have p2:=ha.ev h2;have c2:=Bz (r2.hone u2 Z _ p2);have p3:=ha.ev h3;have c3:=Bz (r3.hone u3 Z _ p3);have hb:Tryz.prog.built 59 [(0,a.eval x0),(2,a.eval x2),(3,a.eval x3)]=some #[a.eval x0,((.slice none 0 0)),a.eval x2,a.eval x3,((.slice none 0 0))]:=by
    rw[AcF];generalize a.eval x0=v0 at *;generalize a.eval x2=v2 at *;generalize a.eval x3=v3 at *;simp[Instr.fill,c0,c2,c3]
  refine⟨.agg #[a.eval x0,((.slice none 0 0)),a.eval x2,a.eval x3,((.slice none 0 0))],⟨[a.eval x0,((.slice none 0 0)),a.eval x2,a.eval x3,((.slice none 0 0))],rfl,p0,rfl,p2,p3,rfl,trivial⟩,?_⟩;have:=run_build w 59 #[(0,a.eval x0),(2,a.eval x2),(3,a.eval x3)] _ (by simpa using hb);simp[execOp,this]
theorem AcC (parts:List (Nat×Value)):Tryz.prog.built 90 parts=Instr.fill (λi=>(#[(0,1),(1,1)]:Array (Nat×Nat))[i]?) #[((.slice none 0 0)),(.int .i64 0)] parts:=by kernel_rfl
theorem Lw {n:Nat}{c:Cx}{l:Fr}{H:List Ent}{d:Option Nat}{ty:TypeId}{pos:String}{af:Array Edge}{g:Option (Nat×Bool)}{x0:Operand}{r0:Rp}(h0:ev l x0=some r0)(u0:r0.one=true){x1:Operand}{r1:Rp}(h1:ev l x1=some r1)(u1:r1.one=true):Bv Tryz.prog n c l H { dst:=d,op:=.build 90 #[(0,x0),(1,x1)],type:=ty,pos:=pos,after:=af,guard:=g } (BL [r0,r1]):=λa w Z ha _=>by
  have p0:=ha.ev h0;have c0:=Bz (r0.hone u0 Z _ p0);have p1:=ha.ev h1;have c1:=Bz (r1.hone u1 Z _ p1);have hb:Tryz.prog.built 90 [(0,a.eval x0),(1,a.eval x1)]=some #[a.eval x0,a.eval x1]:=by
    rw[AcC];generalize a.eval x0=v0 at *;generalize a.eval x1=v1 at *;simp[Instr.fill,c0,c1]
  refine⟨.agg #[a.eval x0,a.eval x1],⟨[a.eval x0,a.eval x1],rfl,p0,p1,trivial⟩,?_⟩;have:=run_build w 90 #[(0,a.eval x0),(1,a.eval x1)] _ (by simpa using hb);simp[execOp,this]
theorem Yj (ha:Value)(ys:(List Ai))(r:(List Ai))(h:MM ys=some r):Fn Tryz.prog GE 43 [rv ha] [.row ha 9 1 (AH eS ys)] (λR H=>∃u0:Value,R=rv u0∧H=[.row u0 9 1 (AH eS r),.row ha 9 1 (AH eS ys)]):=by
 refine enter (n:=8) Tryz.func43 Aa Tryz.ntmps43 Aa (λw Z=>?_);unfold MM at h;refine Am (wa Aa (Aw (Ao (Am (wm Aa (wv (r:=rBx (λb=>b=true→AH eS ys=[])) (QT 0 CD Aa Aa) (Aw (OM Aa (λc1=>?_) (λc1=>?_)))))))))
 ·have e2:ys=[]:=List.map_eq_nil_iff.1 (c1 rfl);have h3:some ([]:List Ai)=some r:=by rw[e2] at h;exact(Uk h).2
  refine Am (wa Aa (Aw (A4 (Ae (WK.nilrow (e:=9) (sz:=1) ?_)))));obtain rfl:=A7 h3;exact A3 (Ch Tryz.results43 (AR Aa)) (sC (sC sN)) ⟨(.slice none 0 0         ),Aa,Aa⟩
 refine A0 (AX (Am (Bf (ys:=([]:List Ai)) (enc:=eS) (css:=[]) (xs:=[]) CD BX V4 Aa Aa Aa trivial Aa DC Aa Aa Aa (λb4=>?_))));refine wm Aa (ck h λg6 h7=>Exists.elim P9 λinf hinf=>Cc (xs:=([]:List Ai)) (ys:=ys) (enc:=eS) (i:=0) CD hinf.1 hinf.2.1 hinf.2.2.1 hinf.2.2.2 Aa Aa Aa Aa Aa (JG.w (i:=1) Aa Aa) DC LR g6 Aa (λv5=>?_));refine wa Aa (Aw (A4 ?_));obtain rfl:=A7 h7;exact A3 (Ch Tryz.results43 (AR Aa)) (sC (sC sN)) ⟨v5,Aa,Aa⟩
theorem Yk (ha:Value)(ys:(List Ak))(r:(List Ak))(h:MN ys=some r):Fn Tryz.prog GE 71 [rv ha] [.row ha 67 8 (AH Ad ys)] (λR H=>∃u0:Value,R=rv u0∧H=[.row u0 67 8 (AH Ad r),.row ha 67 8 (AH Ad ys)]):=by
 refine enter (n:=8) Tryz.func71 Aa Tryz.ntmps71 Aa (λw Z=>?_);unfold MN at h;refine Am (wa Aa (Aw (Ao (Am (wm Aa (wv (r:=rBx (λb=>b=true→AH Ad ys=[])) (QT 0 BY Aa Aa) (Aw (OM Aa (λc1=>?_) (λc1=>?_)))))))))
 ·have e2:ys=[]:=List.map_eq_nil_iff.1 (c1 rfl);have h3:some ([]:List Ak)=some r:=by rw[e2] at h;exact(Uk h).2
  refine Am (wa Aa (Aw (A4 (Ae (WK.nilrow (e:=67) (sz:=8) ?_)))));obtain rfl:=A7 h3;exact A3 (Ch Tryz.results71 (AR Aa)) (sC (sC sN)) ⟨(.slice none 0 0                                                                   ),Aa,Aa⟩
 refine A0 (AX (Am (Bf (ys:=([]:List Ak)) (enc:=Ad) (css:=[]) (xs:=[]) BY Cr WE Aa Aa Aa trivial Aa Cp Aa Aa Aa (λb4=>?_))));refine wm Aa (ck h λg6 h7=>Exists.elim PA λinf hinf=>Cc (xs:=([]:List Ak)) (ys:=ys) (enc:=Ad) (i:=0) BY hinf.1 hinf.2.1 hinf.2.2.1 hinf.2.2.2 Aa Aa Aa Aa Aa (JG.w (i:=1) Aa Aa) Cp DB g6 Aa (λv5=>?_));refine wa Aa (Aw (A4 ?_));obtain rfl:=A7 h7;exact A3 (Ch Tryz.results71 (AR Aa)) (sC (sC sN)) ⟨v5,Aa,Aa⟩
theorem Sl  (r:Al)(h:UU=some r):Fn Tryz.prog GE 9 [] [] (λR H=>∃u0:Nat,∃u0_1:Value,∃u0_2:Nat,∃u0_3:Nat,∃u0_4:Value,R=rP u0 0∧H=[.blk u0 [rB r.fMade,rv u0_1,rv (.map (some u0_2)),rv (.map (some u0_3)),rv u0_4] 59,.row u0_1 9 1 (AH eS r.fEvents),.map u0_2 (AL Ar r.fResults),.map u0_3 (AL Af r.fKeys),.row u0_4 67 8 (AH Ad r.fPending)]):=by
 refine enter (n:=5) Tryz.func9 Aa Tryz.ntmps9 Aa (λw Z=>?_);unfold UU at h;refine Am (wa Aa (B0 (KM Aa (λb1=>?_))));refine KM Aa (λb2=>?_);refine wv (r:=BL [rB true,rv (.slice none 0 0),rv (.map (some b1)),rv (.map (some b2)),rv (.slice none 0 0)]) (Oj Aa Aa Aa Aa Aa Aa) (CN Aa Aa (λb3=>?_));refine wa Aa (Aw (A4 (WK.nilrow (e:=9) (sz:=1) (WK.nilrow (e:=67) (sz:=8) (Gx [2,1,2,1] ?_)))));obtain rfl:=A7 h;exact A3 (Ch Tryz.results9 (AR Aa)) (sC (sC (sC (sC (sC sN))))) ⟨b3,(.slice none 0 0         ),b1,b2,(.slice none 0 0                                                                   ),Aa,Aa⟩
theorem T4  (r:Bool)(h:QV=some r):Fn Tryz.prog GE 40 [rv (.pointer none)] [] (λR H=>R=rB r∧H=[]):=by
 refine enter (n:=11) Tryz.func40 Aa Tryz.ntmps40 Aa (λw Z=>?_);unfold QV at h;refine Am (wa Aa (Aw (AV [(2,rB false)] [] ?_ ?_)))
 ·refine An (wm Aa (wv (r:=rB false) (Tz ⟨_,Tryz.underlying24⟩ Aa) (wm Aa (wz Aa Aa (wz Aa Aa (wz Aa Aa (wz Aa Aa (wv (r:=rB false) (A2 (b:=false) Aa Aa Aa) (wa Aa (As ?_))))))))));exact wt
 refine A4 ?_;obtain rfl:=A7 h;exact A3 (Ch Tryz.results40 (AR Aa)) sN ⟨Aa,Aa⟩
theorem Hb (ha:Nat)(hb:Value)(hd:Nat)(he:Nat)(hf:Value)(o:Al)(r:Bool)(h:Ev o=some r):Fn Tryz.prog GE 40 [rP ha 0] [.blk ha [rB o.fMade,rv hb,rv (.map (some hd)),rv (.map (some he)),rv hf] 59] (λR H=>R=rB r∧H=[.blk ha [rB o.fMade,rv hb,rv (.map (some hd)),rv (.map (some he)),rv hf] 59]):=by
 refine enter (n:=11) Tryz.func40 Aa Tryz.ntmps40 Aa (λw Z=>?_);unfold Ev at h;refine Am (wa Aa (Aw (AV [(2,rB o.fMade)] [.blk ha [rB o.fMade,rv hb,rv (.map (some hd)),rv (.map (some he)),rv hf] 59] ?_ ?_)))
 ·refine An (wm Aa (wv (r:=rB true) (Xv ⟨_,Tryz.underlying24⟩ Aa) (wm Aa (AQ (b:=true) Aa Aa Aa (wm Aa (AQ (b:=true) Aa Aa Aa (wv (A6 Aa) (AQ (b:=true) Aa Aa Aa (vF GF Aa Iy (AQ (b:=true) Aa Aa Aa (vL 0 SS Aa (wv (r:=rB o.fMade) (A5 (b:=true) Aa Aa Aa) (wa Aa (As ?_))))))))))))));exact wt
 refine A4 ?_;obtain rfl:=A7 h;exact A3 (Ch Tryz.results40 (AR Aa)) (sC sN) ⟨Aa,Aa⟩
theorem ZU (F:Nat)(hd:Nat)(keys:(List (Ai×Ac)))(l:(List Ap))(r:Int×(List (Ai×Ac)))(h:Pw F keys l=some r):Fn Tryz.prog GE 65 [rv (.map (some hd)),Br 4 (AH Av l)] [.map hd (AL Ax keys)] (λR H=>R=AD r.1∧H=[.map hd (AL Ax r.2)]):=by
 refine enter (n:=39) Tryz.func65 Aa Tryz.ntmps65 Aa (λw Z=>?_);unfold Pw at h;refine Am (wa Aa (Aw (Ao (Am (wm Aa (wv (Bx (ys:=l) (enc:=Av) Hy Aa) (wv (r:=AD 0) (Aj Aa) (Aw (AS (ob h λhn ho hl=>B4 (S:=Nat×(Int×(List (Ai×Ac)))×(Unit)) (V:=((List (Ai×Ac)))×(Unit)) 0 (λσ=>Ci (λσ=>Gp l σ.1 σ.2) σ.1 σ.2.1=some hn) (λσ=>[(0,rv (.map (some hd))),(7,Br 4 (AH Av l)),(8,AD (l.length:Int)),(9,AD σ.2.1.1)]) (λσ=>[.map hd (AL Ax σ.2.1.2)]) (λσ=>σ.1) (F,(0,keys),()) ho (AG.c Aa (AG.c Aa (AG.c Aa (AG.c Aa AG.nil)))) (sC sN) (λσ=>Je σ.1=some r) (λσ=>[]) (λσ=>[.map hd (AL Ax σ.1)]) ?_ ?_))))))))))
 ·rintro⟨hG,⟨ha,hb⟩,⟨⟩⟩ hp;refine GC ?_;obtain⟨hq,rfl,hj,hg,hk⟩:=Di hp;replace hg:Gp l ha hb=some hj:=hg;unfold Gp at hg;refine Am (wv (Dh Aa Aa) (Aw (Ao (cz hg Aa (λhr hs=>?_) (λhr ht=>?_)))))
  ·refine A0 (AX (Cn (S:=((List (Ai×Ac)))×(Unit)) (λσ=>GO ha σ.1=some hj) (λσ=>[(0,rv (.map (some hd))),(7,Br 4 (AH Av l)),(8,AD (l.length:Int)),(9,AD ha)]) (λσ=>[.map hd (AL Ax σ.1)]) ?_ ?_))
   ·refine AS (Am (ck hs λhu hw=>wv (AW (enc:=Av) (ys:=l) Hy Dj Aa Aa hu) (wv (Dm Is Dj Aa Aa Aa) (BZ (cs:=[AD 0,rS ([]:Ai),rv (.slice none 0 0),AD 0]) L7 Aa Aa (λhf=>?_)))));refine LZ (i:=0) Dj Aa Aa Aa (Cm.c Aa) Aa Aa ?_;refine B0 (vF Cv Aa Hk (vL 0 Hl Aa (Aw (AS (Am (wv (BR Aa Aa) (wa Aa (Aw (cz hw Aa (λhx hy=>?_) (λhx hz=>?_))))))))))
    ·refine Ao (ob hy λhe h0 h1=>ck h1 λh2 h3=>Dr 13 [0,6,7,8,9] [⟨[],rv (.map (some hd)),none,none,none⟩,⟨[],rP hf 1,none,none,none⟩,⟨[1],rS ((Aq l ha).fKey),none,none,none⟩,⟨[],rP hf 2,none,none,none⟩,⟨[3],Br 4 (AH Ah ((Aq l ha).fValue)),none,none,none⟩,⟨[4],Br 4 (AH Ah he),none,none,none⟩,⟨[],rv (.map (some hd)),none,none,none⟩,⟨[],rP hf 1,none,none,none⟩,⟨[7],rS ((Aq l ha).fKey),none,none,none⟩,⟨[6,8],BL (C5 (B2 hb ((Aq l ha).fKey) (Ac.mk ([]:(List Ab)) 0))),none,none,none⟩,⟨[9],AD ((B2 hb ((Aq l ha).fKey) (Ac.mk ([]:(List Ab)) 0)).fVersion),none,none,none⟩,⟨[10],AD (((B2 hb ((Aq l ha).fKey) (Ac.mk ([]:(List Ab)) 0)).fVersion)+1),none,none,none⟩,⟨[5,11],BL [Br 4 (AH Ah he),AD (((B2 hb ((Aq l ha).fKey) (Ac.mk ([]:(List Ab)) 0)).fVersion)+1)],none,none,none⟩] ?_ (λβ=>?_))
     ·refine Do (Aj Aa) (Do (Au Cv Aa BX Aa Aa) (HW (AM (i:=0) Cf Aa Aa Aa) (Do (Au Cv Aa CR Aa Aa) (HW (AM (i:=0) EC Aa Aa Aa) (NL (G0 U1 (Ij ((Aq l ha).fValue) he h0) Aa) (Do (Aj Aa) (Do (Au Cv Aa BX Aa Aa) (HW (AM (i:=0) Cf Aa Aa Aa) (HW (Nf (enc:=Ax) (xs:=hb) (z:=Ac.mk ([]:(List Ab)) 0) (i:=1) Mb CT WD G3 Aa Aa Aa) (Do (Wa Ab0 Aa CO Aa Aa) (Do (BW Aa Aa h2) (Do (Lw Aa Aa Aa Aa) ?_))))))))))));exact Sh
     refine Dq (H1:=[.blk hf (Av (Aq l ha)) 65,.map hd (AL Ax hb)]) [17,18,19,20,21,22,23,24,25,26,27,28,29,0,6,7,8,9] ?_;refine Iz (enc:=Ax) (xs:=hb) (v:=(Ac.mk he (((B2 hb ((Aq l ha).fKey) (Ac.mk ([]:(List Ab)) 0)).fVersion)+1))) (i:=1) Mb CT Aa Aa Aa Aa (H':=[.blk hf (Av (Aq l ha)) 65,.map hd (AL Ax (mset hb ((Aq l ha).fKey) (Ac.mk he (((B2 hb ((Aq l ha).fKey) (Ac.mk ([]:(List Ab)) 0)).fVersion)+1))))]) Aa (B0 (wm Aa (wv (r:=AD ((mset hb ((Aq l ha).fKey) (Ac.mk he (((B2 hb ((Aq l ha).fKey) (Ac.mk ([]:(List Ab)) 0)).fVersion)+1))).length:Int)) (ZM (N:=(mset hb ((Aq l ha).fKey) (Ac.mk he (((B2 hb ((Aq l ha).fKey) (Ac.mk ([]:(List Ab)) 0)).fVersion)+1))).length) (i:=1) Mb Aa Aa (Hg _ _)) (wv (DT Aa Aa) (Aw (cz h3 Aa (λh4 h5=>?_) (λh4 h6=>?_)))))))
     ·refine Am (wa Aa (Aw (A4 (AB (AB (Ae (Ae (Be ?_))))))));have h7:=B1 h5 hk hl;refine AB (Ae ?_);obtain rfl:=A7 h7;exact A3 (Ch Ab1 (AR Aa)) (sS (sC sN)) ⟨Aa,Aa⟩
     exact A0 (AK (AK (Ay (AE (mset hb ((Aq l ha).fKey) (Ac.mk he (((B2 hb ((Aq l ha).fKey) (Ac.mk ([]:(List Ab)) 0)).fVersion)+1)),()) h6 (AG.c Aa (AG.c Aa (AG.c Aa (AG.c Aa AG.nil)))) (sS (sC sN))))))
    refine Am (wv (BR Aa Aa) (wa Aa (Aw (cz hz Aa (λc171 h8=>?_) (λc171 h9=>?_)))))
    ·exact An (wm Aa (vF Cv Aa BX (vL 0 Cf Aa (VD (enc:=Ax) (xs:=hb) (i:=1) Mb CT Aa Aa Aa (H':=[.blk hf (Av (Aq l ha)) 65,.map hd (AL Ax (mdel hb ((Aq l ha).fKey)))]) Aa (As (AK (AK (Ay (AE (mdel hb ((Aq l ha).fKey),()) h8 (AG.c Aa (AG.c Aa (AG.c Aa (AG.c Aa AG.nil)))) (sS (sC sN)))))))))))
    exact A0 (AK (AK (Ay (AE (hb,()) h9 (AG.c Aa (AG.c Aa (AG.c Aa (AG.c Aa AG.nil)))) (sS (sC sN))))))
   rintro⟨hm,⟨⟩⟩ hh;refine GC ?_;replace hh:GO ha hm=some hj:=hh;unfold GO at hh;refine An (ck hh λhA hB=>wv (BW Aa Aa hA) (wm Aa (As ?_)));have hC:=B9 hB hk;exact Ay (AE (hq,(ha+1,hm),()) ⟨hC,AfV _⟩ (AG.c Aa (AG.c Aa (AG.c Aa (AG.c Aa AG.nil)))) (sC sN))
  refine B3 (A9 ?_);have hD:=Cw ht hk hl;exact A9 (Bo (AE (hb,()) hD AG.nil (sC sN)))
 rintro⟨hE,⟨⟩⟩ hi;refine JZ ?_;replace hi:Je hE=some r:=hi;unfold Je at hi;refine Bn (AX (Am (wa Aa (Aw (A4 ?_)))));obtain rfl:=A7 hi;exact A3 (Ch Ab1 (AR Aa)) (sC sN) ⟨Aa,Aa⟩
theorem Acb (ha:Nat)(x:Ak)(id:Ai)(r:Bool)(h:Wd x id=some r):Fn Tryz.prog GE 69 [BL (Ad x),rP ha 0] [.blk ha [rS id] 9] (λR H=>R=rB r∧H=[.blk ha [rS id] 9]):=by
 refine enter (n:=8) Tryz.func69 Aa Tryz.ntmps69 Aa (λw Z=>?_);unfold Wd at h;refine Am (CN Aa Aa (λb1=>?_));refine wa Aa (B0 (vF CB Aa BX (vL 0 Cf Aa (vL 1 Cf Aa (wv (Kr Aa Aa) (wa Aa (Aw (A4 ?_))))))));obtain rfl:=A7 h;exact A3 (Ch Tryz.results69 (AR Aa)) (sS (sC sN)) ⟨Aa,Aa⟩
theorem Aa3 (F:Nat)(hb:Value)(hd:Nat)(ys:(List Ak))(id:Ai)(r:Int)(h:PB F ys id=some r):Fn Tryz.prog GE 68 [rv hb,rv (.func (.func 69) #[] #[(.pointer (some ⟨hd,0,none⟩))])] [.row hb 67 8 (AH Ad ys),.blk hd [rS id] 9] (λR H=>R=AD r∧H=[.row hb 67 8 (AH Ad ys),.blk hd [rS id] 9]):=by
 refine enter (n:=19) Tryz.func68 Aa Tryz.ntmps68 Aa (λw Z=>?_);unfold PB at h;refine Am (wa Aa (Aw (Ao (Am (wm Aa (wv (Ca (ys:=ys) (enc:=Ad) (i:=0) BY Aa Aa) (wv (r:=AD 0) (Aj Aa) (Aw (AS (ob h λhj hk hh=>B4 (S:=Nat×(Int)×(Unit)) (V:=(Unit)×(Unit)) 0 (λσ=>Ci (λσ=>HK ys id σ) σ.1 σ.2.1=some hj) (λσ=>[(0,rv hb),(1,rv (.func (.func 69) #[] #[(.pointer (some ⟨hd,0,none⟩))])),(7,AD (ys.length:Int)),(8,AD σ.2.1)]) (λσ=>[.row hb 67 8 (AH Ad ys),.blk hd [rS id] 9]) (λσ=>σ.1) (F,0,()) hk (AG.c Aa (AG.c Aa (AG.c Aa (AG.c Aa AG.nil)))) (sC (sC sN)) (λσ=>Le =some r) (λσ=>[]) (λσ=>[.row hb 67 8 (AH Ad ys),.blk hd [rS id] 9]) ?_ ?_))))))))))
 ·rintro⟨h4,ha,⟨⟩⟩ hl;refine GC ?_;obtain⟨hm,rfl,hn,he,hg⟩:=Di hl;replace he:HK ys id ha=some hn:=he;unfold HK at he;refine Am (wv (Dh Aa Aa) (Aw (Ao (cz he Aa (λho hp=>?_) (λho hq=>?_)))))
  ·refine A0 (AX (Ao (AS (Am (wm Aa (wa Aa (B0 (wm Aa (wm Aa (wm Aa (ck hp λhi hr=>wv (r:=rv (Gd 8 hb (BC ha) 0)) (Eu (i:=0) BY Cr Aa Aa Aa (BE hi)) (wv (r:=BL [rS ((Aq ys ha).fID),rS ((Aq ys ha).fTenant),rS ((Aq ys ha).fCause),AD ((Aq ys ha).fAt),AD (((Aq ys ha).fEffect).fKind),rS (((Aq ys ha).fEffect).fKey),Br 4 (AH Ah (((Aq ys ha).fEffect).fValue)),AD (((Aq ys ha).fEffect).fDelay)]) (KU (enc:=Ad) (ys:=ys) (i:=0) (j:=ha) Tryz.isAgg67 Cr Aa Aa hi Aa Aa) (ob hr λhs ht hu=>RK (rs:=[BL [rS ((Aq ys ha).fID),rS ((Aq ys ha).fTenant),rS ((Aq ys ha).fCause),AD ((Aq ys ha).fAt),AD (((Aq ys ha).fEffect).fKind),rS (((Aq ys ha).fEffect).fKey),Br 4 (AH Ah (((Aq ys ha).fEffect).fValue)),AD (((Aq ys ha).fEffect).fDelay)]]) (Hin:=[.blk hd [rS id] 9]) (Hr:=[.row hb 67 8 (AH Ad ys)]) Tryz.call69 Aa Aa ((AP (i:=1) Aa).trans (AfQ _ (AfX _))) (Acb hd (Ak.mk ((Aq ys ha).fID) ((Aq ys ha).fTenant) ((Aq ys ha).fCause) ((Aq ys ha).fAt) ((Aq ys ha).fEffect)) id hs ht) Aa ?_)))))))))))));rintro _ _ ⟨rfl,rfl⟩;refine Aw (cz hu Aa (λhw hx=>?_) (λhw hy=>?_))
   ·refine Am (wm Aa (wa Aa (Aw (A4 (AB (Ae (Ae (Be ?_))))))));have hz:=B1 hx hg hh;refine AB (Ae (Gx [1] ?_));obtain rfl:=A7 hz;exact A3 (Ch Tryz.results68 (AR Aa)) (sC (sC sN)) ⟨Aa,Aa⟩
   refine A0 (AK (AX (An (ck hy λh0 h1=>wv (BW Aa Aa h0) (wm Aa (As (Gx [1] ?_)))))));have h2:=B9 h1 hg;exact Ay (AE (hm,ha+1,()) ⟨h2,AfV _⟩ (AG.c Aa (AG.c Aa (AG.c Aa (AG.c Aa AG.nil)))) (sC (sC sN)))
  refine B3 (A9 ?_);have h3:=Cw hq hg hh;exact A9 (Bo (AE ((),()) h3 AG.nil (sC (sC sN))))
 rintro⟨⟨⟩,⟨⟩⟩ hf;refine JZ ?_;replace hf:Le =some r:=hf;unfold Le at hf;refine Bn (AX (Am (wv (r:=AD (-1)) (AA Aa) (Aw (A4 ?_)))));obtain rfl:=A7 hf;exact A3 (Ch Tryz.results68 (AR Aa)) (sC (sC sN)) ⟨Aa,Aa⟩
theorem Yb (ha:Value)(ys:(List Ak))(i:Int)(j:Int)(r:(List Ak))(h:ML ys i j=some r):Fn Tryz.prog GE 70 [rv ha,AD i,AD j] [.row ha 67 8 (AH Ad ys)] (λR H=>∃u0:Value,R=rv u0∧H=[.row u0 67 8 (AH Ad r)]):=by
 refine enter (n:=33) Tryz.func70 Aa Tryz.ntmps70 Aa (λw Z=>?_);unfold ML at h;refine Am (wa Aa (B0 (wm Aa (wm Aa (wm Aa (wm Aa (wv (Ca (ys:=ys) (enc:=Ad) (i:=0) BY Aa Aa) (ck h λg1 h2=>ck h2 λg3 h4=>ck h4 λg5 h6=>wv (r:=Aew) (Si (i:=0) BY Cr Aa Aa Aa Aa Aa g1 g3 g5) (Aw (Ao (Am (wm Aa (wm Aa (wv (BR Aa Aa) (Aw (cz h6 Aa (λc7 h8=>?_) (λc7 h9=>?_)))))))))))))))))
 ·refine Am (wm Aa (wa Aa (Aw (A4 (Ae ?_)))));obtain rfl:=A7 h8;exact A3 (Ch Tryz.results70 (AR Aa)) (sC sN) ⟨ha,Aa,Aa⟩
 refine A0 (AX (Am (wm Aa (wv (Ca (ys:=ys) (enc:=Ad) (i:=0) BY Aa Aa) (wa Aa (Aw (Ao (ck h9 λhd he=>Dr 6 [0,1,2,7] [⟨[],rv ha,none,none,none⟩,⟨[],AD i,none,none,none⟩,⟨[0,1],rv (Jy ha (BC i)),none,none,none⟩,⟨[],rv ha,none,none,none⟩,⟨[],AD j,none,none,none⟩,⟨[3,4],rv (IV 8 ha (BC j)),none,none,none⟩] ?_ (λβ=>?_)))))))))
 ·refine Do (Aj Aa) (Do (Aj Aa) (HW (Adx (i:=0) BY Cr Aa Aa Aa hd) (Do (Aj Aa) (Do (Aj Aa) (HW (Adv (i:=0) BY Cr Aa Aa Aa g3) ?_)))));exact Sh
 refine Dq (H1:=[.row ha 67 8 (AH Ad ys)]) [20,21,22,23,24,25,0,1,2,7] ?_;obtain⟨_,hinf12⟩:=PA;refine Ab7 (ys:=ys) (enc:=Ad) (i:=0) (a0:=i) (b0:=j) BY hinf12.1 hinf12.2.2.1 Aa Aa Aa Aa Cp DB g1 g3 Aa (wa Aa (B0 (wm Aa (wm Aa (wv (r:=AD ((BC i+(ys.length-BC j):Nat):Int)) (ZP (i:=0) (k:=BC i+(ys.length-BC j)) (ys:=List.take (BC i) ys++List.drop (BC j) ys++List.drop (BC i+(ys.length-BC j)) ys) (enc:=Ad) BY Aa (Tk g1 g3) Aa) (wm Aa (ck he λhb hf=>wv (r:=rv (IV 8 ha (BC ((BC i+(ys.length-BC j):Nat):Int)))) (ZR (i:=0) (k:=BC i+(ys.length-BC j)) (ys:=List.take (BC i) ys++List.drop (BC j) ys++List.drop (BC i+(ys.length-BC j)) ys) (enc:=Ad) BY Cr Aa Aa Aa Aa (AbF g1 g3) hb) (RN (ys:=List.take (BC i) ys++List.drop (BC j) ys++List.drop (BC i+(ys.length-BC j)) ys) (enc:=Ad) (i:=0) (z0:=Ak.mk ([]:Ai) ([]:Ai) ([]:Ai) 0 (Ap.mk 0 ([]:Ai) ([]:(List Ab)) 0)) BY WE Aa Aa Aa (by decide) (λZ=>⟨Aa,Aa,Aa,Aa,Aa,Aa,SH.nil _ _,Aa,trivial⟩) Aa Aa Aa (AbG g1 g3 hb) (H':=[.row ha 67 8 (AH Ad (List.take (BC ((BC i+(ys.length-BC j):Nat):Int)) (List.take (BC i) ys++List.drop (BC j) ys++List.drop (BC i+(ys.length-BC j)) ys)++List.replicate ((List.take (BC i) ys++List.drop (BC j) ys++List.drop (BC i+(ys.length-BC j)) ys).length-BC ((BC i+(ys.length-BC j):Nat):Int)) (Ak.mk ([]:Ai) ([]:Ai) ([]:Ai) 0 (Ap.mk 0 ([]:Ai) ([]:(List Ab)) 0))))]) Aa (B0 (wm Aa (wa Aa (Aw (A4 (WK.cut (ys:=List.take (BC ((BC i+(ys.length-BC j):Nat):Int)) (List.take (BC i) ys++List.drop (BC j) ys++List.drop (BC i+(ys.length-BC j)) ys)++List.replicate ((List.take (BC i) ys++List.drop (BC j) ys++List.drop (BC i+(ys.length-BC j)) ys).length-BC ((BC i+(ys.length-BC j):Nat):Int)) (Ak.mk ([]:Ai) ([]:Ai) ([]:Ai) 0 (Ap.mk 0 ([]:Ai) ([]:(List Ab)) 0))) (enc:=Ad) 0 (BC i+(ys.length-BC j)) Aa (AdQ (Tk g1 g3)) ?_))))))))))))));obtain rfl:=A7 hf;exact A3 (Ch Tryz.results70 (AR Aa)) (sC sN) ⟨(Jy ha (BC i+(ys.length-BC j))),Aa,Aa⟩
theorem Nh (hf:Nat)(ha:Value)(hb:Nat)(hd:Nat)(he:Value)(o:Al)(event:Ai)(r:(List Ab)×Bool)(h:J6 o event=some r):Fn Tryz.prog GE 13 [rP hf 0,rS event] [.blk hf [rB o.fMade,rv ha,rv (.map (some hb)),rv (.map (some hd)),rv he] 59,.row ha 9 1 (AH eS o.fEvents),.map hb (AL Ar o.fResults),.map hd (AL Af o.fKeys),.row he 67 8 (AH Ad o.fPending)] (λR H=>R=CZ [Br 4 (AH Ah r.1),rB r.2]∧H=[.blk hf [rB o.fMade,rv ha,rv (.map (some hb)),rv (.map (some hd)),rv he] 59,.row ha 9 1 (AH eS o.fEvents),.map hb (AL Ar o.fResults),.map hd (AL Af o.fKeys),.row he 67 8 (AH Ad o.fPending)]):=by
 refine enter (n:=23) Tryz.func13 Aa Tryz.ntmps13 Aa (λw Z=>?_);unfold J6 at h;refine Am (wa Aa (wa Aa (Aw (Ao (Am (wm Aa (ob h λr1 e3 h2=>Dn [0] RG (Hb hf ha hb hd he o r1 e3) ?_)))))));rintro _ _ ⟨rfl,rfl⟩;refine wv (BT Aa) (Aw (cz h2 Aa (λc4 h5=>?_) (λc4 h6=>?_)))
 ·refine Am (wa Aa (wa Aa (Aw (A4 (Ae (WK.up (d:=4) (r:=Br 4 (AH Ah ([]:List Ab))) Aa (Up.le (LW.nil _)) ?_))))));obtain rfl:=A7 h5;exact A3 (E3 Tryz.results13 (AR Aa) (AR Aa)) (sC (sC (sC (sC (sC sN))))) ⟨Aa,Aa⟩
 refine A0 (AX (Am (wm Aa (wv (A6 Aa) (vF GF Aa YA (vL 0 YM Aa (wm Aa (wv (r:=CZ [Br 4 (AH Ah (B2 o.fResults event ([]:(List Ab)))),rB (E6 o.fResults event)]) (Sj (enc:=Ar) (xs:=o.fResults) (z:=([]:(List Ab))) (i:=2) Y8 CT Add GQ Aa Aa Aa) (wm Aa (wv (A8 Aa Aa) (wv (A8 Aa Aa) (wa Aa (wa Aa (B0 (wm Aa (ob h6 λr7 e9 h8=>DI U1 (Ij (B2 o.fResults event ([]:(List Ab))) r7 e9) Aa (wm Aa (wa Aa (wa Aa (Aw (A4 ?_)))))))))))))))))))));obtain rfl:=A7 h8;exact A3 (E3 Tryz.results13 (AR Aa) (AR Aa)) (sC (sC (sC (sC (sC sN))))) ⟨Aa,Aa⟩
theorem EY (F:Nat)(hh:Nat)(hd:Value)(he:Nat)(hf:Nat)(hb:Value)(o:Al)(r:(List Ak))(h:Ec F o=some r):Fn Tryz.prog GE 20 [rP hh 0] [.blk hh [rB o.fMade,rv hd,rv (.map (some he)),rv (.map (some hf)),rv hb] 59,.row hd 9 1 (AH eS o.fEvents),.map he (AL Ar o.fResults),.map hf (AL Af o.fKeys),.row hb 67 8 (AH Ad o.fPending)] (λR H=>R=Br 8 (AH Ad r)∧H=[.blk hh [rB o.fMade,rv hd,rv (.map (some he)),rv (.map (some hf)),rv hb] 59,.row hd 9 1 (AH eS o.fEvents),.map he (AL Ar o.fResults),.map hf (AL Af o.fKeys),.row hb 67 8 (AH Ad o.fPending)]):=by
 refine enter (n:=28) Tryz.func20 Aa Tryz.ntmps20 Aa (λw Z=>?_);unfold Ec at h;refine Am (wa Aa (Aw (Ao (Am (wm Aa (ob h λr1 e3 h2=>Dn [0] RG (Hb hh hd he hf hb o r1 e3) ?_))))));rintro _ _ ⟨rfl,rfl⟩;refine wv (BT Aa) (Aw (cz h2 Aa (λc4 h5=>?_) (λc4 h6=>?_)))
 ·refine Am (wa Aa (Aw (A4 (Ae (WK.up (d:=2) (r:=Br 8 (AH Ad ([]:List Ak))) Aa (Up.le (LW.nil _)) ?_)))));obtain rfl:=A7 h5;exact A3 (Ch Tryz.results20 (AR Aa)) (sC (sC (sC (sC (sC sN))))) ⟨Aa,Aa⟩
 refine A0 (AX (Am (wa Aa (Aw (Ao (Am (wm Aa (wv (A6 Aa) (vF GF Aa OE (vL 0 U3 Aa (wv (Ca (ys:=o.fPending) (enc:=Ad) (i:=4) BY Aa Aa) (wv (r:=AD 0) (Aj Aa) (Aw (AS (WC.nilrow (e:=67) (sz:=8) (Hz (H2:=[.blk hh [rB o.fMade,rv hd,rv (.map (some he)),rv (.map (some hf)),rv hb] 59,.row hd 9 1 (AH eS o.fEvents),.map he (AL Ar o.fResults),.map hf (AL Af o.fKeys),.row hb 67 8 (AH Ad o.fPending),.row (.slice none 0 0                                                                   ) 67 8 (AH Ad ([]:List Ak))]) ((AP (i:=1) Aa).trans (AfQ _ ((AP (i:=1) Aa).trans (AfQ _ ((AP (i:=1) Aa).trans (AfQ _ ((AP (i:=1) Aa).trans (AfQ _ ((AP (i:=1) Aa).trans (AfQ _ (AfX _))))))))))) (ob h6 λho hp hq=>B4 (S:=Nat×((List Ak)×Int)×(Value)) (V:=((List Ak))×(Value)) 0 (λσ=>Ci (λσ=>DJ o σ.1 σ.2) σ.1 σ.2.1=some ho) (λσ=>[(3,rv σ.2.2),(12,rv hb),(13,AD (o.fPending.length:Int)),(14,AD σ.2.1.2)]) (λσ=>[.blk hh [rB o.fMade,rv hd,rv (.map (some he)),rv (.map (some hf)),rv hb] 59,.row hd 9 1 (AH eS o.fEvents),.map he (AL Ar o.fResults),.map hf (AL Af o.fKeys),.row hb 67 8 (AH Ad o.fPending),.row σ.2.2 67 8 (AH Ad σ.2.1.1)]) (λσ=>σ.1) (F,(([]:List Ak),0),(.slice none 0 0                                                                   )) hp (AG.c Aa (AG.c Aa (AG.c Aa (AG.c Aa AG.nil)))) (sC (sC (sC (sC (sC (sC sN)))))) (λσ=>Gi σ.1=some r) (λσ=>[(3,rv σ.2)]) (λσ=>[.blk hh [rB o.fMade,rv hd,rv (.map (some he)),rv (.map (some hf)),rv hb] 59,.row hd 9 1 (AH eS o.fEvents),.map he (AL Ar o.fResults),.map hf (AL Af o.fKeys),.row hb 67 8 (AH Ad o.fPending),.row σ.2 67 8 (AH Ad σ.1)]) ?_ ?_)))))))))))))))))
 ·rintro⟨hB,⟨hi,ha⟩,hr⟩ hs;refine GC ?_;obtain⟨ht,rfl,hu,hj,hl⟩:=Di hs;replace hj:DJ o hi ha=some hu:=hj;unfold DJ at hj;refine Am (wv (Dh Aa Aa) (Aw (Ao (cz hj Aa (λhw hx=>?_) (λhw hy=>?_)))))
  ·refine A0 (AX (Ao (AS (Am (ck hx λhm hz=>wv (r:=rv (Gd 8 hb (BC ha) 0)) (Eu (i:=4) BY Cr Aa Aa Aa (BE hm)) (wv (r:=BL [rS ((Aq o.fPending ha).fID),rS ((Aq o.fPending ha).fTenant),rS ((Aq o.fPending ha).fCause),AD ((Aq o.fPending ha).fAt),AD (((Aq o.fPending ha).fEffect).fKind),rS (((Aq o.fPending ha).fEffect).fKey),Br 4 (AH Ah (((Aq o.fPending ha).fEffect).fValue)),AD (((Aq o.fPending ha).fEffect).fDelay)]) (KU (enc:=Ad) (ys:=o.fPending) (i:=4) (j:=ha) Tryz.isAgg67 Cr Aa Aa hm Aa Aa) (BZ (cs:=[rS ([]:Ai),rS ([]:Ai),rS ([]:Ai),AD 0,AD 0,rS ([]:Ai),rv (.slice none 0 0),AD 0]) WE Aa Aa (λhC=>?_))))))));refine LZ (i:=0) Cr Aa Aa Aa (Cm.c Aa) Aa Aa ?_;refine B0 (vF CB Aa Dj (wv (Bi (i:=0) Is Dj Aa Aa Aa Aa) (ob hz λhg h0 h1=>DI Tryz.call44 (US ((Aq o.fPending ha).fEffect) hg h0) Aa (vF CB Aa Dj (LZ (i:=0) Dj Aa Aa Aa (Cm.c Aa) Aa Aa ?_)))));refine Aw (An (wm Aa (wv (Bi (i:=0) Tryz.isAgg67 Cr Aa Aa Aa Aa) (Bf (ys:=([(Ak.mk ((Aq o.fPending ha).fID) ((Aq o.fPending ha).fTenant) ((Aq o.fPending ha).fCause) ((Aq o.fPending ha).fAt) hg)]:List Ak)) (enc:=Ad) (css:=[[rS ((Aq o.fPending ha).fID),rS ((Aq o.fPending ha).fTenant),rS ((Aq o.fPending ha).fCause),AD ((Aq o.fPending ha).fAt),AD hg.fKind,rS hg.fKey,Br 4 (AH Ah hg.fValue),AD hg.fDelay]]) (xs:=[.tmp 23]) BY Cr WE Aa Aa Aa ⟨E4.agg ⟨Up.refl _,Up.refl _,Up.refl _,Up.refl _,Up.refl _,Up.refl _,Up.refl _,Up.refl _,trivial⟩,trivial⟩ Aa Cp Aa Aa Aa (λhD=>?_)))));refine ck h1 λh3 h4=>Exists.elim PA λinf hinf=>Cc (xs:=hi) (ys:=([(Ak.mk ((Aq o.fPending ha).fID) ((Aq o.fPending ha).fTenant) ((Aq o.fPending ha).fCause) ((Aq o.fPending ha).fAt) hg)]:List Ak)) (enc:=Ad) (i:=7) BY hinf.1 hinf.2.1 hinf.2.2.1 hinf.2.2.2 Aa Aa Aa Aa Aa (JG.w (i:=0) Aa Aa) Cp DB h3 Aa (λv76=>?_);refine wa Aa (As (AK (AX (An (ck h4 λh7 h8=>wv (BW Aa Aa h7) (wm Aa (As (Gx [3,3,3,3,3] ?_))))))));have h9:=B9 h8 hl;exact Ay (AE (ht,(hi++([(Ak.mk ((Aq o.fPending ha).fID) ((Aq o.fPending ha).fTenant) ((Aq o.fPending ha).fCause) ((Aq o.fPending ha).fAt) hg)]:List Ak),ha+1),v76) ⟨h9,AfV _⟩ (AG.c Aa (AG.c Aa (AG.c Aa (AG.c Aa AG.nil)))) (sC (sC (sC (sC (sC (sC (sS (sS sN)))))))))
  refine B3 (A9 ?_);have hA:=Cw hy hl hq;exact A9 (Bo (AE (hi,hr) hA (AG.c Aa AG.nil) (sC (sC (sC (sC (sC (sC sN))))))))
 rintro⟨hn,hE⟩ hk;refine JZ ?_;replace hk:Gi hn=some r:=hk;unfold Gi at hk;refine Bn (AX (Am (wm Aa (wa Aa (Aw (A4 (WK.freeze (i:=5) Aa (WK.up (d:=2) (r:=Br 8 (AH Ad hn)) Aa (Up.fact (i:=0) Aa) ?_))))))));obtain rfl:=A7 hk;exact A3 (Ch Tryz.results20 (AR Aa)) (sS (sC (sC (sC (sC (sC sN)))))) ⟨Aa,Aa⟩
theorem Ni (hf:Nat)(ha:Value)(hb:Nat)(hd:Nat)(he:Value)(o:Al)(r:(List Ai))(h:J8 o=some r):Fn Tryz.prog GE 17 [rP hf 0] [.blk hf [rB o.fMade,rv ha,rv (.map (some hb)),rv (.map (some hd)),rv he] 59,.row ha 9 1 (AH eS o.fEvents),.map hb (AL Ar o.fResults),.map hd (AL Af o.fKeys),.row he 67 8 (AH Ad o.fPending)] (λR H=>R=Br 1 (AH eS r)∧H=[.blk hf [rB o.fMade,rv ha,rv (.map (some hb)),rv (.map (some hd)),rv he] 59,.row ha 9 1 (AH eS o.fEvents),.map hb (AL Ar o.fResults),.map hd (AL Af o.fKeys),.row he 67 8 (AH Ad o.fPending)]):=by
 refine enter (n:=11) Tryz.func17 Aa Tryz.ntmps17 Aa (λw Z=>?_);unfold J8 at h;refine Am (wa Aa (Aw (Ao (Am (wm Aa (ob h λr1 e3 h2=>Dn [0] RG (Hb hf ha hb hd he o r1 e3) ?_))))));rintro _ _ ⟨rfl,rfl⟩;refine wv (BT Aa) (Aw (cz h2 Aa (λc4 h5=>?_) (λc4 h6=>?_)))
 ·refine Am (wa Aa (Aw (A4 (Ae (WK.up (d:=2) (r:=Br 1 (AH eS ([]:List Ai))) Aa (Up.le (LW.nil _)) ?_)))));obtain rfl:=A7 h5;exact A3 (Ch Tryz.results17 (AR Aa)) (sC (sC (sC (sC (sC sN))))) ⟨Aa,Aa⟩
 refine A0 (AX (Am (wm Aa (wv (A6 Aa) (vF GF Aa IN (vL 0 Od Aa (ob h6 λr7 e9 h8=>Dn [1] Tryz.call43 (Yj ha o.fEvents r7 e9) ?_)))))));rintro _ _ ⟨hg,rfl,rfl⟩;refine wa Aa (Aw (A4 (WK.freeze (i:=0) Aa (WK.up (d:=2) (r:=Br 1 (AH eS r7)) Aa (Up.fact (i:=0) Aa) (Gx [2,1,1,1,1] ?_)))));obtain rfl:=A7 h8;exact A3 (Ch Tryz.results17 (AR Aa)) (sC (sC (sC (sC (sC (sS sN)))))) ⟨Aa,Aa⟩
theorem Px (F:Nat)(hf:Nat)(hb:Value)(hd:Nat)(he:Nat)(ha:Value)(o:Al)(id:Ai)(r:Int×Al)(h:Sr F o id=some r):Fn Tryz.prog GE 36 [rP hf 0,rS id] [.blk hf [rB o.fMade,rv hb,rv (.map (some hd)),rv (.map (some he)),rv ha] 59,.row hb 9 1 (AH eS o.fEvents),.map hd (AL Ar o.fResults),.map he (AL Af o.fKeys),.row ha 67 8 (AH Ad o.fPending)] (λR H=>∃w0_1:Value,∃w0_4:Value,R=AD r.1∧H=[.blk hf [rB r.2.fMade,rv w0_1,rv (.map (some hd)),rv (.map (some he)),rv w0_4] 59,.row w0_1 9 1 (AH eS r.2.fEvents),.map hd (AL Ar r.2.fResults),.map he (AL Af r.2.fKeys),.row w0_4 67 8 (AH Ad r.2.fPending)]):=by
 refine enter (n:=29) Tryz.func36 Aa Tryz.ntmps36 Aa (λw Z=>?_);unfold Sr at h;refine Am (YR Aa (B5 Aa) Aa (λb1=>?_));refine wa Aa (Aw (Ao (Am (wm Aa (ob h λr2 e4 h3=>Dn [1] RG (Hb hf hb hd he ha o r2 e4) ?_)))));rintro _ _ ⟨rfl,rfl⟩;refine wv (BT Aa) (Aw (cz h3 Aa (λc5 h6=>?_) (λc5 h7=>?_)))
 ·refine Am (wa Aa (Aw (A4 (Ae ?_))));obtain rfl:=A7 h6;exact A3 (Ch Tryz.results36 (AR Aa)) (sC (sS (sC (sC (sC (sC sN)))))) ⟨hb,ha,Aa,Aa⟩
 refine A0 (AX (Am (wm Aa (wv (A6 Aa) (vF GF Aa OE (vL 0 U3 Aa (wv (r:=rv (.func (.func 69) #[] #[(.pointer (some ⟨b1,0,none⟩))])) (LN Aa) (ob h7 λr8 hh h9=>Dn [5,1] Tryz.call68 (Aa3 F ha b1 o.fPending id r8 hh) ?_))))))));rintro _ _ ⟨rfl,rfl⟩;refine wa Aa (Aw (Ao (Am (wm Aa (wv (Dh Aa Aa) (Aw (cz h9 Aa (λhi hj=>?_) (λhi hk=>?_))))))))
 ·refine Am (wa Aa (Aw (A4 (Ae (Gx [2,2,2,2] ?_)))));obtain rfl:=A7 hj;exact A3 (Ch Tryz.results36 (AR Aa)) (sC (sC (sC (sC (sC (sS sN)))))) ⟨hb,ha,Aa,Aa⟩
 refine A0 (AX (Am (wm Aa (wm Aa (wv (A6 Aa) (vF GF Aa OE (vL 2 U3 Aa (ob hk λhg hl hm=>Dn [0] Tryz.call71 (Yk ha o.fPending hg hl) ?_))))))));rintro _ _ ⟨hn,rfl,rfl⟩;refine wm Aa (wm Aa (ck hm λg18 ho=>wv (BW Aa Aa g18) (ob ho λhp hq hr=>Dn [0] Tryz.call70 (Yb hn hg r8 (r8+1) hp hq) ?_)));rintro _ _ ⟨hs,rfl,rfl⟩;refine wv (A6 Aa) (vF GF Aa OE (us (i:=3) OE Aa Aa (C2 (i:=0) Aa) Aa Aa ?_));refine B0 (wa Aa (Aw (A4 (Gx [3,3,3,3] ?_))));obtain rfl:=A7 hr;exact A3 (Ch Tryz.results36 (AR Aa)) (sC (sC (sC (sC (sC (sS (sS sN))))))) ⟨hb,hs,Aa,Aa⟩
theorem Ku (F:Nat)(hh:Nat)(hb:Value)(hd:Nat)(he:Nat)(hf:Value)(o:Al)(tenant:Ai)(r:(List Bt))(h:J7 F o tenant=some r):Fn Tryz.prog GE 23 [rP hh 0,rS tenant] [.blk hh [rB o.fMade,rv hb,rv (.map (some hd)),rv (.map (some he)),rv hf] 59,.row hb 9 1 (AH eS o.fEvents),.map hd (AL Ar o.fResults),.map he (AL Af o.fKeys),.row hf 67 8 (AH Ad o.fPending)] (λR H=>R=Br 3 (AH By r)∧H=[.blk hh [rB o.fMade,rv hb,rv (.map (some hd)),rv (.map (some he)),rv hf] 59,.row hb 9 1 (AH eS o.fEvents),.map hd (AL Ar o.fResults),.map he (AL Af o.fKeys),.row hf 67 8 (AH Ad o.fPending)]):=by
 refine enter (n:=56) Tryz.func23 Aa Tryz.ntmps23 Aa (λw Z=>?_);unfold J7 at h;refine Am (wa Aa (Aw (Ao (Am (wm Aa (ob h λr1 e3 h2=>Dn [0] RG (Hb hh hb hd he hf o r1 e3) ?_))))));rintro _ _ ⟨rfl,rfl⟩;refine wv (BT Aa) (Aw (cz h2 Aa (λc4 h5=>?_) (λc4 h6=>?_)))
 ·refine Am (wa Aa (Aw (A4 (Ae (WK.up (d:=4) (r:=Br 3 (AH By ([]:List Bt))) Aa (Up.le (LW.nil _)) ?_)))));obtain rfl:=A7 h5;exact A3 (Ch Tryz.results23 (AR Aa)) (sC (sC (sC (sC (sC sN))))) ⟨Aa,Aa⟩
 refine A0 (AX (Am (wa Aa (Aw (Ao (Am (wm Aa (wv (A6 Aa) (vF GF Aa WH (vL 0 WP Aa (wm Aa (wv (r:=NJ (AL Ax (B2 o.fKeys tenant ([]:(List (Ai×Ac)))))) (Nf (enc:=Af) (xs:=o.fKeys) (z:=([]:(List (Ai×Ac)))) (i:=3) WG CT Aby Dc Aa Aa Aa) (ON Mb Aa Aa (λb7=>?_))))))))))))));refine Aw (AS (WC.nilrow (e:=9) (sz:=1) (Hz (H2:=[.itz b7 (AL Ax (B2 o.fKeys tenant ([]:(List (Ai×Ac))))) (AL Ax (B2 o.fKeys tenant ([]:(List (Ai×Ac))))) none,.blk hh [rB o.fMade,rv hb,rv (.map (some hd)),rv (.map (some he)),rv hf] 59,.row hb 9 1 (AH eS o.fEvents),.map hd (AL Ar o.fResults),.map he (AL Af o.fKeys),.row hf 67 8 (AH Ad o.fPending),.row (.slice none 0 0         ) 9 1 (AH eS ([]:List Ai))]) ((AP (i:=1) Aa).trans (AfQ _ ((AP (i:=1) Aa).trans (AfQ _ ((AP (i:=1) Aa).trans (AfQ _ ((AP (i:=1) Aa).trans (AfQ _ ((AP (i:=1) Aa).trans (AfQ _ ((AP (i:=1) Aa).trans (AfQ _ (AfX _))))))))))))) ?_)));have h4:=Vb h6;refine B4 (S:=(List (Ai×Ac))×((List Ai))×(Value)) (V:=((List Ai))×(Value)) 0 (λσ=>∀qo:List (Ai×Ac),qo.Perm σ.1→Bq (Rk (λpe τ=>GL pe.1 pe.2 τ) qo σ.2.1) (BO λν=>Gk F o tenant ν)=some r) (λσ=>[(0,rP hh 0),(1,rS tenant),(4,rv (.slice none 0 0)),(5,rv σ.2.2),(20,rP b7 0)]) (λσ=>[.itz b7 (AL Ax (B2 o.fKeys tenant ([]:(List (Ai×Ac))))) (AL Ax σ.1) none,.blk hh [rB o.fMade,rv hb,rv (.map (some hd)),rv (.map (some he)),rv hf] 59,.row hb 9 1 (AH eS o.fEvents),.map hd (AL Ar o.fResults),.map he (AL Af o.fKeys),.row hf 67 8 (AH Ad o.fPending),.row σ.2.2 9 1 (AH eS σ.2.1)]) (λσ=>σ.1.length) (B2 o.fKeys tenant ([]:(List (Ai×Ac))),([]:List Ai),(.slice none 0 0         )) h4 (AG.c5 Aa Aa Aa Aa Aa AG.nil) (sC (sC (sC (sC (sC (sC (sC sN))))))) (λσ=>Gk F o tenant σ.1=some r) (λσ=>[(0,rP hh 0),(1,rS tenant),(4,rv (.slice none 0 0)),(5,rv σ.2)]) (λσ=>[.blk hh [rB o.fMade,rv hb,rv (.map (some hd)),rv (.map (some he)),rv hf] 59,.row hb 9 1 (AH eS o.fEvents),.map hd (AL Ar o.fResults),.map he (AL Af o.fKeys),.row hf 67 8 (AH Ad o.fPending),.row σ.2 9 1 (AH eS σ.1)]) ?_ ?_
 ·rintro⟨h7,hk,hu⟩ hw;refine GC ?_;refine Am (RJ (enc:=Ax) (ys:=h7) (i:=0) Aa Aa Aa (λhy=>?_) (λp hx hz=>?_))
  ·have h8:Gk F o tenant hk=some r:=Ss hw hy;exact wv (A8 Aa Aa) (Aw (Ao (D9 Aa Aa (B3 (A9 (A9 (Bo (AE (hk,hu) h8 (AG.c Aa (AG.c Aa (AG.c Aa (AG.c Aa AG.nil)))) (sS (sC (sC (sC (sC (sC (sC sN)))))))))))))))
  obtain⟨hj,x16⟩:=p;obtain⟨h9,hn,hA⟩:=Aas hw hz;replace hn:GL hj x16 hk=some h9:=hn;unfold GL at hn;refine U4 (H':=[.itz b7 (AL Ax (B2 o.fKeys tenant ([]:(List (Ai×Ac))))) (AL Ax hx) (some (hj,Ax x16)),.blk hh [rB o.fMade,rv hb,rv (.map (some hd)),rv (.map (some he)),rv hf] 59,.row hb 9 1 (AH eS o.fEvents),.map hd (AL Ar o.fResults),.map he (AL Af o.fKeys),.row hf 67 8 (AH Ad o.fPending),.row hu 9 1 (AH eS hk)]) Aa (wv (A8 Aa Aa) (Aw (Ao (DE Aa Aa (A0 (AX (AS (Am (wv (r:=CZ [rS hj,BL (C5 x16)]) (Pq (i:=0) Aa Aa) (wv (A8 Aa Aa) (wa Aa (Aw (An (wm Aa (wm Aa (Bf (ys:=([hj]:List Ai)) (enc:=eS) (css:=[[rS hj]]) (xs:=[.tmp 26]) CD BX V4 Aa Aa Aa ⟨E4.one Aa (Up.refl _),trivial⟩ Aa DC Aa Aa Aa (λgc=>?_)))))))))))))))));refine ck hn λhB hC=>Exists.elim P9 λinf hinf=>Cc (xs:=hk) (ys:=([hj]:List Ai)) (enc:=eS) (i:=7) CD hinf.1 hinf.2.1 hinf.2.2.1 hinf.2.2.2 Aa Aa Aa Aa Aa (JG.w (i:=0) Aa Aa) DC LR hB Aa (λhD=>?_);refine wa Aa (As (AK (WK.uncurz (i:=2) Aa (Gx [2,2,2,2,2,2] ?_))));have hE:=Nn hC hA;exact Ay (AE (hx,hk++([hj]:List Ai),hD) ⟨hE,Sd hz⟩ (AG.c5 Aa Aa Aa Aa Aa AG.nil) (sC (sC (sC (sC (sC (sC (sC (sS sN)))))))))
 rintro⟨ha,ho⟩ hp;refine JZ ?_;replace hp:Gk F o tenant ha=some r:=hp;unfold Gk at hp;refine Bn (AX (Am (wa Aa (Aw (Ao (Am (wm Aa (ck hp λhG hH=>C8 (rs:=[rv ho]) (Hin:=[.row ho 9 1 (AH eS ha)]) (Hr:=[.blk hh [rB o.fMade,rv hb,rv (.map (some hd)),rv (.map (some he)),rv hf] 59,.row hb 9 1 (AH eS o.fEvents),.map hd (AL Ar o.fResults),.map he (AL Af o.fKeys),.row hf 67 8 (AH Ad o.fPending)]) Tryz.call45 Aa ((AP (i:=5) Aa).trans (AfQ _ (AfX _))) (XM ho ha hG) Aa ?_))))))));rintro _ _ ⟨hl,rfl,rfl⟩;refine wv (Ca (ys:=BJ ha) (enc:=eS) (i:=0) CD Aa Aa) (wv (r:=AD 0) (Aj Aa) (Aw (AS (WC.nilrow (e:=75) (sz:=3) (Hz (H2:=[.row hl 9 1 (AH eS (BJ ha)),.blk hh [rB o.fMade,rv hb,rv (.map (some hd)),rv (.map (some he)),rv hf] 59,.row hb 9 1 (AH eS o.fEvents),.map hd (AL Ar o.fResults),.map he (AL Af o.fKeys),.row hf 67 8 (AH Ad o.fPending),.row (.slice none 0 0                                                                           ) 75 3 (AH By ([]:List Bt)),.row ho 9 1 (AH eS ha)]) ((AP (i:=1) Aa).trans (AfQ _ ((AP (i:=2) Aa).trans (AfQ _ ((AP (i:=2) Aa).trans (AfQ _ ((AP (i:=2) Aa).trans (AfQ _ ((AP (i:=2) Aa).trans (AfQ _ ((AP (i:=2) Aa).trans (AfQ _ (AfX _))))))))))))) (ob hH λhI hJ hK=>B4 (S:=Nat×((List Bt)×Int)×(Value)) (V:=((List Bt))×(Value)) 2 (λσ=>Ci (λσ=>Gl o tenant ha σ.1 σ.2) σ.1 σ.2.1=some hI) (λσ=>[(0,rP hh 0),(1,rS tenant),(7,rv σ.2.2),(30,rv hl),(31,AD ((BJ ha).length:Int)),(32,AD σ.2.1.2)]) (λσ=>[.row hl 9 1 (AH eS (BJ ha)),.blk hh [rB o.fMade,rv hb,rv (.map (some hd)),rv (.map (some he)),rv hf] 59,.row hb 9 1 (AH eS o.fEvents),.map hd (AL Ar o.fResults),.map he (AL Af o.fKeys),.row hf 67 8 (AH Ad o.fPending),.row σ.2.2 75 3 (AH By σ.2.1.1)]) (λσ=>σ.1) (F,(([]:List Bt),0),(.slice none 0 0                                                                           )) hJ (AG.c Aa (AG.c5 Aa Aa Aa Aa Aa AG.nil)) (sC (sC (sC (sC (sC (sC (sC (sS sN)))))))) (λσ=>Jc σ.1=some r) (λσ=>[(7,rv σ.2)]) (λσ=>[.blk hh [rB o.fMade,rv hb,rv (.map (some hd)),rv (.map (some he)),rv hf] 59,.row hb 9 1 (AH eS o.fEvents),.map hd (AL Ar o.fResults),.map he (AL Af o.fKeys),.row hf 67 8 (AH Ad o.fPending),.row σ.2 75 3 (AH By σ.1)]) ?_ ?_))))))
 ·rintro⟨gd,⟨hm,hg⟩,hs⟩ hL;refine GC ?_;obtain⟨hN,rfl,hO,hq,h0⟩:=Di hL;replace hq:Gl o tenant ha hm hg=some hO:=hq;unfold Gl at hq;refine Am (wv (Dh Aa Aa) (Aw (Ao (cz hq Aa (λhP hQ=>?_) (λhP hR=>?_)))))
  ·refine A0 (AX (Ao (AS (Am (ck hQ λh1 hS=>wv (r:=rv (Gd 1 hl (BC hg) 0)) (Eu (i:=0) CD BX Aa Aa Aa (BE h1)) (wv (r:=rS (Aq (BJ ha) hg)) (Hm (enc:=eS) (ys:=BJ ha) (i:=0) (j:=hg) Cf Aa Aa h1 Aa) (wa Aa (B0 (wm Aa (wv (A6 Aa) (vF GF Aa WH (vL 1 WP Aa (wm Aa (wv (r:=NJ (AL Ax (B2 o.fKeys tenant ([]:(List (Ai×Ac)))))) (Nf (enc:=Af) (xs:=o.fKeys) (z:=([]:(List (Ai×Ac)))) (i:=4) WG CT Aby Dc Aa Aa Aa) (wm Aa (wv (r:=BL (C5 (B2 (B2 o.fKeys tenant ([]:(List (Ai×Ac)))) (Aq (BJ ha) hg) (Ac.mk ([]:(List Ab)) 0)))) (ZN (enc:=Ax) (xs:=B2 o.fKeys tenant ([]:(List (Ai×Ac)))) (z:=Ac.mk ([]:(List Ab)) 0) Mb CT WD G3 Aa Aa) (BZ (cs:=[rv (.slice none 0 0),AD 0]) WD Aa Aa (λht=>?_))))))))))))))))));refine LZ (i:=0) Y9 Aa Aa Aa (Cm.c Aa) Aa Aa ?_;refine Aw (ob hS λhi hT hU=>Dr 9 [0,1,7,9,10,30,31,32] [⟨[],rv hs,none,none,none⟩,⟨[],rS (Aq (BJ ha) hg),none,none,none⟩,⟨[],rP ht 0,none,none,none⟩,⟨[2],Br 4 (AH Ah ((B2 (B2 o.fKeys tenant ([]:(List (Ai×Ac)))) (Aq (BJ ha) hg) (Ac.mk ([]:(List Ab)) 0)).fValue)),none,none,none⟩,⟨[3],Br 4 (AH Ah hi),none,none,none⟩,⟨[],rP ht 1,none,none,none⟩,⟨[5],AD ((B2 (B2 o.fKeys tenant ([]:(List (Ai×Ac)))) (Aq (BJ ha) hg) (Ac.mk ([]:(List Ab)) 0)).fVersion),none,none,none⟩,⟨[1,4,6],BL [rS (Aq (BJ ha) hg),Br 4 (AH Ah hi),AD ((B2 (B2 o.fKeys tenant ([]:(List (Ai×Ac)))) (Aq (BJ ha) hg) (Ac.mk ([]:(List Ab)) 0)).fVersion)],none,none,none⟩,⟨[7],Br 3 (AH By ([(Bt.mk (Aq (BJ ha) hg) hi ((B2 (B2 o.fKeys tenant ([]:(List (Ai×Ac)))) (Aq (BJ ha) hg) (Ac.mk ([]:(List Ab)) 0)).fVersion))]:List Bt)),none,none,none⟩] ?_ (λβ=>?_))
   ·refine Do (Aj Aa) (Do (Aj Aa) (Do (Au Ab0 Aa CR Aa Aa) (HW (AM (i:=0) EC Aa Aa Aa) (NL (G0 U1 (Ij ((B2 (B2 o.fKeys tenant ([]:(List (Ai×Ac)))) (Aq (BJ ha) hg) (Ac.mk ([]:(List Ab)) 0)).fValue) hi hT) Aa) (Do (Au Ab0 Aa Cy Aa Aa) (HW (AM (i:=0) CO Aa Aa Aa) (Do (Oi Aa Aa Aa Aa Aa Aa) (NL (C4 (ys:=([(Bt.mk (Aq (BJ ha) hg) hi ((B2 (B2 o.fKeys tenant ([]:(List (Ai×Ac)))) (Aq (BJ ha) hg) (Ac.mk ([]:(List Ab)) 0)).fVersion))]:List Bt)) (enc:=By) (css:=[[rS (Aq (BJ ha) hg),Br 4 (AH Ah hi),AD ((B2 (B2 o.fKeys tenant ([]:(List (Ai×Ac)))) (Aq (BJ ha) hg) (Ac.mk ([]:(List Ab)) 0)).fVersion)]]) (xs:=[.tmp 51]) Iq L9 Tryz.zeroValue75 Aa Aa Aa ⟨E4.agg ⟨Up.refl _,Up.refl _,Up.refl _,trivial⟩,trivial⟩ Aa L2 Aa Aa) ?_))))))));exact Sh
   refine Dq (H1:=[.blk ht (C5 (B2 (B2 o.fKeys tenant ([]:(List (Ai×Ac)))) (Aq (BJ ha) hg) (Ac.mk ([]:(List Ab)) 0))) 90,.row hl 9 1 (AH eS (BJ ha)),.blk hh [rB o.fMade,rv hb,rv (.map (some hd)),rv (.map (some he)),rv hf] 59,.row hb 9 1 (AH eS o.fEvents),.map hd (AL Ar o.fResults),.map he (AL Af o.fKeys),.row hf 67 8 (AH Ad o.fPending),.row hs 75 3 (AH By hm)]) [44,45,46,47,48,49,50,51,52,0,1,7,9,10,30,31,32] ?_;refine ck hU λhV hW=>Exists.elim AdB λinf hinf=>Cc (xs:=hm) (ys:=([(Bt.mk (Aq (BJ ha) hg) hi ((B2 (B2 o.fKeys tenant ([]:(List (Ai×Ac)))) (Aq (BJ ha) hg) (Ac.mk ([]:(List Ab)) 0)).fVersion))]:List Bt)) (enc:=By) (i:=7) Iq hinf.1 hinf.2.1 hinf.2.2.1 hinf.2.2.2 Aa Aa Aa Aa Aa (JG.z Aa Aa) L2 Q0 hV Aa (λhX=>?_);refine wa Aa (As (AK (AX (An (ck hW λhY hZ=>wv (BW Aa Aa hY) (wm Aa (As (Gx [2,2,2,2,2,2] ?_))))))));have ga:=B9 hZ h0;exact Ay (AE (hN,(hm++([(Bt.mk (Aq (BJ ha) hg) hi ((B2 (B2 o.fKeys tenant ([]:(List (Ai×Ac)))) (Aq (BJ ha) hg) (Ac.mk ([]:(List Ab)) 0)).fVersion))]:List Bt),hg+1),hX) ⟨ga,AfV _⟩ (AG.c Aa (AG.c5 Aa Aa Aa Aa Aa AG.nil)) (sC (sC (sC (sC (sC (sC (sC (sS sN)))))))))
  refine B3 (A9 ?_);have gb:=Cw hR h0 hK;exact A9 (Bo (AE (hm,hs) gb (AG.c Aa AG.nil) (sS (sC (sC (sC (sC (sC (sC sN)))))))))
 rintro⟨h3,ge⟩ hr;refine JZ ?_;replace hr:Jc h3=some r:=hr;unfold Jc at hr;refine Bn (AX (Am (wm Aa (wa Aa (Aw (A4 (WK.freeze (i:=5) Aa (WK.up (d:=4) (r:=Br 3 (AH By h3)) Aa (Up.fact (i:=0) Aa) ?_))))))));obtain rfl:=A7 hr;exact A3 (Ch Tryz.results23 (AR Aa)) (sS (sC (sC (sC (sC (sC sN)))))) ⟨Aa,Aa⟩
theorem QX (F:Nat)(ha:Nat)(hf:Value)(hd:Nat)(hb:Nat)(he:Value)(o:Al)(c:AC)(r:Bool×Int×Al)(h:KX F o c=some r):Fn Tryz.prog GE 35 [rP ha 0,BL (B6 c)] [.blk ha [rB o.fMade,rv hf,rv (.map (some hd)),rv (.map (some hb)),rv he] 59,.row hf 9 1 (AH eS o.fEvents),.map hd (AL Ar o.fResults),.map hb (AL Af o.fKeys),.row he 67 8 (AH Ad o.fPending)] (λR H=>∃w0_1:Value,∃w0_4:Value,R=CZ [rB r.1,AD r.2.1]∧H=[.blk ha [rB r.2.2.fMade,rv w0_1,rv (.map (some hd)),rv (.map (some hb)),rv w0_4] 59,.row w0_1 9 1 (AH eS r.2.2.fEvents),.map hd (AL Ar r.2.2.fResults),.map hb (AL Af r.2.2.fKeys),.row w0_4 67 8 (AH Ad r.2.2.fPending)]):=by
 refine enter (n:=131) Tryz.func35 Aa Tryz.ntmps35 Aa (λw Z=>?_);unfold KX at h;refine Am (CN Aa Aa (λb1=>?_));refine wa Aa (wa Aa (Aw (Ao (Am (wm Aa (ob h λr2 e4 h3=>Dn [1] RG (Hb ha hf hd hb he o r2 e4) ?_))))));rintro _ _ ⟨rfl,rfl⟩;refine wv (BT Aa) (Aw (cz h3 Aa (λc5 h6=>?_) (λc5 h7=>?_)))
 ·refine Am (wa Aa (wa Aa (Aw (A4 (Ae ?_)))));obtain rfl:=A7 h6;exact A3 (E3 MT (AR Aa) (AR Aa)) (sC (sS (sC (sC (sC (sC sN)))))) ⟨hf,he,Aa,Aa⟩
 refine A0 (AX (Ao (Am (wv (Bi (i:=1) GG DM Aa Aa Aa Aa) (ob h7 λr8 hC h9=>DI YJ (T6 F c r8 hC) Aa (wa Aa (B0 (wm Aa (wv (BQ Aa Aa) (Aw (cz h9 Aa (λhD hE=>?_) (λhD hG=>?_))))))))))))
 ·refine Am (wm Aa (wa Aa (wa Aa (Aw (A4 (Ae ?_))))));obtain rfl:=A7 hE;exact A3 (E3 MT (AR Aa) (AR Aa)) (sC (sS (sC (sC (sC (sC sN)))))) ⟨hf,he,Aa,Aa⟩
 refine A0 (AX (Ao (Ao (D0 [0,3] ?_))));refine rq (Aj Aa) (rq (A6 Aa) (rq (Au GF Aa YA Aa Aa) (rq (AM (i:=0) YM Aa Aa Aa) (rq (Au C6 Aa BX Aa Aa) (rq (AM (i:=1) Cf Aa Aa Aa) (rq (r:=CZ [Br 4 (AH Ah (B2 o.fResults c.fEvent ([]:(List Ab)))),rB (E6 o.fResults c.fEvent)]) (Sj (enc:=Ar) (xs:=o.fResults) (z:=([]:(List Ab))) (i:=3) Y8 CT Add GQ Aa Aa Aa) (rq (Aj Aa) (rq (A8 Aa Aa) (rq (A8 Aa Aa) (rq (AA Aa) (rq (AA Aa) (re [8,0,3] ?_))))))))))));refine AX (Am (wm Aa (Aw (cz hG Aa (λhH hI=>?_) (λhH hJ=>?_)))))
 ·refine Am (wa Aa (wa Aa (Aw (A4 (Ae ?_)))));obtain rfl:=A7 hI;exact A3 (E3 MT (AR Aa) (AR Aa)) (sC (sS (sC (sC (sC (sC sN)))))) ⟨hf,he,Aa,Aa⟩
 refine A0 (AX (Ao (Am (wm Aa (wv (A6 Aa) (vF GF Aa IN (vL 0 Od Aa (wv (Ca (ys:=o.fEvents) (enc:=eS) (i:=2) CD Aa Aa) (wv (JV Aa Aa) (Aw (cz hJ Aa (λhK hL=>?_) (λhK hN=>?_))))))))))))
 ·refine Am (wa Aa (wa Aa (Aw (A4 (Ae ?_)))));obtain rfl:=A7 hL;exact A3 (E3 MT (AR Aa) (AR Aa)) (sC (sS (sC (sC (sC (sC sN)))))) ⟨hf,he,Aa,Aa⟩
 refine A0 (AX (Am (KM Aa (λhl=>?_))));refine wa Aa (Aw (Ao (Ao (Dr 7 [0,3,9] [⟨[],rP ha 0,none,none,none⟩,⟨[0],rP ha 0,none,none,none⟩,⟨[1],rP ha 3,none,none,none⟩,⟨[2],rv (.map (some hb)),none,none,none⟩,⟨[],rP b1 1,none,none,none⟩,⟨[4],rS c.fTenant,none,none,none⟩,⟨[3,5],NJ (AL Ax (B2 o.fKeys c.fTenant ([]:(List (Ai×Ac))))),none,none,none⟩] ?_ (λβ=>?_)))))
 ·refine Do (Aj Aa) (Do (A6 Aa) (Do (Au GF Aa WH Aa Aa) (HW (AM (i:=1) WP Aa Aa Aa) (Do (Au C6 Aa BX Aa Aa) (HW (AM (i:=2) Cf Aa Aa Aa) (HW (Nf (enc:=Af) (xs:=o.fKeys) (z:=([]:(List (Ai×Ac)))) (i:=5) WG CT Aby Dc Aa Aa Aa) ?_))))));exact Sh
 refine Dq (H1:=[.map hl (AL Ax ([]:List (Ai×Ac))),.blk ha [rB o.fMade,rv hf,rv (.map (some hd)),rv (.map (some hb)),rv he] 59,.blk b1 (B6 c) 34,.row hf 9 1 (AH eS o.fEvents),.map hd (AL Ar o.fResults),.map hb (AL Af o.fKeys),.row he 67 8 (AH Ad o.fPending)]) [43,44,45,46,47,48,49,0,3,9] ?_;refine ON Mb Aa Aa (λhs=>?_);refine Aw (AS ?_);have hO:=Vb hN;refine B4 (S:=(List (Ai×Ac))×((List (Ai×Ac)))×(Unit)) (V:=((List (Ai×Ac)))×(Unit)) 0 (λσ=>∀qo:List (Ai×Ac),qo.Perm σ.1→Bq (Rk (λpe τ=>Ib pe.1 pe.2 τ) qo σ.2.1) (BO λν=>Ez F o c ν)=some r) (λσ=>[(0,rP ha 0),(3,rP b1 0),(9,rv (.map (some hl))),(50,rP hs 0)]) (λσ=>[.itz hs (AL Ax (B2 o.fKeys c.fTenant ([]:(List (Ai×Ac))))) (AL Ax σ.1) none,.map hl (AL Ax σ.2.1),.blk ha [rB o.fMade,rv hf,rv (.map (some hd)),rv (.map (some hb)),rv he] 59,.blk b1 (B6 c) 34,.row hf 9 1 (AH eS o.fEvents),.map hd (AL Ar o.fResults),.map hb (AL Af o.fKeys),.row he 67 8 (AH Ad o.fPending)]) (λσ=>σ.1.length) (B2 o.fKeys c.fTenant ([]:(List (Ai×Ac))),([]:List (Ai×Ac)),()) hO (AG.c Aa (AG.c Aa (AG.c Aa (AG.c Aa AG.nil)))) (sC (sC (sC (sC (sC (sC (sC (sC sN)))))))) (λσ=>Ez F o c σ.1=some r) (λσ=>[(0,rP ha 0),(3,rP b1 0),(9,rv (.map (some hl)))]) (λσ=>[.map hl (AL Ax σ.1),.blk ha [rB o.fMade,rv hf,rv (.map (some hd)),rv (.map (some hb)),rv he] 59,.blk b1 (B6 c) 34,.row hf 9 1 (AH eS o.fEvents),.map hd (AL Ar o.fResults),.map hb (AL Af o.fKeys),.row he 67 8 (AH Ad o.fPending)]) ?_ ?_
 ·rintro⟨hP,ho,⟨⟩⟩ h2;refine GC ?_;refine Am (RJ (enc:=Ax) (ys:=hP) (i:=0) Aa Aa Aa (λhy=>?_) (λp h0 h4=>?_))
  ·have hQ:Ez F o c ho=some r:=Ss h2 hy;exact wv (A8 Aa Aa) (Aw (Ao (D9 Aa Aa (B3 (A9 (A9 (Bo (AE (ho,()) hQ (AG.c Aa (AG.c Aa (AG.c Aa AG.nil))) (sS (sC (sC (sC (sC (sC (sC (sC sN))))))))))))))))
  obtain⟨hq,hn⟩:=p;obtain⟨hR,ht,hS⟩:=Aas h2 h4;replace ht:Ib hq hn ho=some hR:=ht;unfold Ib at ht;refine U4 (H':=[.itz hs (AL Ax (B2 o.fKeys c.fTenant ([]:(List (Ai×Ac))))) (AL Ax h0) (some (hq,Ax hn)),.map hl (AL Ax ho),.blk ha [rB o.fMade,rv hf,rv (.map (some hd)),rv (.map (some hb)),rv he] 59,.blk b1 (B6 c) 34,.row hf 9 1 (AH eS o.fEvents),.map hd (AL Ar o.fResults),.map hb (AL Af o.fKeys),.row he 67 8 (AH Ad o.fPending)]) Aa (wv (A8 Aa Aa) (Aw (Ao (DE Aa Aa (A0 (AX (AS (Am (wv (r:=CZ [rS hq,BL (C5 hn)]) (Pq (i:=0) Aa Aa) (wv (A8 Aa Aa) (wv (A8 Aa Aa) (BZ (cs:=[rv (.slice none 0 0),AD 0]) WD Aa Aa (λhT=>?_)))))))))))));refine wa Aa (LZ (i:=0) Y9 Aa Aa Aa (Cm.c Aa) Aa Aa ?_);refine Aw (An (wm Aa (wm Aa (wv (Bi (i:=0) Tryz.isAgg90 Y9 Aa Aa Aa Aa) (Iz (enc:=Ax) (xs:=ho) (v:=hn) (i:=2) Mb CT Aa Aa Aa Aa (H':=[.blk hT (C5 hn) 90,.itz hs (AL Ax (B2 o.fKeys c.fTenant ([]:(List (Ai×Ac))))) (AL Ax h0) (some (hq,Ax hn)),.map hl (AL Ax (mset ho hq hn)),.blk ha [rB o.fMade,rv hf,rv (.map (some hd)),rv (.map (some hb)),rv he] 59,.blk b1 (B6 c) 34,.row hf 9 1 (AH eS o.fEvents),.map hd (AL Ar o.fResults),.map hb (AL Af o.fKeys),.row he 67 8 (AH Ad o.fPending)]) Aa (As (AK (WK.uncurz (i:=1) Aa ?_))))))));have hU:=Nn ht hS;exact Ay (AE (h0,mset ho hq hn,()) ⟨hU,Sd h4⟩ (AG.c Aa (AG.c Aa (AG.c Aa (AG.c Aa AG.nil)))) (sS (sC (sC (sC (sC (sC (sC (sC (sC sN))))))))))
 rintro⟨h5,⟨⟩⟩ hu;refine JZ ?_;replace hu:Ez F o c h5=some r:=hu;unfold Ez at hu;refine Bn (AX (Ao (Am (wm Aa (vF C6 Aa Kc (vL 2 MU Aa (ob hu λhi hV hW=>Dn [0] Tryz.call65 (ZU F hl h5 c.fEffects hi hV) ?_)))))));rintro _ _ ⟨rfl,rfl⟩;refine wa Aa (B0 (wm Aa (wv (BQ Aa Aa) (Aw (cz hW Aa (λhX hY=>?_) (λhX hZ=>?_))))))
 ·refine Am (wm Aa (wa Aa (wa Aa (Aw (A4 (Ae ?_))))));obtain rfl:=A7 hY;exact A3 (E3 MT (AR Aa) (AR Aa)) (sS (sC (sS (sC (sC (sC (sC sN))))))) ⟨hf,he,Aa,Aa⟩
 refine A0 (AX (Ao (Dr 7 [0,3,9] [⟨[],rP ha 0,none,none,none⟩,⟨[0],rP ha 0,none,none,none⟩,⟨[1],rP ha 3,none,none,none⟩,⟨[2],rv (.map (some hb)),none,none,none⟩,⟨[],rP b1 1,none,none,none⟩,⟨[4],rS c.fTenant,none,none,none⟩,⟨[],rv (.map (some hl)),none,none,none⟩] ?_ (λβ=>?_))))
 ·refine Do (Aj Aa) (Do (A6 Aa) (Do (Au GF Aa WH Aa Aa) (HW (AM (i:=1) WP Aa Aa Aa) (Do (Au C6 Aa BX Aa Aa) (HW (AM (i:=2) Cf Aa Aa Aa) (Do (Aj Aa) ?_))))));exact Sh
 refine Dq (H1:=[.map hl (AL Ax hi.2),.blk ha [rB o.fMade,rv hf,rv (.map (some hd)),rv (.map (some hb)),rv he] 59,.blk b1 (B6 c) 34,.row hf 9 1 (AH eS o.fEvents),.map hd (AL Ar o.fResults),.map hb (AL Af o.fKeys),.row he 67 8 (AH Ad o.fPending)]) [66,67,68,69,70,71,72,0,3,9] ?_;refine WL.freezeM (i:=0) Aa (WL.up (d:=72) (r:=NJ (AL Ax hi.2)) Aa (Up.fact (i:=0) Aa) (Iz (enc:=Af) (xs:=o.fKeys) (v:=hi.2) (i:=5) WG CT Aa Aa Aa Aa (H':=[.fact (.map (some hl)) (NJ (AL Ax hi.2)),.blk ha [rB o.fMade,rv hf,rv (.map (some hd)),rv (.map (some hb)),rv he] 59,.blk b1 (B6 c) 34,.row hf 9 1 (AH eS o.fEvents),.map hd (AL Ar o.fResults),.map hb (AL Af (mset o.fKeys c.fTenant hi.2)),.row he 67 8 (AH Ad o.fPending)]) Aa (Aw (Ao (ck hZ λga gb=>Exists.elim P9 λinf hinf=>OL 9 8 [0,3] [] [{ deps:=[],r:=λ_=>rP ha 0 },{ deps:=[],r:=λ_=>rP ha 0 },{ deps:=[1],r:=λ_=>rP ha 0 },{ deps:=[2],r:=λ_=>rP ha 1 },{ deps:=[3],r:=λ_=>rv hf },{ deps:=[],r:=λ_=>rP b1 0 },{ deps:=[5],r:=λ_=>rS c.fEvent },{ deps:=[6],r:=λ_=>Br 1 (AH eS ([c.fEvent]:List Ai)) },{ deps:=[4,7],r:=λhg=>rv hg,dyn:=true }] (λhg=>[.row hg 9 1 (AH eS (o.fEvents++([c.fEvent]:List Ai))),.fact (.map (some hl)) (NJ (AL Ax hi.2)),.blk ha [rB o.fMade,rv hf,rv (.map (some hd)),rv (.map (some hb)),rv he] 59,.blk b1 (B6 c) 34,.map hd (AL Ar o.fResults),.map hb (AL Af (mset o.fKeys c.fTenant hi.2)),.row he 67 8 (AH Ad o.fPending)]) ?_ (λhg=>?_))))))
 ·refine Ka (Aj Aa) (Ka (Aj Aa) (Ka (A6 Aa) (Ka (Au GF Aa IN Aa Aa) (VW (fun {hg}=>Es (AM (i:=1) Od Aa Aa Aa)) (fun {hg}=>Es (AM (i:=2) Od Aa Aa Aa)) (Ka (Au C6 Aa BX Aa Aa) (VW (fun {hg}=>Es (AM (i:=2) Cf Aa Aa Aa)) (fun {hg}=>Es (AM (i:=3) Cf Aa Aa Aa)) (oxc (C4 (ys:=([c.fEvent]:List Ai)) (enc:=eS) (css:=[[rS c.fEvent]]) (xs:=[.tmp 79]) CD BX V4 Aa Aa Aa ⟨E4.one Aa (Up.refl _),trivial⟩ Aa DC Aa Aa) (oxx (Kd (xs:=o.fEvents) (ys:=([c.fEvent]:List Ai)) (enc:=eS) (i:=3) CD hinf.1 hinf.2.1 hinf.2.2.1 hinf.2.2.2 Aa Aa Aa Aa Aa (JG.z Aa Aa) DC LR ga) ?_))))))));exact oxe
 refine Dq (H1:=[.row hg 9 1 (AH eS (o.fEvents++([c.fEvent]:List Ai))),.fact (.map (some hl)) (NJ (AL Ax hi.2)),.blk ha [rB o.fMade,rv hf,rv (.map (some hd)),rv (.map (some hb)),rv he] 59,.blk b1 (B6 c) 34,.map hd (AL Ar o.fResults),.map hb (AL Af (mset o.fKeys c.fTenant hi.2)),.row he 67 8 (AH Ad o.fPending)]) [73,74,75,76,77,78,79,80,81,0,3] ?_;refine wv (A6 Aa) (vF GF Aa IN (us (i:=2) IN Aa Aa (C2 (i:=0) Aa) Aa Aa ?_));refine Aw (Ao (ob gb λhm gc gd=>Dr 9 [0,3] [⟨[],rP ha 0,none,none,none⟩,⟨[0],rP ha 0,none,none,none⟩,⟨[1],rP ha 2,none,none,none⟩,⟨[2],rv (.map (some hd)),none,none,none⟩,⟨[],rP b1 0,none,none,none⟩,⟨[4],rS c.fEvent,none,none,none⟩,⟨[],rP b1 3,none,none,none⟩,⟨[6],Br 4 (AH Ah c.fResult),none,none,none⟩,⟨[7],Br 4 (AH Ah hm),none,none,none⟩] ?_ (λβ=>?_)))
 ·refine Do (Aj Aa) (Do (A6 Aa) (Do (Au GF Aa YA Aa Aa) (HW (AM (i:=2) YM Aa Aa Aa) (Do (Au C6 Aa BX Aa Aa) (HW (AM (i:=3) Cf Aa Aa Aa) (Do (Au C6 Aa CR Aa Aa) (HW (AM (i:=3) EC Aa Aa Aa) (NL (G0 U1 (Ij c.fResult hm gc) Aa) ?_))))))));exact Sh
 refine Dq (H1:=[.row hg 9 1 (AH eS (o.fEvents++([c.fEvent]:List Ai))),.fact (.map (some hl)) (NJ (AL Ax hi.2)),.blk ha [rB o.fMade,rv hg,rv (.map (some hd)),rv (.map (some hb)),rv he] 59,.blk b1 (B6 c) 34,.map hd (AL Ar o.fResults),.map hb (AL Af (mset o.fKeys c.fTenant hi.2)),.row he 67 8 (AH Ad o.fPending)]) [84,85,86,87,88,89,90,91,92,0,3] ?_;refine Iz (enc:=Ar) (xs:=o.fResults) (v:=hm) (i:=4) Y8 CT Aa Aa Aa Aa (H':=[.row hg 9 1 (AH eS (o.fEvents++([c.fEvent]:List Ai))),.fact (.map (some hl)) (NJ (AL Ax hi.2)),.blk ha [rB o.fMade,rv hg,rv (.map (some hd)),rv (.map (some hb)),rv he] 59,.blk b1 (B6 c) 34,.map hd (AL Ar (mset o.fResults c.fEvent hm)),.map hb (AL Af (mset o.fKeys c.fTenant hi.2)),.row he 67 8 (AH Ad o.fPending)]) Aa (Aw (Ao (Am (vF C6 Aa Kc (vL 3 MU Aa (wv (Bx (ys:=c.fEffects) (enc:=Av) Hy Aa) (wv (r:=AD 0) (Aj Aa) (Aw (AS (ob gd λge gf gg=>B4 (S:=Nat×(Int×(List Ak))×(Value)) (V:=((List Ak))×(Value)) 2 (λσ=>Ci (λσ=>E0 c σ.1 σ.2) σ.1 σ.2.1=some ge) (λσ=>[(0,rP ha 0),(3,rP b1 0),(94,Br 4 (AH Av c.fEffects)),(95,AD (c.fEffects.length:Int)),(96,AD σ.2.1.1)]) (λσ=>[.row hg 9 1 (AH eS (o.fEvents++([c.fEvent]:List Ai))),.blk ha [rB o.fMade,rv hg,rv (.map (some hd)),rv (.map (some hb)),rv σ.2.2] 59,.blk b1 (B6 c) 34,.map hd (AL Ar (mset o.fResults c.fEvent hm)),.map hb (AL Af (mset o.fKeys c.fTenant hi.2)),.row σ.2.2 67 8 (AH Ad σ.2.1.2)]) (λσ=>σ.1) (F,(0,o.fPending),he) gf (AG.c5 Aa Aa Aa Aa Aa AG.nil) (sC (sS (sC (sC (sC (sC (sC sN))))))) (λσ=>Ia o c hi hm σ.1=some r) (λσ=>[]) (λσ=>[.row hg 9 1 (AH eS (o.fEvents++([c.fEvent]:List Ai))),.blk ha [rB o.fMade,rv hg,rv (.map (some hd)),rv (.map (some hb)),rv σ.2] 59,.map hd (AL Ar (mset o.fResults c.fEvent hm)),.map hb (AL Af (mset o.fKeys c.fTenant hi.2)),.row σ.2 67 8 (AH Ad σ.1)]) ?_ ?_))))))))))
 ·rintro⟨gC,⟨hh,hp⟩,hr⟩ gh;refine GC ?_;obtain⟨gi,rfl,h1,hw,h8⟩:=Di gh;replace hw:E0 c hh hp=some h1:=hw;unfold E0 at hw;refine Am (wv (Dh Aa Aa) (Aw (Ao (cz hw Aa (λgj gl=>?_) (λgj gm=>?_)))))
  ·refine A0 (AX (Cn (S:=((List Ak))×(Value)) (λσ=>GN hh σ.1=some h1) (λσ=>[(0,rP ha 0),(3,rP b1 0),(94,Br 4 (AH Av c.fEffects)),(95,AD (c.fEffects.length:Int)),(96,AD hh)]) (λσ=>[.row hg 9 1 (AH eS (o.fEvents++([c.fEvent]:List Ai))),.blk ha [rB o.fMade,rv hg,rv (.map (some hd)),rv (.map (some hb)),rv σ.2] 59,.blk b1 (B6 c) 34,.map hd (AL Ar (mset o.fResults c.fEvent hm)),.map hb (AL Af (mset o.fKeys c.fTenant hi.2)),.row σ.2 67 8 (AH Ad σ.1)]) ?_ ?_))
   ·refine AS (Am (wm Aa (ck gl λgp gq=>wv (AW (enc:=Av) (ys:=c.fEffects) Hy Dj Aa Aa gp) (wv (Dm Is Dj Aa Aa Aa) (BZ (cs:=[AD 0,rS ([]:Ai),rv (.slice none 0 0),AD 0]) L7 Aa Aa (λhA=>?_))))));refine wa Aa (LZ (i:=0) Dj Aa Aa Aa (Cm.c Aa) Aa Aa ?_);refine B0 (vF Cv Aa Hk (vL 0 Hl Aa (ob gq λgr gs gt=>DI Tryz.call66 (I2 ((Aq c.fEffects hh).fKind) gr gs) Aa (Aw (cz gt Aa (λgu gv=>?_) (λgu gw=>?_))))))
    ·refine Am (vF C6 Aa BX (vL 3 Cf Aa (wm Aa (ck gv λgx gy=>ck gy λgz g0=>Ds (rs:=[rS c.fEvent,AD hh]) (r:=CZ [rS (BK c.fEvent hh),AD (C1 c.fEvent hh)]) Tryz.call67 Aa (O9 c.fEvent hh gx gz) Aa Aa (wm Aa (wv (A8 Aa Aa) (wv (A8 Aa Aa) (wa Aa (wa Aa (Aw (ob g0 λhj g1 g2=>ck g2 λg3 g4=>Exists.elim PA λinf hinf=>OL 17 16 [0,3,14,15,94,95,96] [] [{ deps:=[],r:=λ_=>rP ha 0 },{ deps:=[],r:=λ_=>rP ha 0 },{ deps:=[1],r:=λ_=>rP ha 0 },{ deps:=[2],r:=λ_=>rP ha 4 },{ deps:=[3],r:=λ_=>rv hr },{ deps:=[],r:=λ_=>rS (BK c.fEvent hh) },{ deps:=[],r:=λ_=>rP b1 1 },{ deps:=[6],r:=λ_=>rS c.fTenant },{ deps:=[],r:=λ_=>rP b1 0 },{ deps:=[8],r:=λ_=>rS c.fEvent },{ deps:=[],r:=λ_=>rP b1 5 },{ deps:=[10],r:=λ_=>AD c.fAt },{ deps:=[],r:=λ_=>BL (Av (Aq c.fEffects hh)) },{ deps:=[12],r:=λ_=>BL (Av hj) },{ deps:=[5,7,9,11,13],r:=λ_=>BL [rS (BK c.fEvent hh),rS c.fTenant,rS c.fEvent,AD c.fAt,AD hj.fKind,rS hj.fKey,Br 4 (AH Ah hj.fValue),AD hj.fDelay] },{ deps:=[14],r:=λ_=>Br 8 (AH Ad ([(Ak.mk (BK c.fEvent hh) c.fTenant c.fEvent c.fAt hj)]:List Ak)) },{ deps:=[4,15],r:=λhk=>rv hk,dyn:=true }] (λhk=>[.row hk 67 8 (AH Ad (hp++([(Ak.mk (BK c.fEvent hh) c.fTenant c.fEvent c.fAt hj)]:List Ak))),.blk hA (Av (Aq c.fEffects hh)) 65,.row hg 9 1 (AH eS (o.fEvents++([c.fEvent]:List Ai))),.blk ha [rB o.fMade,rv hg,rv (.map (some hd)),rv (.map (some hb)),rv hr] 59,.blk b1 (B6 c) 34,.map hd (AL Ar (mset o.fResults c.fEvent hm)),.map hb (AL Af (mset o.fKeys c.fTenant hi.2))]) ?_ (λhk=>?_))))))))))))
     ·refine Ka (Aj Aa) (Ka (Aj Aa) (Ka (A6 Aa) (Ka (Au GF Aa OE Aa Aa) (VW (fun {hk}=>Es (AM (i:=2) U3 Aa Aa Aa)) (fun {hk}=>Es (AM (i:=3) U3 Aa Aa Aa)) (Ka (Aj Aa) (Ka (Au C6 Aa BX Aa Aa) (VW (fun {hk}=>Es (AM (i:=3) Cf Aa Aa Aa)) (fun {hk}=>Es (AM (i:=4) Cf Aa Aa Aa)) (Ka (Au C6 Aa BX Aa Aa) (VW (fun {hk}=>Es (AM (i:=3) Cf Aa Aa Aa)) (fun {hk}=>Es (AM (i:=4) Cf Aa Aa Aa)) (Ka (Au C6 Aa Cy Aa Aa) (VW (fun {hk}=>Es (AM (i:=3) CO Aa Aa Aa)) (fun {hk}=>Es (AM (i:=4) CO Aa Aa Aa)) (VW (fun {hk}=>Es (Bi (i:=0) Is Dj Aa Aa Aa Aa)) (fun {hk}=>Es (Bi (i:=1) Is Dj Aa Aa Aa Aa)) (oxc (G0 Tryz.call44 (US (Aq c.fEffects hh) hj g1) Aa) (Ka (Hv Aa Aa Aa Aa Aa Aa Aa Aa Aa) (oxc (C4 (ys:=([(Ak.mk (BK c.fEvent hh) c.fTenant c.fEvent c.fAt hj)]:List Ak)) (enc:=Ad) (css:=[[rS (BK c.fEvent hh),rS c.fTenant,rS c.fEvent,AD c.fAt,AD hj.fKind,rS hj.fKey,Br 4 (AH Ah hj.fValue),AD hj.fDelay]]) (xs:=[.tmp 125]) BY Cr WE Aa Aa Aa ⟨E4.agg ⟨Up.refl _,Up.refl _,Up.refl _,Up.refl _,Up.refl _,Up.refl _,Up.refl _,Up.refl _,trivial⟩,trivial⟩ Aa Cp Aa Aa) (oxx (Kd (xs:=hp) (ys:=([(Ak.mk (BK c.fEvent hh) c.fTenant c.fEvent c.fAt hj)]:List Ak)) (enc:=Ad) (i:=6) BY hinf.1 hinf.2.1 hinf.2.2.1 hinf.2.2.2 Aa Aa Aa Aa Aa (JG.z Aa Aa) Cp DB g3) ?_))))))))))))))));exact oxe
     refine Dq (H1:=[.row hk 67 8 (AH Ad (hp++([(Ak.mk (BK c.fEvent hh) c.fTenant c.fEvent c.fAt hj)]:List Ak))),.blk hA (Av (Aq c.fEffects hh)) 65,.row hg 9 1 (AH eS (o.fEvents++([c.fEvent]:List Ai))),.blk ha [rB o.fMade,rv hg,rv (.map (some hd)),rv (.map (some hb)),rv hr] 59,.blk b1 (B6 c) 34,.map hd (AL Ar (mset o.fResults c.fEvent hm)),.map hb (AL Af (mset o.fKeys c.fTenant hi.2))]) [111,112,113,114,115,116,117,118,119,120,121,122,123,124,125,126,127,0,3,14,15,94,95,96] ?_;refine wv (A6 Aa) (vF GF Aa OE (us (i:=3) OE Aa Aa (C2 (i:=0) Aa) Aa Aa ?_));refine As (AK (Gx [2,2,2,2,2] ?_));exact Ay (AE (hp++([(Ak.mk (BK c.fEvent hh) c.fTenant c.fEvent c.fAt hj)]:List Ak),hk) g4 (AG.c5 Aa Aa Aa Aa Aa AG.nil) (sC (sC (sC (sC (sC (sC (sS sN))))))))
    exact A0 (AK (Ay (AE (hp,hr) gw (AG.c5 Aa Aa Aa Aa Aa AG.nil) (sS (sC (sC (sC (sC (sC (sC sN))))))))))
   rintro⟨hB,g5⟩ hx;refine GC ?_;replace hx:GN hh hB=some h1:=hx;unfold GN at hx;refine An (ck hx λg6 g7=>wv (BW Aa Aa g6) (wm Aa (As ?_)));have g8:=B9 g7 h8;exact Ay (AE (gi,(hh+1,hB),g5) ⟨g8,AfV _⟩ (AG.c5 Aa Aa Aa Aa Aa AG.nil) (sC (sC (sC (sC (sC (sC sN)))))))
  refine B3 (A9 ?_);have g9:=Cw gm h8 gg;exact A9 (Bo (AE (hp,hr) g9 AG.nil (sC (sC (sS (sC (sC (sC sN))))))))
 rintro⟨gA,gB⟩ hz;refine JZ ?_;replace hz:Ia o c hi hm gA=some r:=hz;unfold Ia at hz;refine Bn (AX (Am (wa Aa (wa Aa (Aw (A4 (Gx [1] ?_)))))));obtain rfl:=A7 hz;exact A3 (E3 MT (AR Aa) (AR Aa)) (sC (sC (sC (sC (sC sN))))) ⟨hg,gB,Aa,Aa⟩
theorem DU (F:Nat)(hg:Nat)(ha:Value)(he:Nat)(hf:Nat)(hb:Value)(o:Al)(rc:Ai)(r:Int×Al)(h:EK F o rc=some r):Fn Tryz.prog GE 33 [rP hg 0,rS rc] [.blk hg [rB o.fMade,rv ha,rv (.map (some he)),rv (.map (some hf)),rv hb] 59,.row ha 9 1 (AH eS o.fEvents),.map he (AL Ar o.fResults),.map hf (AL Af o.fKeys),.row hb 67 8 (AH Ad o.fPending)] (λR H=>∃w0_1:Value,∃w0_4:Value,R=AD r.1∧H=[.blk hg [rB r.2.fMade,rv w0_1,rv (.map (some he)),rv (.map (some hf)),rv w0_4] 59,.row w0_1 9 1 (AH eS r.2.fEvents),.map he (AL Ar r.2.fResults),.map hf (AL Af r.2.fKeys),.row w0_4 67 8 (AH Ad r.2.fPending)]):=by
 refine enter (n:=107) Tryz.func33 Aa Tryz.ntmps33 Aa (λw Z=>?_);unfold EK at h;refine Am (wa Aa (Aw (Ao (Am (wm Aa (ob h λr1 e3 h2=>Dn [0] RG (Hb hg ha he hf hb o r1 e3) ?_))))));rintro _ _ ⟨rfl,rfl⟩;refine wv (BT Aa) (Aw (cz h2 Aa (λc4 h5=>?_) (λc4 h6=>?_)))
 ·refine Am (wa Aa (Aw (A4 (Ae ?_))));obtain rfl:=A7 h5;exact A3 (Ch WJ (AR Aa)) (sC (sC (sC (sC (sC sN))))) ⟨ha,hb,Aa,Aa⟩
 refine A0 (AX (Am (wm Aa (ob h6 λr7 e9 h8=>DI Tryz.call62 (AaG F rc r7 e9) Aa (wm Aa (wv (A8 Aa Aa) (wv (A8 Aa Aa) (wa Aa (wa Aa (B0 (wa Aa (Aw (Ao (Am (wm Aa (wv (Bx (ys:=r7.1) (enc:=eS) CD Aa) (wv (r:=AD 0) (Aj Aa) (Aw (AS (WC.nilrow (e:=42) (sz:=1) (Hz (H2:=[.blk hg [rB o.fMade,rv ha,rv (.map (some he)),rv (.map (some hf)),rv hb] 59,.row ha 9 1 (AH eS o.fEvents),.map he (AL Ar o.fResults),.map hf (AL Af o.fKeys),.row hb 67 8 (AH Ad o.fPending),.row (.slice none 0 0                                          ) 42 1 (AH BS ([]:List (List Ai)))]) ((AP (i:=1) Aa).trans (AfQ _ ((AP (i:=1) Aa).trans (AfQ _ ((AP (i:=1) Aa).trans (AfQ _ ((AP (i:=1) Aa).trans (AfQ _ ((AP (i:=1) Aa).trans (AfQ _ (AfX _))))))))))) (ob h8 λh0 h1 hw=>?_))))))))))))))))))))));refine B4 (S:=Nat×((List (List Ai))×Int)×(Value)) (V:=((List (List Ai)))×(Value)) 0 (λσ=>Ci (λσ=>Hc F o r7 σ.1 σ.2) σ.1 σ.2.1=some h0) (λσ=>[(0,rP hg 0),(1,rS rc),(7,rv σ.2.2),(28,Br 1 (AH eS r7.1)),(29,AD (r7.1.length:Int)),(30,AD σ.2.1.2)]) (λσ=>[.blk hg [rB o.fMade,rv ha,rv (.map (some he)),rv (.map (some hf)),rv hb] 59,.row ha 9 1 (AH eS o.fEvents),.map he (AL Ar o.fResults),.map hf (AL Af o.fKeys),.row hb 67 8 (AH Ad o.fPending),.row σ.2.2 42 1 (AH BS σ.2.1.1)]) (λσ=>σ.1) (F,(([]:List (List Ai)),0),(.slice none 0 0                                          )) h1 (AG.c Aa (AG.c5 Aa Aa Aa Aa Aa AG.nil)) (sC (sC (sC (sC (sC (sC sN)))))) (λσ=>HX F o rc σ.1=some r) (λσ=>[(0,rP hg 0),(1,rS rc),(7,rv σ.2)]) (λσ=>[.blk hg [rB o.fMade,rv ha,rv (.map (some he)),rv (.map (some hf)),rv hb] 59,.row ha 9 1 (AH eS o.fEvents),.map he (AL Ar o.fResults),.map hf (AL Af o.fKeys),.row hb 67 8 (AH Ad o.fPending),.row σ.2 42 1 (AH BS σ.1)]) ?_ ?_
 ·rintro⟨gw,⟨hn,ht⟩,v46⟩ h3;refine GC ?_;obtain⟨h4,rfl,t70,ho,hu⟩:=Di h3;replace ho:Hc F o r7 hn ht=some t70:=ho;unfold Hc at ho;refine Am (wv (Dh Aa Aa) (Aw (Ao (cz ho Aa (λc76 h7=>?_) (λc76 h9=>?_)))))
  ·refine A0 (AX (Ao (AS (Am (ck h7 λhA hB=>wv (AW (enc:=eS) (ys:=r7.1) CD BX Aa Aa hA) (wv (AJ Cf Aa Aa) (wa Aa (B0 (wm Aa (ob hB λhm hC hD=>DI Tryz.call63 (XY F (Aq r7.1 ht) hm hC) Aa (wm Aa (wv (A8 Aa Aa) (wv (A8 Aa Aa) (wa Aa (wa Aa (Aw (Ao (Am (wm Aa (wv (BQ Aa Aa) (Aw ?_)))))))))))))))))))));refine cz hD Aa (λhE hG=>?_) (λhE hH=>?_)
   ·refine Am (wa Aa (Aw (A4 (Ae (AB (Ae (Ae (Be ?_))))))));have hI:=B1 hG hu hw;refine AB (Ae ?_);obtain rfl:=A7 hI;exact A3 (Ch WJ (AR Aa)) (sC (sC (sC (sC (sC (sS sN)))))) ⟨ha,hb,Aa,Aa⟩
   refine A0 (AX (An (wm Aa (wm Aa (Bf (ys:=([hm.1]:List (List Ai))) (enc:=BS) (css:=[[Br 1 (AH eS hm.1)]]) (xs:=[.tmp 42]) Kb IN WF Aa Aa Aa ⟨E4.one Aa (Up.refl _),trivial⟩ Aa DX Aa Aa Aa (λgx=>?_))))));refine ck hH λhJ hK=>Exists.elim Vj λinf hinf=>Cc (xs:=hn) (ys:=([hm.1]:List (List Ai))) (enc:=BS) (i:=6) Kb hinf.1 hinf.2.1 hinf.2.2.1 hinf.2.2.2 Aa Aa Aa Aa Aa (JG.w (i:=0) Aa Aa) DX LS hJ Aa (λhL=>?_);refine wa Aa (As (AK (AX (An (ck hK λhN hO=>wv (BW Aa Aa hN) (wm Aa (As (Gx [2,2,2,2,2] ?_))))))));have hP:=B9 hO hu;exact Ay (AE (h4,(hn++([hm.1]:List (List Ai)),ht+1),hL) ⟨hP,AfV _⟩ (AG.c Aa (AG.c5 Aa Aa Aa Aa Aa AG.nil)) (sC (sC (sC (sC (sC (sC (sS sN))))))))
  refine B3 (A9 ?_);have hQ:=Cw h9 hu hw;exact A9 (Bo (AE (hn,v46) hQ (AG.c Aa (AG.c Aa (AG.c Aa AG.nil))) (sC (sC (sC (sC (sC (sC sN))))))))
 rintro⟨hd,hk⟩ hp;refine JZ ?_;replace hp:HX F o rc hd=some r:=hp;unfold HX at hp;refine Bn (AX (Ao (ck hp λhx hR=>AV [(0,rP hg 0),(1,rS rc),(7,rv hk),(55,rB ((decide ((hd.length:Int)=1))&&(decide (((Aq hd 0).length:Int)=2))))] [.blk hg [rB o.fMade,rv ha,rv (.map (some he)),rv (.map (some hf)),rv hb] 59,.row ha 9 1 (AH eS o.fEvents),.map he (AL Ar o.fResults),.map hf (AL Af o.fKeys),.row hb 67 8 (AH Ad o.fPending),.row hk 42 1 (AH BS hd)] ?_ ?_)))
 ·refine An (wm Aa (wv (Ca (ys:=hd) (enc:=BS) (i:=5) Kb Aa Aa) (wv (BR Aa Aa) (wm Aa (AY (decide ((hd.length:Int)=1)) (λhh=>?_) (λhh=>?_))))))
  ·refine wo hh (wm Aa (wo hh (wv (r:=rv (Gd 1 hk (BC 0) 0)) (Eu (i:=5) Kb IN Aa Aa Aa (BE (Gt hx hh))) (wo hh (wv (r:=Br 1 (AH eS (Aq hd 0))) (Hm (enc:=BS) (ys:=hd) (i:=5) (j:=0) Od Aa Aa (Gt hx hh) Aa) (wo hh (wv (Bx (ys:=Aq hd 0) (enc:=eS) CD Aa) (wo hh (wv (BR Aa Aa) (It Aa hh Aa (As ?_)))))))))));exact CI hh
  refine wf hh (wf hh (wf hh (wf hh (wf hh (wv (r:=rB false) (A2 Aa hh Aa) (As ?_))))));exact CI hh
 refine cz hR Aa (λhS hT=>?_) (λhS hU=>?_)
 ·refine Ao (Am (wm Aa (ck hT λhq hV=>wv (r:=rv (Gd 1 hk (BC 0) 0)) (Eu (i:=5) Kb IN Aa Aa Aa (BE hq)) (wv (r:=Br 1 (AH eS (Aq hd 0))) (Hm (enc:=BS) (ys:=hd) (i:=5) (j:=0) Od Aa Aa hq Aa) (ck hV λhy hW=>wv (AW (enc:=eS) (ys:=Aq hd 0) CD BX Aa Aa hy) (wv (AJ Cf Aa Aa) (ob hW λhr hX hY=>DI YI (G1 F (Aq (Aq hd 0) 1) hr hX) Aa (wm Aa (wv (A8 Aa Aa) (wv (A8 Aa Aa) (wa Aa (wa Aa (Aw (AV [(0,rP hg 0),(7,rv hk),(71,rB ((!decide (hr.2=0))||(!decide (hr.1=rc))))] [.blk hg [rB o.fMade,rv ha,rv (.map (some he)),rv (.map (some hf)),rv hb] 59,.row ha 9 1 (AH eS o.fEvents),.map he (AL Ar o.fResults),.map hf (AL Af o.fKeys),.row hb 67 8 (AH Ad o.fPending),.row hk 42 1 (AH BS hd)] ?_ ?_))))))))))))))
  ·refine An (wm Aa (wv (BQ Aa Aa) (wm Aa (AY (!decide (hr.2=0)) (λhi=>?_) (λhi=>?_)))))
   ·refine wf hi (wf hi (wf hi (wv (r:=rB true) (A5 Aa hi Aa) (As ?_))));exact CI hi
   refine wo hi (wm Aa (wo hi (wm Aa (wo hi (wv (CQ Aa Aa) (G9 Aa hi Aa (As ?_)))))));exact CI hi
  refine cz hY Aa (λhZ ga=>?_) (λhZ gb=>?_)
  ·refine Am (wa Aa (Aw (A4 (Ae (Ae ?_)))));obtain rfl:=A7 ga;exact A3 (Ch WJ (AR Aa)) (sC (sC (sC (sC (sC (sS sN)))))) ⟨ha,hb,Aa,Aa⟩
  refine A0 (AX (Am (wm Aa (wm Aa (wv (r:=rv (Gd 1 hk (BC 0) 0)) (Eu (i:=5) Kb IN Aa Aa Aa (BE hq)) (wv (r:=Br 1 (AH eS (Aq hd 0))) (Hm (enc:=BS) (ys:=hd) (i:=5) (j:=0) Od Aa Aa hq Aa) (wv (AW (enc:=eS) (ys:=Aq hd 0) CD BX Aa Aa hy) (wv (AJ Cf Aa Aa) (ob gb λgc gd ge=>Dn [0,0,0,0,0] YG (Px F hg ha he hf hb o (Aq (Aq hd 0) 1) gc gd) ?_)))))))));rintro _ _ ⟨gf,gg,rfl,rfl⟩;refine B0 (wa Aa (Aw (A4 (Ae ?_))));obtain rfl:=A7 ge;exact A3 (Ch WJ (AR Aa)) (sC (sC (sC (sC (sC (sS sN)))))) ⟨gf,gg,Aa,Aa⟩
 refine A0 (AX (Am (wm Aa (WL.freeze (i:=5) Aa (WL.up (d:=80) (r:=Br 1 (AH BS hd)) Aa (Up.fact (i:=0) Aa) (ob hU λhl gh gi=>DI Tryz.call64 (Xz F hd hl gh) Aa (wm Aa (wv (A8 Aa Aa) (wv (A8 Aa Aa) (BZ (cs:=[rS ([]:Ai),rS ([]:Ai),AD 0,rv (.slice none 0 0),rv (.slice none 0 0),AD 0]) Abz Aa Aa (λhz=>?_)))))))))));refine LZ (i:=0) DM Aa Aa Aa (Cm.c Aa) Aa Aa ?_;refine wa Aa (Aw (Ao (Am (wv (Bi (i:=0) GG DM Aa Aa Aa Aa) (ob gi λhs gj gl=>DI YK (KV F hl.1 hs gj) Aa (wm Aa (wv (A8 Aa Aa) (wv (A8 Aa Aa) (wa Aa (wa Aa (Aw (AV [(0,rP hg 0),(14,rP hz 0),(99,rB ((!hl.2)||((!decide (hs.2=0))||(!decide (hs.1=rc)))))] [.blk hz (B6 hl.1) 34,.blk hg [rB o.fMade,rv ha,rv (.map (some he)),rv (.map (some hf)),rv hb] 59,.row ha 9 1 (AH eS o.fEvents),.map he (AL Ar o.fResults),.map hf (AL Af o.fKeys),.row hb 67 8 (AH Ad o.fPending)] ?_ ?_))))))))))))
 ·refine An (wm Aa (wv (BT Aa) (wm Aa (AY (!hl.2) (λhj=>?_) (λhj=>?_)))))
  ·refine wf hj (wf hj (wv (r:=rB true) (A5 Aa hj Aa) (wm Aa (wz Aa Aa (wz Aa Aa (wz Aa Aa (wv (r:=rB true) (A5 (b:=true) Aa Aa Aa) (As ?_))))))));exact CI hj
  refine wo hj (wm Aa (wo hj (wv (BQ Aa Aa) (G9 Aa hj Aa (wm Aa (AY (!decide (hs.2=0)) (λc127=>?_) (λc127=>?_)))))))
  ·refine wf c127 (wf c127 (wf c127 (wv (r:=rB true) (A5 Aa c127 Aa) (As ?_))));exact CI (And.intro hj c127)
  refine wo c127 (wm Aa (wo c127 (wm Aa (wo c127 (wv (CQ Aa Aa) (G9 Aa c127 Aa (As ?_)))))));exact CI (And.intro hj c127)
 refine cz gl Aa (λgm gp=>?_) (λgm gq=>?_)
 ·refine Am (wa Aa (Aw (A4 (Ae ?_))));obtain rfl:=A7 gp;exact A3 (Ch WJ (AR Aa)) (sS (sC (sC (sC (sC (sC sN)))))) ⟨ha,hb,Aa,Aa⟩
 refine A0 (AX (Am (wm Aa (wv (Bi (i:=0) GG DM Aa Aa Aa Aa) (ob gq λgr gs gt=>Dn [1,1,1,1,1] YH (QX F hg ha he hf hb o hl.1 gr gs) ?_)))));rintro _ _ ⟨gu,gv,rfl,rfl⟩;refine wm Aa (wv (A8 Aa Aa) (wv (A8 Aa Aa) (wa Aa (wa Aa (B0 (wm Aa (wa Aa (Aw (A4 ?_)))))))));obtain rfl:=A7 gt;exact A3 (Ch WJ (AR Aa)) (sC (sC (sC (sC (sC (sS sN)))))) ⟨gu,gv,Aa,Aa⟩
theorem Wj (F:Nat)(hd:Nat)(he:Value)(ha:Nat)(hb:Nat)(hf:Value)(o:Al)(x:Bl)(r:Bool×Int×Al)(h:M9 F o x=some r):Fn Tryz.prog GE 11 [rP hd 0,BL (Bc x)] [.blk hd [rB o.fMade,rv he,rv (.map (some ha)),rv (.map (some hb)),rv hf] 59,.row he 9 1 (AH eS o.fEvents),.map ha (AL Ar o.fResults),.map hb (AL Af o.fKeys),.row hf 67 8 (AH Ad o.fPending)] (λR H=>∃w0_1:Value,∃w0_4:Value,R=CZ [rB r.1,AD r.2.1]∧H=[.blk hd [rB r.2.2.fMade,rv w0_1,rv (.map (some ha)),rv (.map (some hb)),rv w0_4] 59,.row w0_1 9 1 (AH eS r.2.2.fEvents),.map ha (AL Ar r.2.2.fResults),.map hb (AL Af r.2.2.fKeys),.row w0_4 67 8 (AH Ad r.2.2.fPending)]):=by
 refine enter (n:=58) Tryz.func11 Aa Tryz.ntmps11 Aa (λw Z=>?_);unfold M9 at h;refine Am (CN Aa Aa (λb1=>?_));refine wa Aa (wa Aa (Aw (Ao (Am (vF Ir Aa Cy (vL 0 CO Aa (wv (BR Aa Aa) (Aw (cz h Aa (λc2 h3=>?_) (λc2 h9=>?_))))))))))
 ·refine Am (wm Aa (vF Ir Aa DM (wv (Bi (i:=0) GG DM Aa Aa Aa Aa) (ob h3 λr4 e6 h5=>Dn [1,1,1,1,1] YH (QX F hd he ha hb hf o x.fC r4 e6) ?_))));rintro _ _ ⟨v7,v8,rfl,rfl⟩;refine wv (A8 Aa Aa) (wv (A8 Aa Aa) (wa Aa (wa Aa (Aw (A4 (Ae ?_))))));obtain rfl:=A7 h5;exact A3 (E3 WM (AR Aa) (AR Aa)) (sC (sC (sC (sC (sC (sS sN)))))) ⟨v7,v8,Aa,Aa⟩
 refine A0 (AX (Ao (Am (vF Ir Aa Cy (vL 0 CO Aa (wv (BR Aa Aa) (Aw (cz h9 Aa (λhk hl=>?_) (λhk hm=>?_)))))))))
 ·refine Am (wm Aa (vF Ir Aa BX (vL 0 Cf Aa (ob hl λhn ho hp=>Dn [1,1,1,1,1] YG (Px F hd he ha hb hf o x.fS hn ho) ?_))));rintro _ _ ⟨hq,hr,rfl,rfl⟩;refine wa Aa (wa Aa (Aw (A4 (Ae ?_))));obtain rfl:=A7 hp;exact A3 (E3 WM (AR Aa) (AR Aa)) (sC (sC (sC (sC (sC (sS sN)))))) ⟨hq,hr,Aa,Aa⟩
 refine A0 (AX (Ao (Am (vF Ir Aa Cy (vL 0 CO Aa (wv (BR Aa Aa) (Aw (cz hm Aa (λhs ht=>?_) (λhs hu=>?_)))))))))
 ·refine Ao (ob ht λhg hw hx=>ob hx λhh hy hz=>Dr 6 [0,3,4,5] [⟨[],rP hd 0,none,none,none⟩,⟨[],rP hd 0,none,none,none⟩,⟨[1],Br 8 (AH Ad hg),none,none,none⟩,⟨[],rP b1 8,none,none,none⟩,⟨[3],AD x.fN,none,none,none⟩,⟨[2,4],rS hh,none,none,none⟩] ?_ (λβ=>?_))
  ·refine Do (Aj Aa) (Do (Aj Aa) (NL (QR (Hin:=[.blk hd [rB o.fMade,rv he,rv (.map (some ha)),rv (.map (some hb)),rv hf] 59,.row he 9 1 (AH eS o.fEvents),.map ha (AL Ar o.fResults),.map hb (AL Af o.fKeys),.row hf 67 8 (AH Ad o.fPending)]) (Hr:=[.blk b1 (Bc x) 36]) U2 Aa ((AP (i:=1) Aa).trans (AfQ _ ((AP (i:=1) Aa).trans (AfQ _ ((AP (i:=1) Aa).trans (AfQ _ ((AP (i:=1) Aa).trans (AfQ _ ((AP (i:=1) Aa).trans (AfQ _ (AfX _))))))))))) (EY F hd he ha hb hf o hg hw)) (Do (Au Ir Aa Cy Aa Aa) (HW (AM (i:=0) CO Aa Aa Aa) (NL (G0 Tryz.call32 (TK hg x.fN hh hy) Aa) ?_)))));exact Sh
  refine Dq (H1:=[.blk b1 (Bc x) 36,.blk hd [rB o.fMade,rv he,rv (.map (some ha)),rv (.map (some hb)),rv hf] 59,.row he 9 1 (AH eS o.fEvents),.map ha (AL Ar o.fResults),.map hb (AL Af o.fKeys),.row hf 67 8 (AH Ad o.fPending)]) [26,27,28,29,30,31,0,3,4,5] ?_;refine ob hz λh0 h1 h2=>Dn [1,1,1,1,1] YG (Px F hd he ha hb hf o hh h0 h1) ?_;rintro _ _ ⟨h4,h6,rfl,rfl⟩;refine wa Aa (wa Aa (Aw (A4 (Ae ?_))));obtain rfl:=A7 h2;exact A3 (E3 WM (AR Aa) (AR Aa)) (sC (sC (sC (sC (sC (sS sN)))))) ⟨h4,h6,Aa,Aa⟩
 refine A0 (AX (Ao (Am (vF Ir Aa Cy (vL 0 CO Aa (wv (BR Aa Aa) (Aw (cz hu Aa (λh7 h8=>?_) (λh7 hA=>?_)))))))))
 ·refine Am (wm Aa (vF Ir Aa BX (vL 0 Cf Aa (ob h8 λhB hC hD=>Dn [1,1,1,1,1] LB (DU F hd he ha hb hf o x.fS hB hC) ?_))));rintro _ _ ⟨v37,hE,rfl,rfl⟩;refine wa Aa (wa Aa (Aw (A4 (Ae ?_))));obtain rfl:=A7 hD;exact A3 (E3 WM (AR Aa) (AR Aa)) (sC (sC (sC (sC (sC (sS sN)))))) ⟨v37,hE,Aa,Aa⟩
 refine A0 (AX (Am (wv (r:=rS ([]:Ai)) (AA Aa) (Aw (Ao (Am (vF Ir Aa Cy (vL 0 CO Aa (wv (BR Aa Aa) (Aw (cz hA Aa (λhG hH=>?_) (λhG hI=>?_))))))))))))
 ·refine An (vF Ir Aa DM (wv (Bi (i:=0) GG DM Aa Aa Aa Aa) (ob hH λhi hJ hK=>DI YK (KV F x.fC hi hJ) Aa (wm Aa (wv (A8 Aa Aa) (wv (A8 Aa Aa) (wa Aa (B0 (wm Aa (wm Aa (ob hK λhL hN hO=>Dn [1,1,1,1,1] LB (DU F hd he ha hb hf o hi.1 hL hN) ?_)))))))))));rintro _ _ ⟨hP,hQ,rfl,rfl⟩;refine wa Aa (wa Aa (Aw (A4 ?_)));obtain rfl:=A7 hO;exact A3 (E3 WM (AR Aa) (AR Aa)) (sC (sC (sC (sC (sC (sS sN)))))) ⟨hP,hQ,Aa,Aa⟩
 refine An (vF Ir Aa BX (vL 0 Cf Aa (ob hI λhj hR hS=>DI YI (G1 F x.fS hj hR) Aa (wm Aa (wv (A8 Aa Aa) (wv (A8 Aa Aa) (wa Aa (B0 (wm Aa (wm Aa (ob hS λhT hU hV=>Dn [1,1,1,1,1] LB (DU F hd he ha hb hf o hj.1 hT hU) ?_)))))))))));rintro _ _ ⟨hW,hX,rfl,rfl⟩;refine wa Aa (wa Aa (Aw (A4 ?_)));obtain rfl:=A7 hV;exact A3 (E3 WM (AR Aa) (AR Aa)) (sC (sC (sC (sC (sC (sS sN)))))) ⟨hW,hX,Aa,Aa⟩
end Go.Proofs.YtfobhhegpkinaaaGreatDoor.Q
namespace Go.Proofs.YtfobhhegpkinaaaGreatDoor
open Go
set_option linter.unusedVariables false
def JA (F:Nat)(c:AC)(ha:Int):Option (Stp (Int) (Out (Int) (Unit))):=
 Bw (decide (ha<(c.fEffects.length:Int))) (Bd (CY ha (c.fEffects.length:Int))<|Bq (KW F c.fEvent (Aq c.fEffects ha) ha) λhb=>Bw (!decide (hb=0)) (some (.out (.ret hb))) (Bd (Cb .i64 (ha+1))<|some (.next (ha+1)))) (some (.out (.go ())))
def J9 :Option (Int):=
 some 0
def M3 (F:Nat)(c:AC):Option (Int):=
 Bw (((!(K3 c.fEvent))||(!(Hf c.fTenant)))) (some 4) (Bd (imp (!(decide (c.fAttempt<1))) (imp (!(decide (1073741824<c.fAttempt))) ((BI c.fAt).isSome)))<|Bw (((decide (c.fAttempt<1))||((decide (1073741824<c.fAttempt))||(!(ov (BI c.fAt)))))) (some 2) (Bq (Jw F c.fResult) λha=>Bw (!decide (ha=0)) (some ha) (Bw (decide (32<(c.fEffects.length:Int))) (some 3) (Bq (Ci (λσ=>JA F c σ) F 0) (BO λν=>J9 )))))
def I4 (F:Nat)(c:AC)(hb:(List (List Ai)))(ha:Int):Option (Stp ((List (List Ai))×Int) (Out (Ai×Int) ((List (List Ai))))):=
 Bw (decide (ha<(c.fEffects.length:Int))) (Bd (CY ha (c.fEffects.length:Int))<|Bd (Cb .i64 ((Aq c.fEffects ha).fKind))<|Bd (Cb .i64 ((Aq c.fEffects ha).fDelay))<|Bq (NO F ((Aq c.fEffects ha).fValue)) λhd=>Bd (Dz 24 (hb.length+([([Lib.itoa ((Aq c.fEffects ha).fKind),(Aq c.fEffects ha).fKey,Lib.itoa ((Aq c.fEffects ha).fDelay),hd]:List Ai)]:List (List Ai)).length))<|Bd (Cb .i64 (ha+1))<|some (.next (hb++([([Lib.itoa ((Aq c.fEffects ha).fKind),(Aq c.fEffects ha).fKey,Lib.itoa ((Aq c.fEffects ha).fDelay),hd]:List Ai)]:List (List Ai)),ha+1))) (some (.out (.go hb)))
def I3 (F:Nat)(hb:(List (List Ai))):Option (Ai×Int):=
 Bq (Pr F hb) λha=>some (ha.1,ha.2)
def Pt (F:Nat)(c:AC):Option (Ai×Int):=
 Bq (M3 F c) λr2=>Bw (!decide (r2=0)) (some (([]:Ai),r2)) (Bd (Cb .i64 c.fAttempt)<|Bd (Cb .i64 c.fAt)<|Bq (NO F c.fResult) λha=>Bq (Ci (λσ=>I4 F c σ.1 σ.2) F (([([([99,111,109,109,105,116]:Ai),c.fEvent,c.fTenant,Lib.itoa c.fAttempt,Lib.itoa c.fAt,ha]:List Ai)]:List (List Ai)),0)) (BO λν=>I3 F ν))
def GP (ha:Int)(hb:(List (Ai×Ac))):Option (Stp (Int×(List (Ai×Ac))) (Out (Int×(List (Ai×Ac))) ((List (Ai×Ac))))):=
 Bd (Cb .i64 (ha+1))<|some (.next (ha+1,hb))
def JC (l:(List Ap))(ha:Int)(hb:(List (Ai×Ac))):Option (Stp (Int×(List (Ai×Ac))) (Out (Int×(List (Ai×Ac))) ((List (Ai×Ac))))):=
 Bw (decide (ha<(l.length:Int))) (Bd (CY ha (l.length:Int))<|Bw (decide (((Aq l ha).fKind)=1)) (Bq (Hp ((Aq l ha).fValue)) λhd=>Bd (Cb .i64 (((B2 hb ((Aq l ha).fKey) (Ac.mk ([]:(List Ab)) 0)).fVersion)+1))<|Bw (decide (256<((mset hb ((Aq l ha).fKey) (Ac.mk hd (((B2 hb ((Aq l ha).fKey) (Ac.mk ([]:(List Ab)) 0)).fVersion)+1))).length:Int))) (some (.out (.ret (3,mset hb ((Aq l ha).fKey) (Ac.mk hd (((B2 hb ((Aq l ha).fKey) (Ac.mk ([]:(List Ab)) 0)).fVersion)+1)))))) (GP ha (mset hb ((Aq l ha).fKey) (Ac.mk hd (((B2 hb ((Aq l ha).fKey) (Ac.mk ([]:(List Ab)) 0)).fVersion)+1))))) (Bw (decide (((Aq l ha).fKind)=2)) (GP ha (mdel hb ((Aq l ha).fKey))) (GP ha hb))) (some (.out (.go hb)))
def JB (ha:(List (Ai×Ac))):Option (Int×(List (Ai×Ac))):=
 some (0,ha)
def So (F:Nat)(keys:(List (Ai×Ac)))(l:(List Ap)):Option (Int×(List (Ai×Ac))):=
 Bq (Ci (λσ=>JC l σ.1 σ.2) F (0,keys)) (BO λν=>JB ν)
def He (ha:Int)(hb:(List Ak)):Option (Stp (Int×(List Ak)) (Out (Bool×Int×Al) ((List Ak)))):=
 Bd (Cb .i64 (ha+1))<|some (.next (ha+1,hb))
def I6 (c:AC)(ha:Int)(hb:(List Ak)):Option (Stp (Int×(List Ak)) (Out (Bool×Int×Al) ((List Ak)))):=
 Bw (decide (ha<(c.fEffects.length:Int))) (Bd (CY ha (c.fEffects.length:Int))<|Bq (Gj ((Aq c.fEffects ha).fKind)) λhe=>Bw (he) (Bd (Dz 1 c.fEvent.length)<|Bd (Cb .i64 ha)<|Bq (UT (Aq c.fEffects ha)) λhd=>Bd (Dz 112 (hb.length+([(Ak.mk (BK c.fEvent ha) c.fTenant c.fEvent c.fAt hd)]:List Ak).length))<|He ha (hb++([(Ak.mk (BK c.fEvent ha) c.fTenant c.fEvent c.fAt hd)]:List Ak))) (He ha hb)) (some (.out (.go hb)))
def I5 (o:Al)(c:AC)(ha:Int×(List (Ai×Ac)))(hb:(List Ab))(hd:(List Ak)):Option (Bool×Int×Al):=
 some (true,0,(Al.mk o.fMade (o.fEvents++([c.fEvent]:List Ai)) (mset o.fResults c.fEvent hb) (mset o.fKeys c.fTenant ha.2) hd))
def I7 (ha:Ai)(hb:Ac)(hd:(List (Ai×Ac))):Option (Stp ((List (Ai×Ac))) (Out (Bool×Int×Al) ((List (Ai×Ac))))):=
 some (.next (mset hd ha hb))
def Gm (F:Nat)(o:Al)(c:AC)(hb:(List (Ai×Ac))):Option (Bool×Int×Al):=
 Bq (So F hb c.fEffects) λha=>Bw (!decide (ha.1=0)) (some (false,ha.1,o)) (Bd (Dz 16 (o.fEvents.length+([c.fEvent]:List Ai).length))<|Bq (Hp c.fResult) λhd=>Bq (Ci (λσ=>I6 c σ.1 σ.2) F (0,o.fPending)) (BO λν=>I5 o c ha hd ν))
def M1 (F:Nat)(o:Al)(c:AC):Option (Bool×Int×Al):=
 Bq (Ev o) λr2=>Bw (!r2) (some (false,10,o)) (Bq (M3 F c) λr8=>Bw (!decide (r8=0)) (some (false,r8,o)) (Bw (E6 o.fResults c.fEvent) (some (false,0,o)) (Bw (decide (4000≤(o.fEvents.length:Int))) (some (false,3,o)) (TA (B2 o.fKeys c.fTenant ([]:(List (Ai×Ac)))) λord=>Bq (Rk (λpe τ=>I7 pe.1 pe.2 τ) ord ([]:List (Ai×Ac))) (BO λν=>Gm F o c ν)))))
def Kv (c:AC):Option (Bool×Int):=
 some (false,10)
def G4 (F:Nat) :Option (Bool):=
 Bq (HJ 7) λr1=>Bq (HJ 1) λr4=>Bq (HJ 2) λr7=>Bq (UU) λhp=>Bq (M1 F hp (AC.mk ([101,49]:Ai) ([116]:Ai) 1 r1 ([(Ap.mk 1 ([107]:Ai) r4 0),(Ap.mk 3 ([115]:Ai) r7 0)]:List Ap) 5)) λhf=>Bq (M1 F hf.2.2 (AC.mk ([101,49]:Ai) ([116]:Ai) 1 r1 ([(Ap.mk 1 ([107]:Ai) r4 0),(Ap.mk 3 ([115]:Ai) r7 0)]:List Ap) 5)) λha=>Bq (J7 F ha.2.2 ([116]:Ai)) λhd=>Bq (Ec F ha.2.2) λhb=>Bd (!(!decide (hf.2.1=0)))<|Bd (!(!decide (ha.2.1=0)))<|Bd (!(!hf.1))<|Bd (!ha.1)<|Bd (!(!decide ((hd.length:Int)=1)))<|Bd (CY 0 (hd.length:Int))<|Bd (!(!decide (((Aq hd 0).fKey)=([107]:Ai))))<|Bd (!(!decide (((Aq hd 0).fVersion)=1)))<|Bd (!(!decide ((hb.length:Int)=1)))<|Bd (CY 0 (hb.length:Int))<|Bd (!(!decide (((Aq hb 0).fID)=([101,49,46,49]:Ai))))<|Bd (!(!decide (((Aq hb 0).fCause)=([101,49]:Ai))))<|Bd (!(!decide (((Aq hb 0).fAt)=5)))<|Bd (!(!decide ((((Aq hb 0).fEffect).fKey)=([115]:Ai))))<|Bq (J6 ha.2.2 ([101,49]:Ai)) λhi=>Bd (!(!hi.2))<|Bq (HJ 7) λhq=>Bq (HV F hi.1 hq) λhr=>Bd (!(!hr))<|Bq (Sr F ha.2.2 ([101,49,46,49]:Ai)) λhj=>Bd (!(!decide (hj.1=0)))<|Bq (Sr F hj.2 ([101,49,46,49]:Ai)) λhe=>Bd (!(!decide (he.1=5)))<|Bq (Ec F he.2) λhs=>Bd (!(!decide ((hs.length:Int)=0)))<|Bq (J8 he.2) λht=>Bq (Nw F ht ([([101,49]:Ai)]:List Ai)) λhu=>Bd (!(!hu))<|Bq (Pt F (AC.mk ([101,49]:Ai) ([116]:Ai) 1 r1 ([(Ap.mk 1 ([107]:Ai) r4 0),(Ap.mk 3 ([115]:Ai) r7 0)]:List Ap) 5)) λhg=>Bq (DV F ([101,49,46,49]:Ai)) λhk=>Bq (UU) λhw=>Bd (!(!decide (hg.2=0)))<|Bd (!(!decide (hk.2=0)))<|Bq (EK F hw hg.1) λhl=>Bd (!(!decide (hl.1=0)))<|Bq (EK F hl.2 hk.1) λhm=>Bd (!(!decide (hm.1=0)))<|Bq (EK F hm.2 hg.1) λhn=>Bd (!(!decide (hn.1=0)))<|Bq (EK F hn.2 ([120]:Ai)) λhh=>Bd (!(!decide (hh.1=13)))<|Bq (Ec F hh.2) λhx=>Bd (!(!decide ((hx.length:Int)=0)))<|Bq (J7 F hh.2 ([116]:Ai)) λhy=>Bd (!(!decide ((hy.length:Int)=1)))<|Bd (CY 1 (([(Ap.mk 1 ([107]:Ai) r4 0),(Ap.mk 3 ([115]:Ai) r7 0)]:List Ap).length:Int))<|Ma (List.set ([(Ap.mk 1 ([107]:Ai) r4 0),(Ap.mk 3 ([115]:Ai) r7 0)]:List Ap) (Int.toNat 1) (Ap.mk ((Aq ([(Ap.mk 1 ([107]:Ai) r4 0),(Ap.mk 3 ([115]:Ai) r7 0)]:List Ap) 1).fKind) ([83]:Ai) ((Aq ([(Ap.mk 1 ([107]:Ai) r4 0),(Ap.mk 3 ([115]:Ai) r7 0)]:List Ap) 1).fValue) ((Aq ([(Ap.mk 1 ([107]:Ai) r4 0),(Ap.mk 3 ([115]:Ai) r7 0)]:List Ap) 1).fDelay))) λho=>Bq (Kv (AC.mk ([101,49]:Ai) ([116]:Ai) 1 r1 ho 5)) λhz=>Bd (decide (hz.2=10))<|Bq (M3 F (AC.mk ([101,49]:Ai) ([116]:Ai) 1 r1 ho 5)) λh0=>Bd (decide (h0=4))<|Bq (J7 F he.2 ([117]:Ai)) λh1=>some (decide ((h1.length:Int)=0))
end Go.Proofs.YtfobhhegpkinaaaGreatDoor
namespace Go.Proofs.YtfobhhegpkinaaaGreatDoor.Q
open Go Go.RowKit
set_option linter.unusedVariables false
set_option linter.unusedSimpArgs false
set_option maxRecDepth 100000
set_option maxHeartbeats 4000000
theorem JW {n:Nat}{c:Cx}{l:Fr}{H:List Ent}{d:Option Nat}{ty:TypeId}{pos:String}{af:Array Edge}{g:Option (Nat×Bool)}{x0:Operand}{r0:Rp}(h0:ev l x0=some r0)(u0:r0.one=true){x1:Operand}{r1:Rp}(h1:ev l x1=some r1)(u1:r1.one=true){x2:Operand}{r2:Rp}(h2:ev l x2=some r2)(u2:r2.one=true){x3:Operand}{r3:Rp}(h3:ev l x3=some r3)(u3:r3.one=true){x4:Operand}{r4:Rp}(h4:ev l x4=some r4)(u4:r4.one=true){x5:Operand}{r5:Rp}(h5:ev l x5=some r5)(u5:r5.one=true):Bv Tryz.prog n c l H { dst:=d,op:=.build 34 #[(0,x0),(1,x1),(2,x2),(3,x3),(4,x4),(5,x5)],type:=ty,pos:=pos,after:=af,guard:=g } (BL [r0,r1,r2,r3,r4,r5]):=λa w Z ha _=>by
  have p0:=ha.ev h0;have c0:=Bz (r0.hone u0 Z _ p0);have p1:=ha.ev h1;have c1:=Bz (r1.hone u1 Z _ p1);have p2:=ha.ev h2;have c2:=Bz (r2.hone u2 Z _ p2);have p3:=ha.ev h3;have c3:=Bz (r3.hone u3 Z _ p3);have p4:=ha.ev h4;have c4:=Bz (r4.hone u4 Z _ p4);have p5:=ha.ev h5;have c5:=Bz (r5.hone u5 Z _ p5);have hb:Tryz.prog.built 34 [(0,a.eval x0),(1,a.eval x1),(2,a.eval x2),(3,a.eval x3),(4,a.eval x4),(5,a.eval x5)]=some #[a.eval x0,a.eval x1,a.eval x2,a.eval x3,a.eval x4,a.eval x5]:=by
    rw[AcG];generalize a.eval x0=v0 at *;generalize a.eval x1=v1 at *;generalize a.eval x2=v2 at *;generalize a.eval x3=v3 at *;generalize a.eval x4=v4 at *;generalize a.eval x5=v5 at *;simp[Instr.fill,c0,c1,c2,c3,c4,c5]
  refine⟨.agg #[a.eval x0,a.eval x1,a.eval x2,a.eval x3,a.eval x4,a.eval x5],⟨[a.eval x0,a.eval x1,a.eval x2,a.eval x3,a.eval x4,a.eval x5],rfl,p0,p1,p2,p3,p4,p5,trivial⟩,?_⟩;have:=run_build w 34 #[(0,a.eval x0),(1,a.eval x1),(2,a.eval x2),(3,a.eval x3),(4,a.eval x4),(5,a.eval x5)] _ (by simpa using hb);simp[execOp,this]
theorem JN {n:Nat}{c:Cx}{l:Fr}{H:List Ent}{d:Option Nat}{ty:TypeId}{pos:String}{af:Array Edge}{g:Option (Nat×Bool)}{x0:Operand}{r0:Rp}(h0:ev l x0=some r0)(u0:r0.one=true){x1:Operand}{r1:Rp}(h1:ev l x1=some r1)(u1:r1.one=true){x2:Operand}{r2:Rp}(h2:ev l x2=some r2)(u2:r2.one=true):Bv Tryz.prog n c l H { dst:=d,op:=.build 65 #[(0,x0),(1,x1),(2,x2)],type:=ty,pos:=pos,after:=af,guard:=g } (BL [r0,r1,r2,AD 0]):=λa w Z ha _=>by
  have p0:=ha.ev h0;have c0:=Bz (r0.hone u0 Z _ p0);have p1:=ha.ev h1;have c1:=Bz (r1.hone u1 Z _ p1);have p2:=ha.ev h2;have c2:=Bz (r2.hone u2 Z _ p2);have hb:Tryz.prog.built 65 [(0,a.eval x0),(1,a.eval x1),(2,a.eval x2)]=some #[a.eval x0,a.eval x1,a.eval x2,(.int .i64 0)]:=by
    rw[W3];generalize a.eval x0=v0 at *;generalize a.eval x1=v1 at *;generalize a.eval x2=v2 at *;simp[Instr.fill,c0,c1,c2]
  refine⟨.agg #[a.eval x0,a.eval x1,a.eval x2,(.int .i64 0)],⟨[a.eval x0,a.eval x1,a.eval x2,(.int .i64 0)],rfl,p0,p1,p2,rfl,trivial⟩,?_⟩;have:=run_build w 65 #[(0,a.eval x0),(1,a.eval x1),(2,a.eval x2)] _ (by simpa using hb);simp[execOp,this]
theorem Nj (F:Nat)(ha:Value)(c:AC)(r:Int)(h:M3 F c=some r):Fn Tryz.prog GE 27 [BL [rS c.fEvent,rS c.fTenant,AD c.fAttempt,Br 4 (AH Ah c.fResult),rv ha,AD c.fAt]] [.row ha 65 4 (AH Av c.fEffects)] (λR H=>R=AD r∧H=[.row ha 65 4 (AH Av c.fEffects)]):=by
 refine enter (n:=58) Tryz.func27 Aa Tryz.ntmps27 Aa (λw Z=>?_);unfold M3 at h;refine Am (CN Aa Aa (λb1=>?_));refine wa Aa (Aw (Ao (AV [(1,rP b1 0),(16,rB ((!(K3 c.fEvent))||(!(Hf c.fTenant))))] [.blk b1 [rS c.fEvent,rS c.fTenant,AD c.fAttempt,Br 4 (AH Ah c.fResult),rv ha,AD c.fAt] 34,.row ha 65 4 (AH Av c.fEffects)] ?_ ?_)))
 ·refine An (vF C6 Aa BX (vL 0 Cf Aa (Ds (rs:=[rS c.fEvent]) (r:=rB (K3 c.fEvent)) YF Aa (Acv c.fEvent) Aa Aa (wv (BT Aa) (wm Aa (AY (!(K3 c.fEvent)) (λc2=>?_) (λc2=>?_)))))))
  ·refine wf c2 (wf c2 (wf c2 (wf c2 (wv (r:=rB true) (A5 Aa c2 Aa) (As ?_)))));exact CI c2
  refine wo c2 (vF C6 Aa BX (wo c2 (vL 0 Cf Aa (wo c2 (Ds (rs:=[rS c.fTenant]) (r:=rB (Hf c.fTenant)) Tryz.call53 Aa (UZ c.fTenant) Aa Aa (wo c2 (wv (BT Aa) (G9 Aa c2 Aa (As ?_)))))))));exact CI c2
 refine cz h Aa (λc3 h4=>?_) (λc3 h5=>?_)
 ·refine Am (wa Aa (Aw (A4 (Ae ?_))));obtain rfl:=A7 h4;exact A3 (Ch Oc (AR Aa)) (sS (sC sN)) ⟨Aa,Aa⟩
 refine A0 (AX (Ao (ck h5 λg6 h7=>AV [(1,rP b1 0),(30,rB ((decide (c.fAttempt<1))||((decide (1073741824<c.fAttempt))||(!(ov (BI c.fAt))))))] [.blk b1 [rS c.fEvent,rS c.fTenant,AD c.fAttempt,Br 4 (AH Ah c.fResult),rv ha,AD c.fAt] 34,.row ha 65 4 (AH Av c.fEffects)] ?_ ?_)))
 ·refine An (vF C6 Aa Cy (vL 0 CO Aa (wv (Dh Aa Aa) (wm Aa (AY (decide (c.fAttempt<1)) (λc8=>?_) (λc8=>?_))))))
  ·refine wf c8 (wf c8 (wf c8 (wv (r:=rB true) (A5 Aa c8 Aa) (wm Aa (wz Aa Aa (wz Aa Aa (wz Aa Aa (wz Aa Aa (wv (r:=rB true) (A5 (b:=true) Aa Aa Aa) (As ?_))))))))));exact CI c8
  refine wo c8 (vF C6 Aa Cy (wo c8 (vL 0 CO Aa (wo c8 (wv (DT Aa Aa) (G9 Aa c8 Aa (wm Aa (AY (decide (1073741824<c.fAttempt)) (λc9=>?_) (λc9=>?_)))))))))
  ·refine wf c9 (wf c9 (wf c9 (wf c9 (wv (r:=rB true) (A5 Aa c9 Aa) (As ?_)))));exact CI (And.intro c8 c9)
  refine wo c9 (vF C6 Aa Cy (wo c9 (vL 0 CO Aa (wo c9 (DI WN (GM c.fAt (ov (BI c.fAt)) (Og (EA (EA g6 c8) c9))) Aa (wo c9 (wv (BT Aa) (G9 Aa c9 Aa (As ?_)))))))));exact CI (And.intro c8 c9)
 refine cz h7 Aa (λhi hj=>?_) (λhi hk=>?_)
 ·refine Am (wa Aa (Aw (A4 (Ae ?_))));obtain rfl:=A7 hj;exact A3 (Ch Oc (AR Aa)) (sS (sC sN)) ⟨Aa,Aa⟩
 refine A0 (AX (Ao (Am (vF C6 Aa CR (vL 0 EC Aa (ob hk λhl hm hn=>DI YE (Kh F c.fResult hl hm) Aa (wa Aa (B0 (wm Aa (wv (BQ Aa Aa) (Aw (cz hn Aa (λho hp=>?_) (λho hq=>?_)))))))))))))
 ·refine Am (wm Aa (wa Aa (Aw (A4 (Ae ?_)))));obtain rfl:=A7 hp;exact A3 (Ch Oc (AR Aa)) (sS (sC sN)) ⟨Aa,Aa⟩
 refine A0 (AX (Ao (Am (vF C6 Aa Kc (vL 0 MU Aa (wv (Ca (ys:=c.fEffects) (enc:=Av) (i:=1) Hy Aa Aa) (wv (DT Aa Aa) (Aw (cz hq Aa (λhr hs=>?_) (λhr ht=>?_))))))))))
 ·refine Am (wa Aa (Aw (A4 (Ae ?_))));obtain rfl:=A7 hs;exact A3 (Ch Oc (AR Aa)) (sS (sC sN)) ⟨Aa,Aa⟩
 refine A0 (AX (Ao (Am (vF C6 Aa Kc (vL 0 MU Aa (wv (Ca (ys:=c.fEffects) (enc:=Av) (i:=1) Hy Aa Aa) (wv (r:=AD 0) (Aj Aa) (Aw (AS (ob ht λhu hw hg=>B4 (S:=Nat×(Int)×(Unit)) (V:=(Unit)×(Unit)) 0 (λσ=>Ci (λσ=>JA F c σ) σ.1 σ.2.1=some hu) (λσ=>[(1,rP b1 0),(42,rv ha),(43,AD (c.fEffects.length:Int)),(44,AD σ.2.1)]) (λσ=>[.blk b1 [rS c.fEvent,rS c.fTenant,AD c.fAttempt,Br 4 (AH Ah c.fResult),rv ha,AD c.fAt] 34,.row ha 65 4 (AH Av c.fEffects)]) (λσ=>σ.1) (F,0,()) hw (AG.c Aa (AG.c Aa (AG.c Aa (AG.c Aa AG.nil)))) (sC (sC sN)) (λσ=>J9 =some r) (λσ=>[]) (λσ=>[.row ha 65 4 (AH Av c.fEffects)]) ?_ ?_))))))))))
 ·rintro⟨hJ,hb,⟨⟩⟩ hx;refine GC ?_;obtain⟨hy,rfl,hz,hd,hf⟩:=Di hx;replace hd:JA F c hb=some hz:=hd;unfold JA at hd;refine Am (wv (Dh Aa Aa) (Aw (Ao (cz hd Aa (λh0 h1=>?_) (λh0 h2=>?_)))))
  ·refine A0 (AX (Ao (AS (Am (wm Aa (ck h1 λhh h3=>wv (r:=rv (Gd 4 ha (BC hb) 0)) (Eu (i:=1) Hy Dj Aa Aa Aa (BE hh)) (wv (r:=BL (Av (Aq c.fEffects hb))) (KU (enc:=Av) (ys:=c.fEffects) (i:=1) (j:=hb) Is Dj Aa Aa hh Aa Aa) (BZ (cs:=[AD 0,rS ([]:Ai),rv (.slice none 0 0),AD 0]) L7 Aa Aa (λhK=>?_)))))))));refine wa Aa (LZ (i:=0) Dj Aa Aa Aa (Cm.c Aa) Aa Aa ?_);refine B0 (vF C6 Aa BX (vL 1 Cf Aa (wv (Bi (i:=0) Is Dj Aa Aa Aa Aa) (wm Aa (ob h3 λh6 h8 h9=>DI Tryz.call56 (QW F c.fEvent (Aq c.fEffects hb) hb h6 h8) Aa (wa Aa (B0 (wm Aa (wv (BQ Aa Aa) (Aw (cz h9 Aa (λhA hB=>?_) (λhA hC=>?_))))))))))))
   ·refine Am (wm Aa (wa Aa (Aw (A4 (AB (Ae (Ae (Be ?_))))))));have hD:=B1 hB hf hg;refine AB (Ae ?_);obtain rfl:=A7 hD;exact A3 (Ch Oc (AR Aa)) (sS (sS (sC sN))) ⟨Aa,Aa⟩
   refine A0 (AK (AX (An (ck hC λhE hG=>wv (BW Aa Aa hE) (wm Aa (As ?_))))));have hH:=B9 hG hf;exact Ay (AE (hy,hb+1,()) ⟨hH,AfV _⟩ (AG.c Aa (AG.c Aa (AG.c Aa (AG.c Aa AG.nil)))) (sS (sC (sC sN))))
  refine B3 (A9 ?_);have hI:=Cw h2 hf hg;exact A9 (Bo (AE ((),()) hI AG.nil (sS (sC sN))))
 rintro⟨⟨⟩,⟨⟩⟩ he;refine JZ ?_;replace he:J9 =some r:=he;unfold J9 at he;refine Bn (AX (Am (wa Aa (Aw (A4 ?_)))));obtain rfl:=A7 he;exact A3 (Ch Oc (AR Aa)) (sC sN) ⟨Aa,Aa⟩
theorem UW (F:Nat)(hb:Value)(c:AC)(r:Ai×Int)(h:Pt F c=some r):Fn Tryz.prog GE 25 [BL [rS c.fEvent,rS c.fTenant,AD c.fAttempt,Br 4 (AH Ah c.fResult),rv hb,AD c.fAt]] [.row hb 65 4 (AH Av c.fEffects)] (λR H=>R=CZ [rS r.1,AD r.2]∧H=[.row hb 65 4 (AH Av c.fEffects)]):=by
 refine enter (n:=55) Tryz.func25 Aa Tryz.ntmps25 Aa (λw Z=>?_);unfold Pt at h;refine Am (CN Aa Aa (λb1=>?_));refine wv (r:=rS ([]:Ai)) (AA Aa) (wa Aa (Aw (Ao (Am (wv (Bi (i:=0) GG DM Aa Aa Aa Aa) (ob h λr2 e4 h3=>Dn [1] YJ (Nj F hb c r2 e4) ?_))))));rintro _ _ ⟨rfl,rfl⟩;refine wa Aa (B0 (wm Aa (wv (BQ Aa Aa) (Aw (cz h3 Aa (λc5 h6=>?_) (λc5 h7=>?_))))))
 ·refine Am (wm Aa (wv (r:=rS ([]:Ai)) (AA Aa) (wa Aa (Aw (A4 (Ae ?_))))));obtain rfl:=A7 h6;exact A3 (E3 Ab3 (AR Aa) (AR Aa)) (sC (sS sN)) ⟨Aa,Aa⟩
 refine A0 (AX (Ao (ck h7 λg8 h9=>ck h9 λho hp=>ob hp λhe hq hr=>Dr 13 [1] [⟨[],rP b1 0,none,none,none⟩,⟨[0],rS c.fEvent,none,none,none⟩,⟨[],rP b1 1,none,none,none⟩,⟨[2],rS c.fTenant,none,none,none⟩,⟨[],rP b1 2,none,none,none⟩,⟨[4],AD c.fAttempt,none,none,none⟩,⟨[5],rS (Lib.itoa c.fAttempt),none,none,none⟩,⟨[],rP b1 5,none,none,none⟩,⟨[7],AD c.fAt,none,none,none⟩,⟨[8],rS (Lib.itoa c.fAt),none,none,none⟩,⟨[],rP b1 3,none,none,none⟩,⟨[10],Br 4 (AH Ah c.fResult),none,none,none⟩,⟨[11],rS he,none,none,none⟩] ?_ (λβ=>?_))))
 ·refine Do (Au C6 Aa BX Aa Aa) (HW (AM (i:=1) Cf Aa Aa Aa) (Do (Au C6 Aa BX Aa Aa) (HW (AM (i:=1) Cf Aa Aa Aa) (Do (Au C6 Aa Cy Aa Aa) (HW (AM (i:=1) CO Aa Aa Aa) (NL (Et (rs:=[AD c.fAttempt]) (r:=rS (Lib.itoa c.fAttempt)) OG Aa (EL c.fAttempt g8) Aa) (Do (Au C6 Aa Cy Aa Aa) (HW (AM (i:=1) CO Aa Aa Aa) (NL (Et (rs:=[AD c.fAt]) (r:=rS (Lib.itoa c.fAt)) OG Aa (EL c.fAt ho) Aa) (Do (Au C6 Aa CR Aa Aa) (HW (AM (i:=1) EC Aa Aa Aa) (NL (G0 Tryz.call47 (O1 F c.fResult he hq) Aa) ?_))))))))))));exact Sh
 refine Dq (H1:=[.row hb 65 4 (AH Av c.fEffects),.blk b1 [rS c.fEvent,rS c.fTenant,AD c.fAttempt,Br 4 (AH Ah c.fResult),rv hb,AD c.fAt] 34]) [13,14,15,16,17,18,19,20,21,22,23,24,25,1] ?_;refine Bf (ys:=([([99,111,109,109,105,116]:Ai),c.fEvent,c.fTenant,Lib.itoa c.fAttempt,Lib.itoa c.fAt,he]:List Ai)) (enc:=eS) (css:=[[rS ([99,111,109,109,105,116]:Ai)],[rS c.fEvent],[rS c.fTenant],[rS (Lib.itoa c.fAttempt)],[rS (Lib.itoa c.fAt)],[rS he]]) (xs:=[.const (.string ⟨#[99,111,109,109,105,116]⟩),.tmp 14,.tmp 16,.tmp 19,.tmp 22,.tmp 25]) CD BX V4 Aa Aa Aa ⟨E4.one Aa (Up.refl _),E4.one Aa (Up.refl _),E4.one Aa (Up.refl _),E4.one Aa (Up.refl _),E4.one Aa (Up.refl _),E4.one Aa (Up.refl _),trivial⟩ Aa DC Aa Aa Aa (λhs=>?_);refine WL.freeze (i:=0) Aa (Bf (ys:=([([([99,111,109,109,105,116]:Ai),c.fEvent,c.fTenant,Lib.itoa c.fAttempt,Lib.itoa c.fAt,he]:List Ai)]:List (List Ai))) (enc:=BS) (css:=[[Br 1 (AH eS ([([99,111,109,109,105,116]:Ai),c.fEvent,c.fTenant,Lib.itoa c.fAttempt,Lib.itoa c.fAt,he]:List Ai))]]) (xs:=[.tmp 26]) Kb IN WF Aa Aa Aa ⟨E4.one Aa (Up.fact (i:=0) Aa),trivial⟩ Aa DX Aa Aa Aa (λhl=>?_));refine wa Aa (Aw (Ao (Am (vF C6 Aa Kc (vL 3 MU Aa (wv (Ca (ys:=c.fEffects) (enc:=Av) (i:=2) Hy Aa Aa) (wv (r:=AD 0) (Aj Aa) (Aw (AS (Hz (H2:=[.row hb 65 4 (AH Av c.fEffects),.row (.slice (some ⟨hl,0,none⟩) 1 1) 42 1 (AH BS ([([([99,111,109,109,105,116]:Ai),c.fEvent,c.fTenant,Lib.itoa c.fAttempt,Lib.itoa c.fAt,he]:List Ai)]:List (List Ai))),.fact (.slice (some ⟨hs,0,none⟩) 6 6) (Br 1 (AH eS ([([99,111,109,109,105,116]:Ai),c.fEvent,c.fTenant,Lib.itoa c.fAttempt,Lib.itoa c.fAt,he]:List Ai))),.blk b1 [rS c.fEvent,rS c.fTenant,AD c.fAttempt,Br 4 (AH Ah c.fResult),rv hb,AD c.fAt] 34]) ((AP (i:=2) Aa).trans (AfQ _ (AfX _))) (ob hr λht hu hw=>B4 (S:=Nat×((List (List Ai))×Int)×(Value)) (V:=((List (List Ai)))×(Value)) 0 (λσ=>Ci (λσ=>I4 F c σ.1 σ.2) σ.1 σ.2.1=some ht) (λσ=>[(5,rv σ.2.2),(29,rv hb),(30,AD (c.fEffects.length:Int)),(31,AD σ.2.1.2)]) (λσ=>[.row hb 65 4 (AH Av c.fEffects),.row σ.2.2 42 1 (AH BS σ.2.1.1)]) (λσ=>σ.1) (F,(([([([99,111,109,109,105,116]:Ai),c.fEvent,c.fTenant,Lib.itoa c.fAttempt,Lib.itoa c.fAt,he]:List Ai)]:List (List Ai)),0),(.slice (some ⟨hl,0,none⟩) 1 1)) hu (AG.c Aa (AG.c Aa (AG.c Aa (AG.c Aa AG.nil)))) (sC (sC (sS (sS sN)))) (λσ=>I3 F σ.1=some r) (λσ=>[(5,rv σ.2)]) (λσ=>[.row hb 65 4 (AH Av c.fEffects),.row σ.2 42 1 (AH BS σ.1)]) ?_ ?_)))))))))))
 ·rintro⟨hP,⟨hf,ha⟩,hj⟩ hx;refine GC ?_;obtain⟨hy,rfl,t80,hh,hm⟩:=Di hx;replace hh:I4 F c hf ha=some t80:=hh;unfold I4 at hh;refine Am (wv (Dh Aa Aa) (Aw (Ao (cz hh Aa (λhz h0=>?_) (λhz h1=>?_)))))
  ·refine A0 (AX (Ao (AS (Am (ck h0 λhn h2=>wv (r:=rv (Gd 4 hb (BC ha) 0)) (Eu (i:=0) Hy Dj Aa Aa Aa (BE hn)) (wv (r:=BL (Av (Aq c.fEffects ha))) (KU (enc:=Av) (ys:=c.fEffects) (i:=0) (j:=ha) Is Dj Aa Aa hn Aa Aa) (BZ (cs:=[AD 0,rS ([]:Ai),rv (.slice none 0 0),AD 0]) L7 Aa Aa (λhg=>?_))))))));refine LZ (i:=0) Dj Aa Aa Aa (Cm.c Aa) Aa Aa ?_;refine Aw (ck h2 λh4 h5=>ck h5 λh8 hA=>ob hA λhd hB hC=>Dr 14 [5,7,29,30,31] [⟨[],rv hj,none,none,none⟩,⟨[],rP hg 0,none,none,none⟩,⟨[1],AD ((Aq c.fEffects ha).fKind),none,none,none⟩,⟨[2],rS (Lib.itoa ((Aq c.fEffects ha).fKind)),none,none,none⟩,⟨[],rP hg 1,none,none,none⟩,⟨[4],rS ((Aq c.fEffects ha).fKey),none,none,none⟩,⟨[],rP hg 3,none,none,none⟩,⟨[6],AD ((Aq c.fEffects ha).fDelay),none,none,none⟩,⟨[7],rS (Lib.itoa ((Aq c.fEffects ha).fDelay)),none,none,none⟩,⟨[],rP hg 2,none,none,none⟩,⟨[9],Br 4 (AH Ah ((Aq c.fEffects ha).fValue)),none,none,none⟩,⟨[10],rS hd,none,none,none⟩,⟨[3,5,8,11],Br 1 (AH eS ([Lib.itoa ((Aq c.fEffects ha).fKind),(Aq c.fEffects ha).fKey,Lib.itoa ((Aq c.fEffects ha).fDelay),hd]:List Ai)),none,none,none⟩,⟨[12],Br 1 (AH BS ([([Lib.itoa ((Aq c.fEffects ha).fKind),(Aq c.fEffects ha).fKey,Lib.itoa ((Aq c.fEffects ha).fDelay),hd]:List Ai)]:List (List Ai))),none,none,none⟩] ?_ (λβ=>?_))
   ·refine Do (Aj Aa) (Do (Au Cv Aa Hk Aa Aa) (HW (AM (i:=0) Hl Aa Aa Aa) (NL (Et (rs:=[AD ((Aq c.fEffects ha).fKind)]) (r:=rS (Lib.itoa ((Aq c.fEffects ha).fKind))) OG Aa (EL ((Aq c.fEffects ha).fKind) h4) Aa) (Do (Au Cv Aa BX Aa Aa) (HW (AM (i:=0) Cf Aa Aa Aa) (Do (Au Cv Aa Cy Aa Aa) (HW (AM (i:=0) CO Aa Aa Aa) (NL (Et (rs:=[AD ((Aq c.fEffects ha).fDelay)]) (r:=rS (Lib.itoa ((Aq c.fEffects ha).fDelay))) OG Aa (EL ((Aq c.fEffects ha).fDelay) h8) Aa) (Do (Au Cv Aa CR Aa Aa) (HW (AM (i:=0) EC Aa Aa Aa) (NL (G0 Tryz.call47 (O1 F ((Aq c.fEffects ha).fValue) hd hB) Aa) (NL (C4 (ys:=([Lib.itoa ((Aq c.fEffects ha).fKind),(Aq c.fEffects ha).fKey,Lib.itoa ((Aq c.fEffects ha).fDelay),hd]:List Ai)) (enc:=eS) (css:=[[rS (Lib.itoa ((Aq c.fEffects ha).fKind))],[rS ((Aq c.fEffects ha).fKey)],[rS (Lib.itoa ((Aq c.fEffects ha).fDelay))],[rS hd]]) (xs:=[.tmp 38,.tmp 40,.tmp 43,.tmp 46]) CD BX V4 Aa Aa Aa ⟨E4.one Aa (Up.refl _),E4.one Aa (Up.refl _),E4.one Aa (Up.refl _),E4.one Aa (Up.refl _),trivial⟩ Aa DC Aa Aa) (NL (C4 (ys:=([([Lib.itoa ((Aq c.fEffects ha).fKind),(Aq c.fEffects ha).fKey,Lib.itoa ((Aq c.fEffects ha).fDelay),hd]:List Ai)]:List (List Ai))) (enc:=BS) (css:=[[Br 1 (AH eS ([Lib.itoa ((Aq c.fEffects ha).fKind),(Aq c.fEffects ha).fKey,Lib.itoa ((Aq c.fEffects ha).fDelay),hd]:List Ai))]]) (xs:=[.tmp 47]) Kb IN WF Aa Aa Aa ⟨E4.one Aa (Up.refl _),trivial⟩ Aa DX Aa Aa) ?_)))))))))))));exact Sh
   refine Dq (H1:=[.blk hg (Av (Aq c.fEffects ha)) 65,.row hb 65 4 (AH Av c.fEffects),.row hj 42 1 (AH BS hf)]) [35,36,37,38,39,40,41,42,43,44,45,46,47,48,5,7,29,30,31] ?_;refine ck hC λhD hE=>Exists.elim Vj λinf hinf=>Cc (xs:=hf) (ys:=([([Lib.itoa ((Aq c.fEffects ha).fKind),(Aq c.fEffects ha).fKey,Lib.itoa ((Aq c.fEffects ha).fDelay),hd]:List Ai)]:List (List Ai))) (enc:=BS) (i:=2) Kb hinf.1 hinf.2.1 hinf.2.2.1 hinf.2.2.2 Aa Aa Aa Aa Aa (JG.z Aa Aa) DX LS hD Aa (λhG=>?_);refine wa Aa (As (AK (AX (An (ck hE λhH hI=>wv (BW Aa Aa hH) (wm Aa (As (Gx [2] ?_))))))));have hJ:=B9 hI hm;exact Ay (AE (hy,(hf++([([Lib.itoa ((Aq c.fEffects ha).fKind),(Aq c.fEffects ha).fKey,Lib.itoa ((Aq c.fEffects ha).fDelay),hd]:List Ai)]:List (List Ai)),ha+1),hG) ⟨hJ,AfV _⟩ (AG.c Aa (AG.c Aa (AG.c Aa (AG.c Aa AG.nil)))) (sC (sC (sS sN))))
  refine B3 (A9 ?_);have hK:=Cw h1 hm hw;exact A9 (Bo (AE (hf,hj) hK (AG.c Aa AG.nil) (sC (sC sN))))
 rintro⟨hk,v76⟩ hi;refine JZ ?_;replace hi:I3 F hk=some r:=hi;unfold I3 at hi;refine Bn (AX (Am (wm Aa (WL.freeze (i:=1) Aa (WL.up (d:=51) (r:=Br 1 (AH BS hk)) Aa (Up.fact (i:=0) Aa) (ob hi λhL hN hO=>DI Tryz.call48 (Sn F hk hL hN) Aa (wv (A8 Aa Aa) (wv (A8 Aa Aa) (wa Aa (wa Aa (Aw (A4 ?_))))))))))));obtain rfl:=A7 hO;exact A3 (E3 Ab3 (AR Aa) (AR Aa)) (sS (sC sN)) ⟨Aa,Aa⟩
theorem X1 (F:Nat)(hd:Nat)(he:Value)(keys:(List (Ai×Ac)))(l:(List Ap))(r:Int×(List (Ai×Ac)))(h:So F keys l=some r):Fn Tryz.prog GE 65 [rv (.map (some hd)),rv he] [.map hd (AL Ax keys),.row he 65 4 (AH Av l)] (λR H=>R=AD r.1∧H=[.map hd (AL Ax r.2),.row he 65 4 (AH Av l)]):=by
 refine enter (n:=39) Tryz.func65 Aa Tryz.ntmps65 Aa (λw Z=>?_);unfold So at h;refine Am (wa Aa (Aw (Ao (Am (wm Aa (wv (Ca (ys:=l) (enc:=Av) (i:=1) Hy Aa Aa) (wv (r:=AD 0) (Aj Aa) (Aw (AS (ob h λhp hq hm=>B4 (S:=Nat×(Int×(List (Ai×Ac)))×(Unit)) (V:=((List (Ai×Ac)))×(Unit)) 0 (λσ=>Ci (λσ=>JC l σ.1 σ.2) σ.1 σ.2.1=some hp) (λσ=>[(0,rv (.map (some hd))),(7,rv he),(8,AD (l.length:Int)),(9,AD σ.2.1.1)]) (λσ=>[.map hd (AL Ax σ.2.1.2),.row he 65 4 (AH Av l)]) (λσ=>σ.1) (F,(0,keys),()) hq (AG.c Aa (AG.c Aa (AG.c Aa (AG.c Aa AG.nil)))) (sC (sC sN)) (λσ=>JB σ.1=some r) (λσ=>[]) (λσ=>[.map hd (AL Ax σ.1),.row he 65 4 (AH Av l)]) ?_ ?_))))))))))
 ·rintro⟨hH,⟨ha,hb⟩,⟨⟩⟩ hr;refine GC ?_;obtain⟨hs,rfl,hk,hh,hl⟩:=Di hr;replace hh:JC l ha hb=some hk:=hh;unfold JC at hh;refine Am (wv (Dh Aa Aa) (Aw (Ao (cz hh Aa (λht hu=>?_) (λht hw=>?_)))))
  ·refine A0 (AX (Cn (S:=((List (Ai×Ac)))×(Unit)) (λσ=>GP ha σ.1=some hk) (λσ=>[(0,rv (.map (some hd))),(7,rv he),(8,AD (l.length:Int)),(9,AD ha)]) (λσ=>[.map hd (AL Ax σ.1),.row he 65 4 (AH Av l)]) ?_ ?_))
   ·refine AS (Am (ck hu λhn hx=>wv (r:=rv (Gd 4 he (BC ha) 0)) (Eu (i:=1) Hy Dj Aa Aa Aa (BE hn)) (wv (r:=BL (Av (Aq l ha))) (KU (enc:=Av) (ys:=l) (i:=1) (j:=ha) Is Dj Aa Aa hn Aa Aa) (BZ (cs:=[AD 0,rS ([]:Ai),rv (.slice none 0 0),AD 0]) L7 Aa Aa (λhg=>?_)))));refine LZ (i:=0) Dj Aa Aa Aa (Cm.c Aa) Aa Aa ?_;refine B0 (vF Cv Aa Hk (vL 0 Hl Aa (Aw (AS (Am (wv (BR Aa Aa) (wa Aa (Aw (cz hx Aa (λhy hz=>?_) (λhy h0=>?_))))))))))
    ·refine Ao (ob hz λhf h1 h2=>ck h2 λh3 h4=>Dr 13 [0,6,7,8,9] [⟨[],rv (.map (some hd)),none,none,none⟩,⟨[],rP hg 1,none,none,none⟩,⟨[1],rS ((Aq l ha).fKey),none,none,none⟩,⟨[],rP hg 2,none,none,none⟩,⟨[3],Br 4 (AH Ah ((Aq l ha).fValue)),none,none,none⟩,⟨[4],Br 4 (AH Ah hf),none,none,none⟩,⟨[],rv (.map (some hd)),none,none,none⟩,⟨[],rP hg 1,none,none,none⟩,⟨[7],rS ((Aq l ha).fKey),none,none,none⟩,⟨[6,8],BL (C5 (B2 hb ((Aq l ha).fKey) (Ac.mk ([]:(List Ab)) 0))),none,none,none⟩,⟨[9],AD ((B2 hb ((Aq l ha).fKey) (Ac.mk ([]:(List Ab)) 0)).fVersion),none,none,none⟩,⟨[10],AD (((B2 hb ((Aq l ha).fKey) (Ac.mk ([]:(List Ab)) 0)).fVersion)+1),none,none,none⟩,⟨[5,11],BL [Br 4 (AH Ah hf),AD (((B2 hb ((Aq l ha).fKey) (Ac.mk ([]:(List Ab)) 0)).fVersion)+1)],none,none,none⟩] ?_ (λβ=>?_))
     ·refine Do (Aj Aa) (Do (Au Cv Aa BX Aa Aa) (HW (AM (i:=0) Cf Aa Aa Aa) (Do (Au Cv Aa CR Aa Aa) (HW (AM (i:=0) EC Aa Aa Aa) (NL (G0 U1 (Ij ((Aq l ha).fValue) hf h1) Aa) (Do (Aj Aa) (Do (Au Cv Aa BX Aa Aa) (HW (AM (i:=0) Cf Aa Aa Aa) (HW (Nf (enc:=Ax) (xs:=hb) (z:=Ac.mk ([]:(List Ab)) 0) (i:=1) Mb CT WD G3 Aa Aa Aa) (Do (Wa Ab0 Aa CO Aa Aa) (Do (BW Aa Aa h3) (Do (Lw Aa Aa Aa Aa) ?_))))))))))));exact Sh
     refine Dq (H1:=[.blk hg (Av (Aq l ha)) 65,.map hd (AL Ax hb),.row he 65 4 (AH Av l)]) [17,18,19,20,21,22,23,24,25,26,27,28,29,0,6,7,8,9] ?_;refine Iz (enc:=Ax) (xs:=hb) (v:=(Ac.mk hf (((B2 hb ((Aq l ha).fKey) (Ac.mk ([]:(List Ab)) 0)).fVersion)+1))) (i:=1) Mb CT Aa Aa Aa Aa (H':=[.blk hg (Av (Aq l ha)) 65,.map hd (AL Ax (mset hb ((Aq l ha).fKey) (Ac.mk hf (((B2 hb ((Aq l ha).fKey) (Ac.mk ([]:(List Ab)) 0)).fVersion)+1)))),.row he 65 4 (AH Av l)]) Aa (B0 (wm Aa (wv (r:=AD ((mset hb ((Aq l ha).fKey) (Ac.mk hf (((B2 hb ((Aq l ha).fKey) (Ac.mk ([]:(List Ab)) 0)).fVersion)+1))).length:Int)) (ZM (N:=(mset hb ((Aq l ha).fKey) (Ac.mk hf (((B2 hb ((Aq l ha).fKey) (Ac.mk ([]:(List Ab)) 0)).fVersion)+1))).length) (i:=1) Mb Aa Aa (Hg _ _)) (wv (DT Aa Aa) (Aw (cz h4 Aa (λh5 h6=>?_) (λh5 h7=>?_)))))))
     ·refine Am (wa Aa (Aw (A4 (AB (AB (Ae (Ae (Be ?_))))))));have h8:=B1 h6 hl hm;refine AB (Ae ?_);obtain rfl:=A7 h8;exact A3 (Ch Ab1 (AR Aa)) (sS (sC (sC sN))) ⟨Aa,Aa⟩
     exact A0 (AK (AK (Ay (AE (mset hb ((Aq l ha).fKey) (Ac.mk hf (((B2 hb ((Aq l ha).fKey) (Ac.mk ([]:(List Ab)) 0)).fVersion)+1)),()) h7 (AG.c Aa (AG.c Aa (AG.c Aa (AG.c Aa AG.nil)))) (sS (sC (sC sN)))))))
    refine Am (wv (BR Aa Aa) (wa Aa (Aw (cz h0 Aa (λc171 h9=>?_) (λc171 hA=>?_)))))
    ·exact An (wm Aa (vF Cv Aa BX (vL 0 Cf Aa (VD (enc:=Ax) (xs:=hb) (i:=1) Mb CT Aa Aa Aa (H':=[.blk hg (Av (Aq l ha)) 65,.map hd (AL Ax (mdel hb ((Aq l ha).fKey))),.row he 65 4 (AH Av l)]) Aa (As (AK (AK (Ay (AE (mdel hb ((Aq l ha).fKey),()) h9 (AG.c Aa (AG.c Aa (AG.c Aa (AG.c Aa AG.nil)))) (sS (sC (sC sN))))))))))))
    exact A0 (AK (AK (Ay (AE (hb,()) hA (AG.c Aa (AG.c Aa (AG.c Aa (AG.c Aa AG.nil)))) (sS (sC (sC sN)))))))
   rintro⟨ho,⟨⟩⟩ hi;refine GC ?_;replace hi:GP ha ho=some hk:=hi;unfold GP at hi;refine An (ck hi λhB hC=>wv (BW Aa Aa hB) (wm Aa (As ?_)));have hD:=B9 hC hl;exact Ay (AE (hs,(ha+1,ho),()) ⟨hD,AfV _⟩ (AG.c Aa (AG.c Aa (AG.c Aa (AG.c Aa AG.nil)))) (sC (sC sN)))
  refine B3 (A9 ?_);have hE:=Cw hw hl hm;exact A9 (Bo (AE (hb,()) hE AG.nil (sC (sC sN))))
 rintro⟨hG,⟨⟩⟩ hj;refine JZ ?_;replace hj:JB hG=some r:=hj;unfold JB at hj;refine Bn (AX (Am (wa Aa (Aw (A4 ?_)))));obtain rfl:=A7 hj;exact A3 (Ch Ab1 (AR Aa)) (sC (sC sN)) ⟨Aa,Aa⟩
theorem Pv (F:Nat)(ha:Nat)(hh:Value)(he:Nat)(hb:Nat)(hf:Value)(hd:Value)(o:Al)(c:AC)(r:Bool×Int×Al)(h:M1 F o c=some r):Fn Tryz.prog GE 35 [rP ha 0,BL [rS c.fEvent,rS c.fTenant,AD c.fAttempt,Br 4 (AH Ah c.fResult),rv hd,AD c.fAt]] [.blk ha [rB o.fMade,rv hh,rv (.map (some he)),rv (.map (some hb)),rv hf] 59,.row hh 9 1 (AH eS o.fEvents),.map he (AL Ar o.fResults),.map hb (AL Af o.fKeys),.row hf 67 8 (AH Ad o.fPending),.row hd 65 4 (AH Av c.fEffects)] (λR H=>∃w0_1:Value,∃w0_4:Value,R=CZ [rB r.1,AD r.2.1]∧H=[.blk ha [rB r.2.2.fMade,rv w0_1,rv (.map (some he)),rv (.map (some hb)),rv w0_4] 59,.row w0_1 9 1 (AH eS r.2.2.fEvents),.map he (AL Ar r.2.2.fResults),.map hb (AL Af r.2.2.fKeys),.row w0_4 67 8 (AH Ad r.2.2.fPending),.row hd 65 4 (AH Av c.fEffects)]):=by
 refine enter (n:=131) Tryz.func35 Aa Tryz.ntmps35 Aa (λw Z=>?_);unfold M1 at h;refine Am (CN Aa Aa (λb1=>?_));refine wa Aa (wa Aa (Aw (Ao (Am (wm Aa (ob h λr2 e4 h3=>Dn [1] RG (Hb ha hh he hb hf o r2 e4) ?_))))));rintro _ _ ⟨rfl,rfl⟩;refine wv (BT Aa) (Aw (cz h3 Aa (λc5 h6=>?_) (λc5 h7=>?_)))
 ·refine Am (wa Aa (wa Aa (Aw (A4 (Ae ?_)))));obtain rfl:=A7 h6;exact A3 (E3 MT (AR Aa) (AR Aa)) (sC (sS (sC (sC (sC (sC (sC sN))))))) ⟨hh,hf,Aa,Aa⟩
 refine A0 (AX (Ao (Am (wv (Bi (i:=1) GG DM Aa Aa Aa Aa) (ob h7 λr8 hE h9=>Dn [6] YJ (Nj F hd c r8 hE) ?_)))));rintro _ _ ⟨rfl,rfl⟩;refine wa Aa (B0 (wm Aa (wv (BQ Aa Aa) (Aw (cz h9 Aa (λhG hH=>?_) (λhG hI=>?_))))))
 ·refine Am (wm Aa (wa Aa (wa Aa (Aw (A4 (Ae (Gx [1,2,2,2,2] ?_)))))));obtain rfl:=A7 hH;exact A3 (E3 MT (AR Aa) (AR Aa)) (sC (sC (sC (sC (sC (sC (sS sN))))))) ⟨hh,hf,Aa,Aa⟩
 refine A0 (AX (Ao (Ao (D0 [0,3] ?_))));refine rq (Aj Aa) (rq (A6 Aa) (rq (Au GF Aa YA Aa Aa) (rq (AM (i:=1) YM Aa Aa Aa) (rq (Au C6 Aa BX Aa Aa) (rq (AM (i:=2) Cf Aa Aa Aa) (rq (r:=CZ [Br 4 (AH Ah (B2 o.fResults c.fEvent ([]:(List Ab)))),rB (E6 o.fResults c.fEvent)]) (Sj (enc:=Ar) (xs:=o.fResults) (z:=([]:(List Ab))) (i:=4) Y8 CT Add GQ Aa Aa Aa) (rq (Aj Aa) (rq (A8 Aa Aa) (rq (A8 Aa Aa) (rq (AA Aa) (rq (AA Aa) (re [8,0,3] ?_))))))))))));refine AX (Am (wm Aa (Aw (cz hI Aa (λhJ hK=>?_) (λhJ hL=>?_)))))
 ·refine Am (wa Aa (wa Aa (Aw (A4 (Ae (Gx [1,2,2,2,2] ?_))))));obtain rfl:=A7 hK;exact A3 (E3 MT (AR Aa) (AR Aa)) (sC (sC (sC (sC (sC (sC (sS sN))))))) ⟨hh,hf,Aa,Aa⟩
 refine A0 (AX (Ao (Am (wm Aa (wv (A6 Aa) (vF GF Aa IN (vL 1 Od Aa (wv (Ca (ys:=o.fEvents) (enc:=eS) (i:=3) CD Aa Aa) (wv (JV Aa Aa) (Aw (cz hL Aa (λhN hO=>?_) (λhN hP=>?_))))))))))))
 ·refine Am (wa Aa (wa Aa (Aw (A4 (Ae (Gx [1,2,2,2,2] ?_))))));obtain rfl:=A7 hO;exact A3 (E3 MT (AR Aa) (AR Aa)) (sC (sC (sC (sC (sC (sC (sS sN))))))) ⟨hh,hf,Aa,Aa⟩
 refine A0 (AX (Am (KM Aa (λhm=>?_))));refine wa Aa (Aw (Ao (Ao (Dr 7 [0,3,9] [⟨[],rP ha 0,none,none,none⟩,⟨[0],rP ha 0,none,none,none⟩,⟨[1],rP ha 3,none,none,none⟩,⟨[2],rv (.map (some hb)),none,none,none⟩,⟨[],rP b1 1,none,none,none⟩,⟨[4],rS c.fTenant,none,none,none⟩,⟨[3,5],NJ (AL Ax (B2 o.fKeys c.fTenant ([]:(List (Ai×Ac))))),none,none,none⟩] ?_ (λβ=>?_)))))
 ·refine Do (Aj Aa) (Do (A6 Aa) (Do (Au GF Aa WH Aa Aa) (HW (AM (i:=2) WP Aa Aa Aa) (Do (Au C6 Aa BX Aa Aa) (HW (AM (i:=3) Cf Aa Aa Aa) (HW (Nf (enc:=Af) (xs:=o.fKeys) (z:=([]:(List (Ai×Ac)))) (i:=6) WG CT Aby Dc Aa Aa Aa) ?_))))));exact Sh
 refine Dq (H1:=[.map hm (AL Ax ([]:List (Ai×Ac))),.row hd 65 4 (AH Av c.fEffects),.blk ha [rB o.fMade,rv hh,rv (.map (some he)),rv (.map (some hb)),rv hf] 59,.blk b1 [rS c.fEvent,rS c.fTenant,AD c.fAttempt,Br 4 (AH Ah c.fResult),rv hd,AD c.fAt] 34,.row hh 9 1 (AH eS o.fEvents),.map he (AL Ar o.fResults),.map hb (AL Af o.fKeys),.row hf 67 8 (AH Ad o.fPending)]) [43,44,45,46,47,48,49,0,3,9] ?_;refine ON Mb Aa Aa (λht=>?_);refine Aw (AS ?_);have hQ:=Vb hP;refine B4 (S:=(List (Ai×Ac))×((List (Ai×Ac)))×(Unit)) (V:=((List (Ai×Ac)))×(Unit)) 0 (λσ=>∀qo:List (Ai×Ac),qo.Perm σ.1→Bq (Rk (λpe τ=>I7 pe.1 pe.2 τ) qo σ.2.1) (BO λν=>Gm F o c ν)=some r) (λσ=>[(0,rP ha 0),(3,rP b1 0),(9,rv (.map (some hm))),(50,rP ht 0)]) (λσ=>[.itz ht (AL Ax (B2 o.fKeys c.fTenant ([]:(List (Ai×Ac))))) (AL Ax σ.1) none,.map hm (AL Ax σ.2.1),.row hd 65 4 (AH Av c.fEffects),.blk ha [rB o.fMade,rv hh,rv (.map (some he)),rv (.map (some hb)),rv hf] 59,.blk b1 [rS c.fEvent,rS c.fTenant,AD c.fAttempt,Br 4 (AH Ah c.fResult),rv hd,AD c.fAt] 34,.row hh 9 1 (AH eS o.fEvents),.map he (AL Ar o.fResults),.map hb (AL Af o.fKeys),.row hf 67 8 (AH Ad o.fPending)]) (λσ=>σ.1.length) (B2 o.fKeys c.fTenant ([]:(List (Ai×Ac))),([]:List (Ai×Ac)),()) hQ (AG.c Aa (AG.c Aa (AG.c Aa (AG.c Aa AG.nil)))) (sC (sC (sC (sC (sC (sC (sC (sC (sC sN))))))))) (λσ=>Gm F o c σ.1=some r) (λσ=>[(0,rP ha 0),(3,rP b1 0),(9,rv (.map (some hm)))]) (λσ=>[.map hm (AL Ax σ.1),.row hd 65 4 (AH Av c.fEffects),.blk ha [rB o.fMade,rv hh,rv (.map (some he)),rv (.map (some hb)),rv hf] 59,.blk b1 [rS c.fEvent,rS c.fTenant,AD c.fAttempt,Br 4 (AH Ah c.fResult),rv hd,AD c.fAt] 34,.row hh 9 1 (AH eS o.fEvents),.map he (AL Ar o.fResults),.map hb (AL Af o.fKeys),.row hf 67 8 (AH Ad o.fPending)]) ?_ ?_
 ·rintro⟨hR,hp,⟨⟩⟩ h4;refine GC ?_;refine Am (RJ (enc:=Ax) (ys:=hR) (i:=0) Aa Aa Aa (λhy=>?_) (λp h1 h5=>?_))
  ·have hS:Gm F o c hp=some r:=Ss h4 hy;exact wv (A8 Aa Aa) (Aw (Ao (D9 Aa Aa (B3 (A9 (A9 (Bo (AE (hp,()) hS (AG.c Aa (AG.c Aa (AG.c Aa AG.nil))) (sS (sC (sC (sC (sC (sC (sC (sC (sC sN)))))))))))))))))
  obtain⟨hr,ho⟩:=p;obtain⟨hT,hu,hU⟩:=Aas h4 h5;replace hu:I7 hr ho hp=some hT:=hu;unfold I7 at hu;refine U4 (H':=[.itz ht (AL Ax (B2 o.fKeys c.fTenant ([]:(List (Ai×Ac))))) (AL Ax h1) (some (hr,Ax ho)),.map hm (AL Ax hp),.row hd 65 4 (AH Av c.fEffects),.blk ha [rB o.fMade,rv hh,rv (.map (some he)),rv (.map (some hb)),rv hf] 59,.blk b1 [rS c.fEvent,rS c.fTenant,AD c.fAttempt,Br 4 (AH Ah c.fResult),rv hd,AD c.fAt] 34,.row hh 9 1 (AH eS o.fEvents),.map he (AL Ar o.fResults),.map hb (AL Af o.fKeys),.row hf 67 8 (AH Ad o.fPending)]) Aa (wv (A8 Aa Aa) (Aw (Ao (DE Aa Aa (A0 (AX (AS (Am (wv (r:=CZ [rS hr,BL (C5 ho)]) (Pq (i:=0) Aa Aa) (wv (A8 Aa Aa) (wv (A8 Aa Aa) (BZ (cs:=[rv (.slice none 0 0),AD 0]) WD Aa Aa (λhV=>?_)))))))))))));refine wa Aa (LZ (i:=0) Y9 Aa Aa Aa (Cm.c Aa) Aa Aa ?_);refine Aw (An (wm Aa (wm Aa (wv (Bi (i:=0) Tryz.isAgg90 Y9 Aa Aa Aa Aa) (Iz (enc:=Ax) (xs:=hp) (v:=ho) (i:=2) Mb CT Aa Aa Aa Aa (H':=[.blk hV (C5 ho) 90,.itz ht (AL Ax (B2 o.fKeys c.fTenant ([]:(List (Ai×Ac))))) (AL Ax h1) (some (hr,Ax ho)),.map hm (AL Ax (mset hp hr ho)),.row hd 65 4 (AH Av c.fEffects),.blk ha [rB o.fMade,rv hh,rv (.map (some he)),rv (.map (some hb)),rv hf] 59,.blk b1 [rS c.fEvent,rS c.fTenant,AD c.fAttempt,Br 4 (AH Ah c.fResult),rv hd,AD c.fAt] 34,.row hh 9 1 (AH eS o.fEvents),.map he (AL Ar o.fResults),.map hb (AL Af o.fKeys),.row hf 67 8 (AH Ad o.fPending)]) Aa (As (AK (WK.uncurz (i:=1) Aa ?_))))))));have hW:=Nn hu hU;exact Ay (AE (h1,mset hp hr ho,()) ⟨hW,Sd h5⟩ (AG.c Aa (AG.c Aa (AG.c Aa (AG.c Aa AG.nil)))) (sS (sC (sC (sC (sC (sC (sC (sC (sC (sC sN)))))))))))
 rintro⟨h8,⟨⟩⟩ hw;refine JZ ?_;replace hw:Gm F o c h8=some r:=hw;unfold Gm at hw;refine Bn (AX (Ao (Am (wm Aa (vF C6 Aa Kc (vL 3 MU Aa (ob hw λhj hX hY=>Dn [0,0] Tryz.call65 (X1 F hm hd h8 c.fEffects hj hX) ?_)))))));rintro _ _ ⟨rfl,rfl⟩;refine wa Aa (B0 (wm Aa (wv (BQ Aa Aa) (Aw (cz hY Aa (λhZ ga=>?_) (λhZ gb=>?_))))))
 ·refine Am (wm Aa (wa Aa (wa Aa (Aw (A4 (Ae (Gx [2,3,3,3,3,1] ?_)))))));obtain rfl:=A7 ga;exact A3 (E3 MT (AR Aa) (AR Aa)) (sC (sC (sC (sC (sC (sC (sS (sS sN)))))))) ⟨hh,hf,Aa,Aa⟩
 refine A0 (AX (Ao (Dr 7 [0,3,9] [⟨[],rP ha 0,none,none,none⟩,⟨[0],rP ha 0,none,none,none⟩,⟨[1],rP ha 3,none,none,none⟩,⟨[2],rv (.map (some hb)),none,none,none⟩,⟨[],rP b1 1,none,none,none⟩,⟨[4],rS c.fTenant,none,none,none⟩,⟨[],rv (.map (some hm)),none,none,none⟩] ?_ (λβ=>?_))))
 ·refine Do (Aj Aa) (Do (A6 Aa) (Do (Au GF Aa WH Aa Aa) (HW (AM (i:=2) WP Aa Aa Aa) (Do (Au C6 Aa BX Aa Aa) (HW (AM (i:=3) Cf Aa Aa Aa) (Do (Aj Aa) ?_))))));exact Sh
 refine Dq (H1:=[.map hm (AL Ax hj.2),.row hd 65 4 (AH Av c.fEffects),.blk ha [rB o.fMade,rv hh,rv (.map (some he)),rv (.map (some hb)),rv hf] 59,.blk b1 [rS c.fEvent,rS c.fTenant,AD c.fAttempt,Br 4 (AH Ah c.fResult),rv hd,AD c.fAt] 34,.row hh 9 1 (AH eS o.fEvents),.map he (AL Ar o.fResults),.map hb (AL Af o.fKeys),.row hf 67 8 (AH Ad o.fPending)]) [66,67,68,69,70,71,72,0,3,9] ?_;refine WL.freezeM (i:=0) Aa (WL.up (d:=72) (r:=NJ (AL Ax hj.2)) Aa (Up.fact (i:=0) Aa) (Iz (enc:=Af) (xs:=o.fKeys) (v:=hj.2) (i:=6) WG CT Aa Aa Aa Aa (H':=[.fact (.map (some hm)) (NJ (AL Ax hj.2)),.row hd 65 4 (AH Av c.fEffects),.blk ha [rB o.fMade,rv hh,rv (.map (some he)),rv (.map (some hb)),rv hf] 59,.blk b1 [rS c.fEvent,rS c.fTenant,AD c.fAttempt,Br 4 (AH Ah c.fResult),rv hd,AD c.fAt] 34,.row hh 9 1 (AH eS o.fEvents),.map he (AL Ar o.fResults),.map hb (AL Af (mset o.fKeys c.fTenant hj.2)),.row hf 67 8 (AH Ad o.fPending)]) Aa (Aw (Ao (ck gb λgc gd=>Exists.elim P9 λinf hinf=>OL 9 8 [0,3] [] [{ deps:=[],r:=λ_=>rP ha 0 },{ deps:=[],r:=λ_=>rP ha 0 },{ deps:=[1],r:=λ_=>rP ha 0 },{ deps:=[2],r:=λ_=>rP ha 1 },{ deps:=[3],r:=λ_=>rv hh },{ deps:=[],r:=λ_=>rP b1 0 },{ deps:=[5],r:=λ_=>rS c.fEvent },{ deps:=[6],r:=λ_=>Br 1 (AH eS ([c.fEvent]:List Ai)) },{ deps:=[4,7],r:=λhi=>rv hi,dyn:=true }] (λhi=>[.row hi 9 1 (AH eS (o.fEvents++([c.fEvent]:List Ai))),.fact (.map (some hm)) (NJ (AL Ax hj.2)),.row hd 65 4 (AH Av c.fEffects),.blk ha [rB o.fMade,rv hh,rv (.map (some he)),rv (.map (some hb)),rv hf] 59,.blk b1 [rS c.fEvent,rS c.fTenant,AD c.fAttempt,Br 4 (AH Ah c.fResult),rv hd,AD c.fAt] 34,.map he (AL Ar o.fResults),.map hb (AL Af (mset o.fKeys c.fTenant hj.2)),.row hf 67 8 (AH Ad o.fPending)]) ?_ (λhi=>?_))))))
 ·refine Ka (Aj Aa) (Ka (Aj Aa) (Ka (A6 Aa) (Ka (Au GF Aa IN Aa Aa) (VW (fun {hi}=>Es (AM (i:=2) Od Aa Aa Aa)) (fun {hi}=>Es (AM (i:=3) Od Aa Aa Aa)) (Ka (Au C6 Aa BX Aa Aa) (VW (fun {hi}=>Es (AM (i:=3) Cf Aa Aa Aa)) (fun {hi}=>Es (AM (i:=4) Cf Aa Aa Aa)) (oxc (C4 (ys:=([c.fEvent]:List Ai)) (enc:=eS) (css:=[[rS c.fEvent]]) (xs:=[.tmp 79]) CD BX V4 Aa Aa Aa ⟨E4.one Aa (Up.refl _),trivial⟩ Aa DC Aa Aa) (oxx (Kd (xs:=o.fEvents) (ys:=([c.fEvent]:List Ai)) (enc:=eS) (i:=4) CD hinf.1 hinf.2.1 hinf.2.2.1 hinf.2.2.2 Aa Aa Aa Aa Aa (JG.z Aa Aa) DC LR gc) ?_))))))));exact oxe
 refine Dq (H1:=[.row hi 9 1 (AH eS (o.fEvents++([c.fEvent]:List Ai))),.fact (.map (some hm)) (NJ (AL Ax hj.2)),.row hd 65 4 (AH Av c.fEffects),.blk ha [rB o.fMade,rv hh,rv (.map (some he)),rv (.map (some hb)),rv hf] 59,.blk b1 [rS c.fEvent,rS c.fTenant,AD c.fAttempt,Br 4 (AH Ah c.fResult),rv hd,AD c.fAt] 34,.map he (AL Ar o.fResults),.map hb (AL Af (mset o.fKeys c.fTenant hj.2)),.row hf 67 8 (AH Ad o.fPending)]) [73,74,75,76,77,78,79,80,81,0,3] ?_;refine wv (A6 Aa) (vF GF Aa IN (us (i:=3) IN Aa Aa (C2 (i:=0) Aa) Aa Aa ?_));refine Aw (Ao (ob gd λhn ge gf=>Dr 9 [0,3] [⟨[],rP ha 0,none,none,none⟩,⟨[0],rP ha 0,none,none,none⟩,⟨[1],rP ha 2,none,none,none⟩,⟨[2],rv (.map (some he)),none,none,none⟩,⟨[],rP b1 0,none,none,none⟩,⟨[4],rS c.fEvent,none,none,none⟩,⟨[],rP b1 3,none,none,none⟩,⟨[6],Br 4 (AH Ah c.fResult),none,none,none⟩,⟨[7],Br 4 (AH Ah hn),none,none,none⟩] ?_ (λβ=>?_)))
 ·refine Do (Aj Aa) (Do (A6 Aa) (Do (Au GF Aa YA Aa Aa) (HW (AM (i:=3) YM Aa Aa Aa) (Do (Au C6 Aa BX Aa Aa) (HW (AM (i:=4) Cf Aa Aa Aa) (Do (Au C6 Aa CR Aa Aa) (HW (AM (i:=4) EC Aa Aa Aa) (NL (G0 U1 (Ij c.fResult hn ge) Aa) ?_))))))));exact Sh
 refine Dq (H1:=[.row hi 9 1 (AH eS (o.fEvents++([c.fEvent]:List Ai))),.fact (.map (some hm)) (NJ (AL Ax hj.2)),.row hd 65 4 (AH Av c.fEffects),.blk ha [rB o.fMade,rv hi,rv (.map (some he)),rv (.map (some hb)),rv hf] 59,.blk b1 [rS c.fEvent,rS c.fTenant,AD c.fAttempt,Br 4 (AH Ah c.fResult),rv hd,AD c.fAt] 34,.map he (AL Ar o.fResults),.map hb (AL Af (mset o.fKeys c.fTenant hj.2)),.row hf 67 8 (AH Ad o.fPending)]) [84,85,86,87,88,89,90,91,92,0,3] ?_;refine Iz (enc:=Ar) (xs:=o.fResults) (v:=hn) (i:=5) Y8 CT Aa Aa Aa Aa (H':=[.row hi 9 1 (AH eS (o.fEvents++([c.fEvent]:List Ai))),.fact (.map (some hm)) (NJ (AL Ax hj.2)),.row hd 65 4 (AH Av c.fEffects),.blk ha [rB o.fMade,rv hi,rv (.map (some he)),rv (.map (some hb)),rv hf] 59,.blk b1 [rS c.fEvent,rS c.fTenant,AD c.fAttempt,Br 4 (AH Ah c.fResult),rv hd,AD c.fAt] 34,.map he (AL Ar (mset o.fResults c.fEvent hn)),.map hb (AL Af (mset o.fKeys c.fTenant hj.2)),.row hf 67 8 (AH Ad o.fPending)]) Aa (Aw (Ao (Am (vF C6 Aa Kc (vL 4 MU Aa (wv (Ca (ys:=c.fEffects) (enc:=Av) (i:=2) Hy Aa Aa) (wv (r:=AD 0) (Aj Aa) (Aw (AS (ob gf λgg gh gi=>B4 (S:=Nat×(Int×(List Ak))×(Value)) (V:=((List Ak))×(Value)) 2 (λσ=>Ci (λσ=>I6 c σ.1 σ.2) σ.1 σ.2.1=some gg) (λσ=>[(0,rP ha 0),(3,rP b1 0),(94,rv hd),(95,AD (c.fEffects.length:Int)),(96,AD σ.2.1.1)]) (λσ=>[.row hi 9 1 (AH eS (o.fEvents++([c.fEvent]:List Ai))),.row hd 65 4 (AH Av c.fEffects),.blk ha [rB o.fMade,rv hi,rv (.map (some he)),rv (.map (some hb)),rv σ.2.2] 59,.blk b1 [rS c.fEvent,rS c.fTenant,AD c.fAttempt,Br 4 (AH Ah c.fResult),rv hd,AD c.fAt] 34,.map he (AL Ar (mset o.fResults c.fEvent hn)),.map hb (AL Af (mset o.fKeys c.fTenant hj.2)),.row σ.2.2 67 8 (AH Ad σ.2.1.2)]) (λσ=>σ.1) (F,(0,o.fPending),hf) gh (AG.c5 Aa Aa Aa Aa Aa AG.nil) (sC (sS (sC (sC (sC (sC (sC (sC sN)))))))) (λσ=>I5 o c hj hn σ.1=some r) (λσ=>[]) (λσ=>[.row hi 9 1 (AH eS (o.fEvents++([c.fEvent]:List Ai))),.row hd 65 4 (AH Av c.fEffects),.blk ha [rB o.fMade,rv hi,rv (.map (some he)),rv (.map (some hb)),rv σ.2] 59,.map he (AL Ar (mset o.fResults c.fEvent hn)),.map hb (AL Af (mset o.fKeys c.fTenant hj.2)),.row σ.2 67 8 (AH Ad σ.1)]) ?_ ?_))))))))))
 ·rintro⟨gD,⟨hg,hq⟩,hs⟩ gj;refine GC ?_;obtain⟨gl,rfl,h2,hx,hA⟩:=Di gj;replace hx:I6 c hg hq=some h2:=hx;unfold I6 at hx;refine Am (wv (Dh Aa Aa) (Aw (Ao (cz hx Aa (λgm gp=>?_) (λgm gq=>?_)))))
  ·refine A0 (AX (Cn (S:=((List Ak))×(Value)) (λσ=>He hg σ.1=some h2) (λσ=>[(0,rP ha 0),(3,rP b1 0),(94,rv hd),(95,AD (c.fEffects.length:Int)),(96,AD hg)]) (λσ=>[.row hi 9 1 (AH eS (o.fEvents++([c.fEvent]:List Ai))),.row hd 65 4 (AH Av c.fEffects),.blk ha [rB o.fMade,rv hi,rv (.map (some he)),rv (.map (some hb)),rv σ.2] 59,.blk b1 [rS c.fEvent,rS c.fTenant,AD c.fAttempt,Br 4 (AH Ah c.fResult),rv hd,AD c.fAt] 34,.map he (AL Ar (mset o.fResults c.fEvent hn)),.map hb (AL Af (mset o.fKeys c.fTenant hj.2)),.row σ.2 67 8 (AH Ad σ.1)]) ?_ ?_))
   ·refine AS (Am (wm Aa (ck gp λhB gr=>wv (r:=rv (Gd 4 hd (BC hg) 0)) (Eu (i:=1) Hy Dj Aa Aa Aa (BE hB)) (wv (r:=BL (Av (Aq c.fEffects hg))) (KU (enc:=Av) (ys:=c.fEffects) (i:=1) (j:=hg) Is Dj Aa Aa hB Aa Aa) (BZ (cs:=[AD 0,rS ([]:Ai),rv (.slice none 0 0),AD 0]) L7 Aa Aa (λhC=>?_))))));refine wa Aa (LZ (i:=0) Dj Aa Aa Aa (Cm.c Aa) Aa Aa ?_);refine B0 (vF Cv Aa Hk (vL 0 Hl Aa (ob gr λgs gt gu=>DI Tryz.call66 (I2 ((Aq c.fEffects hg).fKind) gs gt) Aa (Aw (cz gu Aa (λgv gw=>?_) (λgv gx=>?_))))))
    ·refine Am (vF C6 Aa BX (vL 4 Cf Aa (wm Aa (ck gw λgy gz=>ck gz λg0 g1=>Ds (rs:=[rS c.fEvent,AD hg]) (r:=CZ [rS (BK c.fEvent hg),AD (C1 c.fEvent hg)]) Tryz.call67 Aa (O9 c.fEvent hg gy g0) Aa Aa (wm Aa (wv (A8 Aa Aa) (wv (A8 Aa Aa) (wa Aa (wa Aa (Aw (ob g1 λhk g2 g3=>ck g3 λg4 g5=>Exists.elim PA λinf hinf=>OL 17 16 [0,3,14,15,94,95,96] [] [{ deps:=[],r:=λ_=>rP ha 0 },{ deps:=[],r:=λ_=>rP ha 0 },{ deps:=[1],r:=λ_=>rP ha 0 },{ deps:=[2],r:=λ_=>rP ha 4 },{ deps:=[3],r:=λ_=>rv hs },{ deps:=[],r:=λ_=>rS (BK c.fEvent hg) },{ deps:=[],r:=λ_=>rP b1 1 },{ deps:=[6],r:=λ_=>rS c.fTenant },{ deps:=[],r:=λ_=>rP b1 0 },{ deps:=[8],r:=λ_=>rS c.fEvent },{ deps:=[],r:=λ_=>rP b1 5 },{ deps:=[10],r:=λ_=>AD c.fAt },{ deps:=[],r:=λ_=>BL (Av (Aq c.fEffects hg)) },{ deps:=[12],r:=λ_=>BL (Av hk) },{ deps:=[5,7,9,11,13],r:=λ_=>BL [rS (BK c.fEvent hg),rS c.fTenant,rS c.fEvent,AD c.fAt,AD hk.fKind,rS hk.fKey,Br 4 (AH Ah hk.fValue),AD hk.fDelay] },{ deps:=[14],r:=λ_=>Br 8 (AH Ad ([(Ak.mk (BK c.fEvent hg) c.fTenant c.fEvent c.fAt hk)]:List Ak)) },{ deps:=[4,15],r:=λhl=>rv hl,dyn:=true }] (λhl=>[.row hl 67 8 (AH Ad (hq++([(Ak.mk (BK c.fEvent hg) c.fTenant c.fEvent c.fAt hk)]:List Ak))),.blk hC (Av (Aq c.fEffects hg)) 65,.row hi 9 1 (AH eS (o.fEvents++([c.fEvent]:List Ai))),.row hd 65 4 (AH Av c.fEffects),.blk ha [rB o.fMade,rv hi,rv (.map (some he)),rv (.map (some hb)),rv hs] 59,.blk b1 [rS c.fEvent,rS c.fTenant,AD c.fAttempt,Br 4 (AH Ah c.fResult),rv hd,AD c.fAt] 34,.map he (AL Ar (mset o.fResults c.fEvent hn)),.map hb (AL Af (mset o.fKeys c.fTenant hj.2))]) ?_ (λhl=>?_))))))))))))
     ·refine Ka (Aj Aa) (Ka (Aj Aa) (Ka (A6 Aa) (Ka (Au GF Aa OE Aa Aa) (VW (fun {hl}=>Es (AM (i:=3) U3 Aa Aa Aa)) (fun {hl}=>Es (AM (i:=4) U3 Aa Aa Aa)) (Ka (Aj Aa) (Ka (Au C6 Aa BX Aa Aa) (VW (fun {hl}=>Es (AM (i:=4) Cf Aa Aa Aa)) (fun {hl}=>Es (AM (i:=5) Cf Aa Aa Aa)) (Ka (Au C6 Aa BX Aa Aa) (VW (fun {hl}=>Es (AM (i:=4) Cf Aa Aa Aa)) (fun {hl}=>Es (AM (i:=5) Cf Aa Aa Aa)) (Ka (Au C6 Aa Cy Aa Aa) (VW (fun {hl}=>Es (AM (i:=4) CO Aa Aa Aa)) (fun {hl}=>Es (AM (i:=5) CO Aa Aa Aa)) (VW (fun {hl}=>Es (Bi (i:=0) Is Dj Aa Aa Aa Aa)) (fun {hl}=>Es (Bi (i:=1) Is Dj Aa Aa Aa Aa)) (oxc (G0 Tryz.call44 (US (Aq c.fEffects hg) hk g2) Aa) (Ka (Hv Aa Aa Aa Aa Aa Aa Aa Aa Aa) (oxc (C4 (ys:=([(Ak.mk (BK c.fEvent hg) c.fTenant c.fEvent c.fAt hk)]:List Ak)) (enc:=Ad) (css:=[[rS (BK c.fEvent hg),rS c.fTenant,rS c.fEvent,AD c.fAt,AD hk.fKind,rS hk.fKey,Br 4 (AH Ah hk.fValue),AD hk.fDelay]]) (xs:=[.tmp 125]) BY Cr WE Aa Aa Aa ⟨E4.agg ⟨Up.refl _,Up.refl _,Up.refl _,Up.refl _,Up.refl _,Up.refl _,Up.refl _,Up.refl _,trivial⟩,trivial⟩ Aa Cp Aa Aa) (oxx (Kd (xs:=hq) (ys:=([(Ak.mk (BK c.fEvent hg) c.fTenant c.fEvent c.fAt hk)]:List Ak)) (enc:=Ad) (i:=7) BY hinf.1 hinf.2.1 hinf.2.2.1 hinf.2.2.2 Aa Aa Aa Aa Aa (JG.z Aa Aa) Cp DB g4) ?_))))))))))))))));exact oxe
     refine Dq (H1:=[.row hl 67 8 (AH Ad (hq++([(Ak.mk (BK c.fEvent hg) c.fTenant c.fEvent c.fAt hk)]:List Ak))),.blk hC (Av (Aq c.fEffects hg)) 65,.row hi 9 1 (AH eS (o.fEvents++([c.fEvent]:List Ai))),.row hd 65 4 (AH Av c.fEffects),.blk ha [rB o.fMade,rv hi,rv (.map (some he)),rv (.map (some hb)),rv hs] 59,.blk b1 [rS c.fEvent,rS c.fTenant,AD c.fAttempt,Br 4 (AH Ah c.fResult),rv hd,AD c.fAt] 34,.map he (AL Ar (mset o.fResults c.fEvent hn)),.map hb (AL Af (mset o.fKeys c.fTenant hj.2))]) [111,112,113,114,115,116,117,118,119,120,121,122,123,124,125,126,127,0,3,14,15,94,95,96] ?_;refine wv (A6 Aa) (vF GF Aa OE (us (i:=4) OE Aa Aa (C2 (i:=0) Aa) Aa Aa ?_));refine As (AK (Gx [2,2,2,2,2,2] ?_));exact Ay (AE (hq++([(Ak.mk (BK c.fEvent hg) c.fTenant c.fEvent c.fAt hk)]:List Ak),hl) g5 (AG.c5 Aa Aa Aa Aa Aa AG.nil) (sC (sC (sC (sC (sC (sC (sC (sS sN)))))))))
    exact A0 (AK (Ay (AE (hq,hs) gx (AG.c5 Aa Aa Aa Aa Aa AG.nil) (sS (sC (sC (sC (sC (sC (sC (sC sN)))))))))))
   rintro⟨hD,g6⟩ hz;refine GC ?_;replace hz:He hg hD=some h2:=hz;unfold He at hz;refine An (ck hz λg7 g8=>wv (BW Aa Aa g7) (wm Aa (As ?_)));have g9:=B9 g8 hA;exact Ay (AE (gl,(hg+1,hD),g6) ⟨g9,AfV _⟩ (AG.c5 Aa Aa Aa Aa Aa AG.nil) (sC (sC (sC (sC (sC (sC (sC sN))))))))
  refine B3 (A9 ?_);have gA:=Cw gq hA gi;exact A9 (Bo (AE (hq,hs) gA AG.nil (sC (sC (sC (sS (sC (sC (sC sN)))))))))
 rintro⟨gB,gC⟩ h0;refine JZ ?_;replace h0:I5 o c hj hn gB=some r:=h0;unfold I5 at h0;refine Bn (AX (Am (wa Aa (wa Aa (Aw (A4 (Gx [2,0,1,1,1] ?_)))))));obtain rfl:=A7 h0;exact A3 (E3 MT (AR Aa) (AR Aa)) (sC (sC (sC (sC (sC (sC sN)))))) ⟨hi,gC,Aa,Aa⟩
theorem Qr (ha:Value)(c:AC)(r:Bool×Int)(h:Kv c=some r):Fn Tryz.prog GE 35 [rv (.pointer none),BL [rS c.fEvent,rS c.fTenant,AD c.fAttempt,Br 4 (AH Ah c.fResult),rv ha,AD c.fAt]] [.row ha 65 4 (AH Av c.fEffects)] (λR H=>R=CZ [rB r.1,AD r.2]∧H=[.row ha 65 4 (AH Av c.fEffects)]):=by
 refine enter (n:=131) Tryz.func35 Aa Tryz.ntmps35 Aa (λw Z=>?_);unfold Kv at h;refine Am (CN Aa Aa (λb1=>?_));refine wa Aa (wa Aa (Aw (Ao (Am (wm Aa (DI RG (T4 false Aa) Aa (wv (BT Aa) (Aw (DE Aa (AcU Aa) (Am (wa Aa (wa Aa (Aw (A4 (Ae ?_)))))))))))))));obtain rfl:=A7 h;exact A3 (E3 MT (AR Aa) (AR Aa)) (sS (sC sN)) ⟨Aa,Aa⟩
theorem GR (F:Nat)  (r:Bool)(h:G4 F=some r):Fn Tryz.prog GE 8 [] [] (λR H=>R=rB r∧H=[]):=by
 refine enter (n:=215) Tryz.func8 Aa Tryz.ntmps8 Aa (λw Z=>?_);unfold G4 at h;refine Am (wa Aa (B0 (ob h λr1 e3 h2=>DI Tryz.call34 (I9 7 r1 e3) Aa (ob h2 λr4 e6 h5=>DI Tryz.call34 (I9 1 r4 e6) Aa (wv (r:=BL [AD 1,rS ([107]:Ai),Br 4 (AH Ah r4),AD 0]) (JN Aa Aa Aa Aa Aa Aa) (ob h5 λr7 e9 h8=>DI Tryz.call34 (I9 2 r7 e9) Aa (wv (r:=BL [AD 3,rS ([115]:Ai),Br 4 (AH Ah r7),AD 0]) (JN Aa Aa Aa Aa Aa Aa) (Bf (ys:=([(Ap.mk 1 ([107]:Ai) r4 0),(Ap.mk 3 ([115]:Ai) r7 0)]:List Ap)) (enc:=Av) (css:=[[AD 1,rS ([107]:Ai),Br 4 (AH Ah r4),AD 0],[AD 3,rS ([115]:Ai),Br 4 (AH Ah r7),AD 0]]) (xs:=[.tmp 17,.tmp 19]) Hy Dj L7 Aa Aa Aa ⟨E4.agg ⟨Up.refl _,Up.refl _,Up.refl _,Up.refl _,trivial⟩,E4.agg ⟨Up.refl _,Up.refl _,Up.refl _,Up.refl _,trivial⟩,trivial⟩ Aa DA Aa Aa Aa (λhj=>?_)))))))));refine wv (r:=BL [rS ([101,49]:Ai),rS ([116]:Ai),AD 1,Br 4 (AH Ah r1),rv (.slice (some ⟨hj,0,none⟩) 2 2),AD 5]) (JW Aa Aa Aa Aa Aa Aa Aa Aa Aa Aa Aa Aa) (BZ (cs:=[rS ([]:Ai),rS ([]:Ai),AD 0,rv (.slice none 0 0),rv (.slice none 0 0),AD 0]) Abz Aa Aa (λgl=>?_));refine LZ (i:=0) DM Aa Aa Aa ⟨(B5 Aa),(B5 Aa),(B5 Aa),(B5 Aa),(C2 (i:=1) Aa),(B5 Aa),trivial⟩ Aa Aa ?_;refine B0 (ob h8 λgc gm gp=>Dn [] yk9 (Sl gc gm) ?_);rintro _ _ ⟨hi,gq,hg,hh,gr,rfl,rfl⟩;refine wa Aa (B0 (wm Aa (wv (Bi (i:=5) GG DM Aa Aa Aa Aa) (ob gp λhl gs gt=>Dn [0,0,0,0,0,1] YH (Pv F hi gq hg hh gr (.slice (some ⟨hj,0,none⟩) 2 2) gc (AC.mk ([101,49]:Ai) ([116]:Ai) 1 r1 ([(Ap.mk 1 ([107]:Ai) r4 0),(Ap.mk 3 ([115]:Ai) r7 0)]:List Ap) 5) hl gs) ?_))));rintro _ _ ⟨gu,v24,rfl,rfl⟩;refine wm Aa (wv (A8 Aa Aa) (wv (A8 Aa Aa) (wa Aa (wa Aa (B0 (wm Aa (wv (Bi (i:=6) GG DM Aa Aa Aa Aa) (ob gt λhe gv gw=>Dn [0,0,0,0,0,0] YH (Pv F hi gu hg hh v24 (.slice (some ⟨hj,0,none⟩) 2 2) hl.2.2 (AC.mk ([101,49]:Ai) ([116]:Ai) 1 r1 ([(Ap.mk 1 ([107]:Ai) r4 0),(Ap.mk 3 ([115]:Ai) r7 0)]:List Ap) 5) he gv) ?_))))))));rintro _ _ ⟨hK,hL,rfl,rfl⟩;refine wm Aa (wv (A8 Aa Aa) (wv (A8 Aa Aa) (wa Aa (wa Aa (B0 (wm Aa (ob gw λhb gx gy=>Dn [0,0,0,0,0] YL (Ku F hi hK hg hh hL he.2.2 ([116]:Ai) hb gx) ?_)))))));rintro _ _ ⟨rfl,rfl⟩;refine wa Aa (B0 (wm Aa (ob gy λha gz g0=>Dn [0,0,0,0,0] U2 (EY F hi hK hg hh hL he.2.2 ha gz) ?_)));rintro _ _ ⟨rfl,rfl⟩;refine wa Aa (Aw (Ao (Am (wm Aa (wv (BQ Aa Aa) (wm Aa (ck g0 λhX g1=>AQ (b:=!decide (hl.2.1=0)) Aa Aa (Bool.not_eq_eq_eq_not.1 hX) (wm Aa (AQ (b:=!decide (hl.2.1=0)) Aa Aa (Bool.not_eq_eq_eq_not.1 hX) (wv (BQ Aa Aa) (wv (r:=rB (!decide (he.2.1=0))) (A2 (b:=!decide (hl.2.1=0)) Aa (Bool.not_eq_eq_eq_not.1 hX) Aa) (wm Aa (ck g1 λhY g2=>AQ (b:=!decide (he.2.1=0)) Aa Aa (Bool.not_eq_eq_eq_not.1 hY) (wm Aa (AQ (b:=!decide (he.2.1=0)) Aa Aa (Bool.not_eq_eq_eq_not.1 hY) (wv (BT Aa) (wv (r:=rB (!hl.1)) (A2 (b:=!decide (he.2.1=0)) Aa (Bool.not_eq_eq_eq_not.1 hY) Aa) (wm Aa (ck g2 λgd g3=>AQ (b:=!hl.1) Aa Aa (Bool.not_eq_eq_eq_not.1 gd) (wm Aa ?_))))))))))))))))))));refine wv (r:=rB he.1) (A2 (b:=!hl.1) Aa (Bool.not_eq_eq_eq_not.1 gd) Aa) (wm Aa (ck g3 λhN g4=>AQ (b:=he.1) Aa Aa (Bool.not_eq_eq_eq_not.1 hN) (wm Aa (AQ (b:=he.1) Aa Aa (Bool.not_eq_eq_eq_not.1 hN) (wv (Bx (ys:=hb) (enc:=By) Iq Aa) (AQ (b:=he.1) Aa Aa (Bool.not_eq_eq_eq_not.1 hN) (wv (BQ Aa Aa) (wv (r:=rB (!decide ((hb.length:Int)=1))) (A2 (b:=he.1) Aa (Bool.not_eq_eq_eq_not.1 hN) Aa) (wm Aa (ck g4 λhy g5=>AQ (b:=!decide ((hb.length:Int)=1)) Aa Aa (Bool.not_eq_eq_eq_not.1 hy) (wm Aa (AQ (b:=!decide ((hb.length:Int)=1)) Aa Aa (Bool.not_eq_eq_eq_not.1 hy) (ck g5 λge g6=>wv (AW (enc:=By) (ys:=hb) Iq L9 Aa Aa ge) (AQ (b:=!decide ((hb.length:Int)=1)) Aa Aa (Bool.not_eq_eq_eq_not.1 hy) (wv (A1 Mc Aa BX Aa Aa) (AQ (b:=!decide ((hb.length:Int)=1)) Aa Aa (Bool.not_eq_eq_eq_not.1 hy) (wv (AJ Cf Aa Aa) (AQ (b:=!decide ((hb.length:Int)=1)) Aa Aa (Bool.not_eq_eq_eq_not.1 hy) (wv (CQ Aa Aa) (wv (r:=rB (!decide (((Aq hb 0).fKey)=([107]:Ai)))) (A2 (b:=!decide ((hb.length:Int)=1)) Aa (Bool.not_eq_eq_eq_not.1 hy) Aa) ?_))))))))))))))))))));refine wm Aa (ck g6 λhz g7=>AQ (b:=!decide (((Aq hb 0).fKey)=([107]:Ai))) Aa Aa (Bool.not_eq_eq_eq_not.1 hz) (wm Aa (AQ (b:=!decide (((Aq hb 0).fKey)=([107]:Ai))) Aa Aa (Bool.not_eq_eq_eq_not.1 hz) (wv (AW (enc:=By) (ys:=hb) Iq L9 Aa Aa ge) (AQ (b:=!decide (((Aq hb 0).fKey)=([107]:Ai))) Aa Aa (Bool.not_eq_eq_eq_not.1 hz) (wv (A1 Mc Aa Cy Aa Aa) (AQ (b:=!decide (((Aq hb 0).fKey)=([107]:Ai))) Aa Aa (Bool.not_eq_eq_eq_not.1 hz) (wv (AJ CO Aa Aa) (AQ (b:=!decide (((Aq hb 0).fKey)=([107]:Ai))) Aa Aa (Bool.not_eq_eq_eq_not.1 hz) (wv (BQ Aa Aa) (wv (r:=rB (!decide (((Aq hb 0).fVersion)=1))) (A2 (b:=!decide (((Aq hb 0).fKey)=([107]:Ai))) Aa (Bool.not_eq_eq_eq_not.1 hz) Aa) (wm Aa (ck g7 λhO g8=>AQ (b:=!decide (((Aq hb 0).fVersion)=1)) Aa Aa (Bool.not_eq_eq_eq_not.1 hO) (wm Aa (AQ (b:=!decide (((Aq hb 0).fVersion)=1)) Aa Aa (Bool.not_eq_eq_eq_not.1 hO) (wv (Bx (ys:=ha) (enc:=Ad) BY Aa) (AQ (b:=!decide (((Aq hb 0).fVersion)=1)) Aa Aa (Bool.not_eq_eq_eq_not.1 hO) (wv (BQ Aa Aa) (wv (r:=rB (!decide ((ha.length:Int)=1))) (A2 (b:=!decide (((Aq hb 0).fVersion)=1)) Aa (Bool.not_eq_eq_eq_not.1 hO) Aa) (wm Aa (ck g8 λh0 g9=>?_)))))))))))))))))))));refine AQ (b:=!decide ((ha.length:Int)=1)) Aa Aa (Bool.not_eq_eq_eq_not.1 h0) (wm Aa (AQ (b:=!decide ((ha.length:Int)=1)) Aa Aa (Bool.not_eq_eq_eq_not.1 h0) (ck g9 λhP gA=>wv (AW (enc:=Ad) (ys:=ha) BY Cr Aa Aa hP) (AQ (b:=!decide ((ha.length:Int)=1)) Aa Aa (Bool.not_eq_eq_eq_not.1 h0) (wv (A1 CB Aa BX Aa Aa) (AQ (b:=!decide ((ha.length:Int)=1)) Aa Aa (Bool.not_eq_eq_eq_not.1 h0) (wv (AJ Cf Aa Aa) (AQ (b:=!decide ((ha.length:Int)=1)) Aa Aa (Bool.not_eq_eq_eq_not.1 h0) (wv (CQ Aa Aa) (wv (r:=rB (!decide (((Aq ha 0).fID)=([101,49,46,49]:Ai)))) (A2 (b:=!decide ((ha.length:Int)=1)) Aa (Bool.not_eq_eq_eq_not.1 h0) Aa) (wm Aa (ck gA λh1 gB=>AQ (b:=!decide (((Aq ha 0).fID)=([101,49,46,49]:Ai))) Aa Aa (Bool.not_eq_eq_eq_not.1 h1) (wm Aa (AQ (b:=!decide (((Aq ha 0).fID)=([101,49,46,49]:Ai))) Aa Aa (Bool.not_eq_eq_eq_not.1 h1) (wv (AW (enc:=Ad) (ys:=ha) BY Cr Aa Aa hP) (AQ (b:=!decide (((Aq ha 0).fID)=([101,49,46,49]:Ai))) Aa Aa (Bool.not_eq_eq_eq_not.1 h1) (wv (A1 CB Aa BX Aa Aa) (AQ (b:=!decide (((Aq ha 0).fID)=([101,49,46,49]:Ai))) Aa Aa (Bool.not_eq_eq_eq_not.1 h1) (wv (AJ Cf Aa Aa) (AQ (b:=!decide (((Aq ha 0).fID)=([101,49,46,49]:Ai))) Aa Aa (Bool.not_eq_eq_eq_not.1 h1) (wv (CQ Aa Aa) ?_)))))))))))))))))))));refine wv (r:=rB (!decide (((Aq ha 0).fCause)=([101,49]:Ai)))) (A2 (b:=!decide (((Aq ha 0).fID)=([101,49,46,49]:Ai))) Aa (Bool.not_eq_eq_eq_not.1 h1) Aa) (wm Aa (ck gB λh3 gC=>AQ (b:=!decide (((Aq ha 0).fCause)=([101,49]:Ai))) Aa Aa (Bool.not_eq_eq_eq_not.1 h3) (wm Aa (AQ (b:=!decide (((Aq ha 0).fCause)=([101,49]:Ai))) Aa Aa (Bool.not_eq_eq_eq_not.1 h3) (wv (AW (enc:=Ad) (ys:=ha) BY Cr Aa Aa hP) (AQ (b:=!decide (((Aq ha 0).fCause)=([101,49]:Ai))) Aa Aa (Bool.not_eq_eq_eq_not.1 h3) (wv (A1 CB Aa Cy Aa Aa) (AQ (b:=!decide (((Aq ha 0).fCause)=([101,49]:Ai))) Aa Aa (Bool.not_eq_eq_eq_not.1 h3) (wv (AJ CO Aa Aa) (AQ (b:=!decide (((Aq ha 0).fCause)=([101,49]:Ai))) Aa Aa (Bool.not_eq_eq_eq_not.1 h3) (wv (BQ Aa Aa) (wv (r:=rB (!decide (((Aq ha 0).fAt)=5))) (A2 (b:=!decide (((Aq ha 0).fCause)=([101,49]:Ai))) Aa (Bool.not_eq_eq_eq_not.1 h3) Aa) (wm Aa (ck gC λhs gD=>AQ (b:=!decide (((Aq ha 0).fAt)=5)) Aa Aa (Bool.not_eq_eq_eq_not.1 hs) (wm Aa (AQ (b:=!decide (((Aq ha 0).fAt)=5)) Aa Aa (Bool.not_eq_eq_eq_not.1 hs) (wv (AW (enc:=Ad) (ys:=ha) BY Cr Aa Aa hP) (AQ (b:=!decide (((Aq ha 0).fAt)=5)) Aa Aa (Bool.not_eq_eq_eq_not.1 hs) (wv (A1 CB Aa Dj Aa Aa) (AQ (b:=!decide (((Aq ha 0).fAt)=5)) Aa Aa (Bool.not_eq_eq_eq_not.1 hs) (wv (A1 Cv Aa BX Aa Aa) ?_)))))))))))))))))))));refine AQ (b:=!decide (((Aq ha 0).fAt)=5)) Aa Aa (Bool.not_eq_eq_eq_not.1 hs) (wv (AJ Cf Aa Aa) (AQ (b:=!decide (((Aq ha 0).fAt)=5)) Aa Aa (Bool.not_eq_eq_eq_not.1 hs) (wv (CQ Aa Aa) (wv (r:=rB (!decide ((((Aq ha 0).fEffect).fKey)=([115]:Ai)))) (A2 (b:=!decide (((Aq ha 0).fAt)=5)) Aa (Bool.not_eq_eq_eq_not.1 hs) Aa) (Aw (ck gD λgE gF=>D9 (b:=!decide ((((Aq ha 0).fEffect).fKey)=([115]:Ai))) Aa (Bool.not_eq_eq_eq_not.1 gE) (A0 (AX (Am (wm Aa (ob gF λht gG gH=>Dn [0,0,0,0,0] Tryz.call13 (Nh hi hK hg hh hL he.2.2 ([101,49]:Ai) ht gG) ?_)))))))))));rintro _ _ ⟨rfl,rfl⟩;refine wm Aa (wv (A8 Aa Aa) (wv (A8 Aa Aa) (wa Aa (wa Aa (Aw (Ao (Am (wm Aa (wv (BT Aa) (wm Aa (ck gH λh9 gI=>AQ (b:=!ht.2) Aa Aa (Bool.not_eq_eq_eq_not.1 h9) (wm Aa (AQ (b:=!ht.2) Aa Aa (Bool.not_eq_eq_eq_not.1 h9) (ob gI λgf gJ gK=>DI Tryz.call34 (I9 7 gf gJ) Aa (AQ (b:=!ht.2) Aa Aa (Bool.not_eq_eq_eq_not.1 h9) (ob gK λh4 gL gM=>DI Tryz.call15 (Ov F ht.1 gf h4 gL) Aa (AQ (b:=!ht.2) Aa Aa (Bool.not_eq_eq_eq_not.1 h9) (wv (BT Aa) (wv (r:=rB (!h4)) (A2 (b:=!ht.2) Aa (Bool.not_eq_eq_eq_not.1 h9) Aa) (wm Aa ?_))))))))))))))))))));refine ck gM λhQ gN=>AQ (b:=!h4) Aa Aa (Bool.not_eq_eq_eq_not.1 hQ) (wm Aa (AQ (b:=!h4) Aa Aa (Bool.not_eq_eq_eq_not.1 hQ) (ob gN λhu gO gP=>Dn [0,0,0,0,0] YG (Px F hi hK hg hh hL he.2.2 ([101,49,46,49]:Ai) hu gO) ?_)));rintro _ _ ⟨v80,gQ,rfl,rfl⟩;refine AQ (b:=!h4) Aa Aa (Bool.not_eq_eq_eq_not.1 hQ) (wv (BQ Aa Aa) (wv (r:=rB (!decide (hu.1=0))) (A2 (b:=!h4) Aa (Bool.not_eq_eq_eq_not.1 hQ) Aa) (wm Aa (ck gP λhR gR=>AQ (b:=!decide (hu.1=0)) Aa Aa (Bool.not_eq_eq_eq_not.1 hR) (wm Aa (AQ (b:=!decide (hu.1=0)) Aa Aa (Bool.not_eq_eq_eq_not.1 hR) (ob gR λhd gS gT=>Dn [0,0,0,0,0] YG (Px F hi v80 hg hh gQ hu.2 ([101,49,46,49]:Ai) hd gS) ?_)))))));rintro _ _ ⟨hA,hB,rfl,rfl⟩;refine AQ (b:=!decide (hu.1=0)) Aa Aa (Bool.not_eq_eq_eq_not.1 hR) (wv (BQ Aa Aa) (wv (r:=rB (!decide (hd.1=5))) (A2 (b:=!decide (hu.1=0)) Aa (Bool.not_eq_eq_eq_not.1 hR) Aa) (wm Aa (ck gT λhC gU=>AQ (b:=!decide (hd.1=5)) Aa Aa (Bool.not_eq_eq_eq_not.1 hC) (wm Aa (AQ (b:=!decide (hd.1=5)) Aa Aa (Bool.not_eq_eq_eq_not.1 hC) (ob gU λhk gV gW=>Dn [0,0,0,0,0] U2 (EY F hi hA hg hh hB hd.2 hk gV) ?_)))))));rintro _ _ ⟨rfl,rfl⟩;refine AQ (b:=!decide (hd.1=5)) Aa Aa (Bool.not_eq_eq_eq_not.1 hC) (wv (Bx (ys:=hk) (enc:=Ad) BY Aa) (AQ (b:=!decide (hd.1=5)) Aa Aa (Bool.not_eq_eq_eq_not.1 hC) (wv (BQ Aa Aa) (wv (r:=rB (!decide ((hk.length:Int)=0))) (A2 (b:=!decide (hd.1=5)) Aa (Bool.not_eq_eq_eq_not.1 hC) Aa) (wm Aa (ck gW λh6 gX=>AQ (b:=!decide ((hk.length:Int)=0)) Aa Aa (Bool.not_eq_eq_eq_not.1 h6) (wm Aa (AQ (b:=!decide ((hk.length:Int)=0)) Aa Aa (Bool.not_eq_eq_eq_not.1 h6) (ob gX λgg gY gZ=>Dn [0,0,0,0,0] Tryz.call17 (Ni hi hA hg hh hB hd.2 gg gY) ?_)))))))));rintro _ _ ⟨rfl,rfl⟩;refine AQ (b:=!decide ((hk.length:Int)=0)) Aa Aa (Bool.not_eq_eq_eq_not.1 h6) (Bf (ys:=([([101,49]:Ai)]:List Ai)) (enc:=eS) (css:=[[rS ([101,49]:Ai)]]) (xs:=[.const (.string ⟨#[101,49]⟩)]) CD BX V4 Aa Aa Aa ⟨E4.one Aa (Up.refl _),trivial⟩ Aa DC Aa Aa Aa (λca=>?_));refine AQ (b:=!decide ((hk.length:Int)=0)) Aa Aa (Bool.not_eq_eq_eq_not.1 h6) (WL.freeze (i:=0) Aa (WL.up (d:=137) (r:=Br 1 (AH eS ([([101,49]:Ai)]:List Ai))) Aa (Up.fact (i:=0) Aa) (ob gZ λhZ cb cc=>DI Tryz.call16 (TT F gg ([([101,49]:Ai)]:List Ai) hZ cb) Aa (AQ (b:=!decide ((hk.length:Int)=0)) Aa Aa (Bool.not_eq_eq_eq_not.1 h6) (wv (BT Aa) (wv (r:=rB (!hZ)) (A2 (b:=!decide ((hk.length:Int)=0)) Aa (Bool.not_eq_eq_eq_not.1 h6) Aa) (Aw (ck cc λcd ce=>D9 (b:=!hZ) Aa (Bool.not_eq_eq_eq_not.1 cd) (A0 (AX (Am (wv (Bi (i:=7) GG DM Aa Aa Aa Aa) (ob ce λh7 cf cg=>Dn [6] YK (UW F (.slice (some ⟨hj,0,none⟩) 2 2) (AC.mk ([101,49]:Ai) ([116]:Ai) 1 r1 ([(Ap.mk 1 ([107]:Ai) r4 0),(Ap.mk 3 ([115]:Ai) r7 0)]:List Ap) 5) h7 cf) ?_)))))))))))));rintro _ _ ⟨rfl,rfl⟩;refine wm Aa (wv (A8 Aa Aa) (wv (A8 Aa Aa) (wa Aa (wa Aa (B0 (ob cg λhm ch ci=>DI YI (G1 F ([101,49,46,49]:Ai) hm ch) Aa (wm Aa (wv (A8 Aa Aa) (wv (A8 Aa Aa) (wa Aa (wa Aa (B0 (ob ci λgh cj cl=>Dn [] yk9 (Sl gh cj) ?_)))))))))))));rintro _ _ ⟨hw,cm,hn,ho,cn,rfl,rfl⟩;refine wa Aa (Aw (Ao (Am (wm Aa (wv (BQ Aa Aa) (wm Aa (ck cl λga co=>AQ (b:=!decide (h7.2=0)) Aa Aa (Bool.not_eq_eq_eq_not.1 ga) (wm Aa (AQ (b:=!decide (h7.2=0)) Aa Aa (Bool.not_eq_eq_eq_not.1 ga) (wv (BQ Aa Aa) (wv (r:=rB (!decide (hm.2=0))) (A2 (b:=!decide (h7.2=0)) Aa (Bool.not_eq_eq_eq_not.1 ga) Aa) (wm Aa (ck co λhD cp=>AQ (b:=!decide (hm.2=0)) Aa Aa (Bool.not_eq_eq_eq_not.1 hD) (wm Aa (AQ (b:=!decide (hm.2=0)) Aa Aa (Bool.not_eq_eq_eq_not.1 hD) (wm Aa (AQ (b:=!decide (hm.2=0)) Aa Aa (Bool.not_eq_eq_eq_not.1 hD) (ob cp λhp cq cr=>Dn [0,0,0,0,0] LB (DU F hw cm hn ho cn gh h7.1 hp cq) ?_))))))))))))))))));rintro _ _ ⟨ct,v127,rfl,rfl⟩;refine AQ (b:=!decide (hm.2=0)) Aa Aa (Bool.not_eq_eq_eq_not.1 hD) (wv (BQ Aa Aa) (wv (r:=rB (!decide (hp.1=0))) (A2 (b:=!decide (hm.2=0)) Aa (Bool.not_eq_eq_eq_not.1 hD) Aa) (wm Aa (ck cr λhE cu=>AQ (b:=!decide (hp.1=0)) Aa Aa (Bool.not_eq_eq_eq_not.1 hE) (wm Aa (AQ (b:=!decide (hp.1=0)) Aa Aa (Bool.not_eq_eq_eq_not.1 hE) (wm Aa (AQ (b:=!decide (hp.1=0)) Aa Aa (Bool.not_eq_eq_eq_not.1 hE) (ob cu λhq cv cw=>Dn [0,0,0,0,0] LB (DU F hw ct hn ho v127 hp.2 hm.1 hq cv) ?_)))))))));rintro _ _ ⟨cx,cy,rfl,rfl⟩;refine AQ (b:=!decide (hp.1=0)) Aa Aa (Bool.not_eq_eq_eq_not.1 hE) (wv (BQ Aa Aa) (wv (r:=rB (!decide (hq.1=0))) (A2 (b:=!decide (hp.1=0)) Aa (Bool.not_eq_eq_eq_not.1 hE) Aa) (wm Aa (ck cw λhG cz=>AQ (b:=!decide (hq.1=0)) Aa Aa (Bool.not_eq_eq_eq_not.1 hG) (wm Aa (AQ (b:=!decide (hq.1=0)) Aa Aa (Bool.not_eq_eq_eq_not.1 hG) (wm Aa (AQ (b:=!decide (hq.1=0)) Aa Aa (Bool.not_eq_eq_eq_not.1 hG) (ob cz λhx c0 c1=>Dn [0,0,0,0,0] LB (DU F hw cx hn ho cy hq.2 h7.1 hx c0) ?_)))))))));rintro _ _ ⟨c2,c3,rfl,rfl⟩;refine AQ (b:=!decide (hq.1=0)) Aa Aa (Bool.not_eq_eq_eq_not.1 hG) (wv (BQ Aa Aa) (wv (r:=rB (!decide (hx.1=0))) (A2 (b:=!decide (hq.1=0)) Aa (Bool.not_eq_eq_eq_not.1 hG) Aa) (wm Aa (ck c1 λhS c4=>AQ (b:=!decide (hx.1=0)) Aa Aa (Bool.not_eq_eq_eq_not.1 hS) (wm Aa (AQ (b:=!decide (hx.1=0)) Aa Aa (Bool.not_eq_eq_eq_not.1 hS) (ob c4 λhf c6 c7=>Dn [0,0,0,0,0] LB (DU F hw c2 hn ho c3 hx.2 ([120]:Ai) hf c6) ?_)))))));rintro _ _ ⟨hT,hU,rfl,rfl⟩;refine AQ (b:=!decide (hx.1=0)) Aa Aa (Bool.not_eq_eq_eq_not.1 hS) (wv (BQ Aa Aa) (wv (r:=rB (!decide (hf.1=13))) (A2 (b:=!decide (hx.1=0)) Aa (Bool.not_eq_eq_eq_not.1 hS) Aa) (wm Aa (ck c7 λhH c8=>AQ (b:=!decide (hf.1=13)) Aa Aa (Bool.not_eq_eq_eq_not.1 hH) (wm Aa (AQ (b:=!decide (hf.1=13)) Aa Aa (Bool.not_eq_eq_eq_not.1 hH) (ob c8 λhr c9 cA=>Dn [0,0,0,0,0] U2 (EY F hw hT hn ho hU hf.2 hr c9) ?_)))))));rintro _ _ ⟨rfl,rfl⟩;refine AQ (b:=!decide (hf.1=13)) Aa Aa (Bool.not_eq_eq_eq_not.1 hH) (wv (Bx (ys:=hr) (enc:=Ad) BY Aa) (AQ (b:=!decide (hf.1=13)) Aa Aa (Bool.not_eq_eq_eq_not.1 hH) (wv (BQ Aa Aa) (wv (r:=rB (!decide ((hr.length:Int)=0))) (A2 (b:=!decide (hf.1=13)) Aa (Bool.not_eq_eq_eq_not.1 hH) Aa) (wm Aa (ck cA λhI cB=>AQ (b:=!decide ((hr.length:Int)=0)) Aa Aa (Bool.not_eq_eq_eq_not.1 hI) (wm Aa (AQ (b:=!decide ((hr.length:Int)=0)) Aa Aa (Bool.not_eq_eq_eq_not.1 hI) (ob cB λhV cC cD=>Dn [0,0,0,0,0] YL (Ku F hw hT hn ho hU hf.2 ([116]:Ai) hV cC) ?_)))))))));rintro _ _ ⟨rfl,rfl⟩;refine AQ (b:=!decide ((hr.length:Int)=0)) Aa Aa (Bool.not_eq_eq_eq_not.1 hI) (wv (Bx (ys:=hV) (enc:=By) Iq Aa) (AQ (b:=!decide ((hr.length:Int)=0)) Aa Aa (Bool.not_eq_eq_eq_not.1 hI) (wv (BQ Aa Aa) (wv (r:=rB (!decide ((hV.length:Int)=1))) (A2 (b:=!decide ((hr.length:Int)=0)) Aa (Bool.not_eq_eq_eq_not.1 hI) Aa) (Aw (ck cD λcE cF=>D9 (b:=!decide ((hV.length:Int)=1)) Aa (Bool.not_eq_eq_eq_not.1 cE) (A0 (AX (Am (vF C6 Aa Kc (vL 12 MU Aa (ck cF λgb cG=>wv (r:=rv (Gd 4 (.slice (some ⟨hj,0,none⟩) 2 2) (BC 1) 0)) (Eu (i:=5) Hy Dj Aa Aa Aa (BE gb)) (wv (r:=rv (Gd 4 (.slice (some ⟨hj,0,none⟩) 2 2) (BC 1) 1)) (EX (k:=5) Cv Aa BX Aa (BE gb) Aa Aa Aa) (Jx (enc:=Av) (ys:=([(Ap.mk 1 ([107]:Ai) r4 0),(Ap.mk 3 ([115]:Ai) r7 0)]:List Ap)) (y':=(Ap.mk ((Aq ([(Ap.mk 1 ([107]:Ai) r4 0),(Ap.mk 3 ([115]:Ai) r7 0)]:List Ap) 1).fKind) ([83]:Ai) ((Aq ([(Ap.mk 1 ([107]:Ai) r4 0),(Ap.mk 3 ([115]:Ai) r7 0)]:List Ap) 1).fValue) ((Aq ([(Ap.mk 1 ([107]:Ai) r4 0),(Ap.mk 3 ([115]:Ai) r7 0)]:List Ap) 1).fDelay))) (i:=5) (j:=1) BX Aa Aa (B5 Aa) Aa gb Aa Aa (H':=[.blk hw [rB hf.2.fMade,rv hT,rv (.map (some hn)),rv (.map (some ho)),rv hU] 59,.row hT 9 1 (AH eS hf.2.fEvents),.map hn (AL Ar hf.2.fResults),.map ho (AL Af hf.2.fKeys),.row hU 67 8 (AH Ad hf.2.fPending),.row (.slice (some ⟨hj,0,none⟩) 2 2) 65 4 (AH Av (List.set ([(Ap.mk 1 ([107]:Ai) r4 0),(Ap.mk 3 ([115]:Ai) r7 0)]:List Ap) (BC 1) (Ap.mk ((Aq ([(Ap.mk 1 ([107]:Ai) r4 0),(Ap.mk 3 ([115]:Ai) r7 0)]:List Ap) 1).fKind) ([83]:Ai) ((Aq ([(Ap.mk 1 ([107]:Ai) r4 0),(Ap.mk 3 ([115]:Ai) r7 0)]:List Ap) 1).fValue) ((Aq ([(Ap.mk 1 ([107]:Ai) r4 0),(Ap.mk 3 ([115]:Ai) r7 0)]:List Ap) 1).fDelay)))),.fact (.slice (some ⟨ca,0,none⟩) 1 1) (Br 1 (AH eS ([([101,49]:Ai)]:List Ai))),.blk hi [rB hd.2.fMade,rv hA,rv (.map (some hg)),rv (.map (some hh)),rv hB] 59,.row hA 9 1 (AH eS hd.2.fEvents),.map hg (AL Ar hd.2.fResults),.map hh (AL Af hd.2.fKeys),.row hB 67 8 (AH Ad hd.2.fPending),.blk gl [rS ([101,49]:Ai),rS ([116]:Ai),AD 1,Br 4 (AH Ah r1),rv (.slice (some ⟨hj,0,none⟩) 2 2),AD 5] 34]) Aa (bd cG λgi cH cI=>?_)))))))))))))));rw[← cH];refine B0 (wa Aa (B0 (wm Aa (wv (Bi (i:=12) GG DM Aa Aa Aa Aa) (ob cI λcJ cK cL=>Dn [5] YH (Qr (.slice (some ⟨hj,0,none⟩) 2 2) (AC.mk ([101,49]:Ai) ([116]:Ai) 1 r1 gi 5) cJ cK) ?_)))));rintro _ _ ⟨rfl,rfl⟩;refine wm Aa (wv (A8 Aa Aa) (wv (A8 Aa Aa) (wa Aa (B0 (wm Aa (wv (BR Aa Aa) (wm Aa (ck cL λhW cM=>wo hW (wv (Bi (i:=12) GG DM Aa Aa Aa Aa) (wo hW (ob cM λcN cO cP=>Dn [0] YJ (Nj F (.slice (some ⟨hj,0,none⟩) 2 2) (AC.mk ([101,49]:Ai) ([116]:Ai) 1 r1 gi 5) cN cO) ?_)))))))))));rintro _ _ ⟨rfl,rfl⟩;refine wo hW (wv (BR Aa Aa) (It Aa hW Aa (wm Aa (ck cP λhJ cQ=>wo hJ (wm Aa (wo hJ (ob cQ λgj cR cS=>Dn [7,7,7,7,7] YL (Ku F hi hA hg hh hB hd.2 ([117]:Ai) gj cR) ?_)))))));rintro _ _ ⟨rfl,rfl⟩;refine wo hJ (wv (Bx (ys:=gj) (enc:=By) Iq Aa) (wo hJ (wv (BR Aa Aa) (It Aa hJ Aa (wa Aa (Aw (A4 ?_)))))));obtain rfl:=A7 cS;exact A3 (Ch Tryz.results8 (AR Aa)) (sS (sS (sS (sS (sS (sS (sS (sS (sS (sS (sS (sS (sS sN))))))))))))) ⟨Aa,Aa⟩
end Go.Proofs.YtfobhhegpkinaaaGreatDoor.Q
namespace Go.Proofs.YtfobhhegpkinaaaGreatDoor
open Go
set_option linter.unusedVariables false
def Ce (ha:Int)(hb:Bool)(hd:(List Ai))(he:(List Ak))(hf:(List (Ai×(List Ab))))(hg:(List (Ai×(List (Ai×Ac)))))(hh:Bool)(hi:(List Ai))(hj:(List Ak))(hk:(List (Ai×(List Ab))))(hl:(List (Ai×(List (Ai×Ac))))):Option (Stp (Int×Bool×(List Ai)×(List Ak)×(List (Ai×(List Ab)))×(List (Ai×(List (Ai×Ac))))×Bool×(List Ai)×(List Ak)×(List (Ai×(List Ab)))×(List (Ai×(List (Ai×Ac))))) (Out (Bool) (Bool×(List Ai)×(List Ak)×(List (Ai×(List Ab)))×(List (Ai×(List (Ai×Ac))))×Bool×(List Ai)×(List Ak)×(List (Ai×(List Ab)))×(List (Ai×(List (Ai×Ac))))))):=
 Bd (Cb .i64 (ha+1))<|some (.next (ha+1,hb,hd,he,hf,hg,hh,hi,hj,hk,hl))
def Dv (hb:Int)(ha:Bool×Int×Al)(hd:Bool)(he:Bool)(hf:(List Ai))(hg:(List Ak))(hh:(List (Ai×(List Ab))))(hi:(List (Ai×(List (Ai×Ac))))):Option (Stp (Int×Bool×(List Ai)×(List Ak)×(List (Ai×(List Ab)))×(List (Ai×(List (Ai×Ac))))×Bool×(List Ai)×(List Ak)×(List (Ai×(List Ab)))×(List (Ai×(List (Ai×Ac))))) (Out (Bool) (Bool×(List Ai)×(List Ak)×(List (Ai×(List Ab)))×(List (Ai×(List (Ai×Ac))))×Bool×(List Ai)×(List Ak)×(List (Ai×(List Ab)))×(List (Ai×(List (Ai×Ac))))))):=
 Bw (hd) (some (.out (.ret false))) (Ce hb he hf hg hh hi ha.2.2.fMade ha.2.2.fEvents ha.2.2.fPending ha.2.2.fResults ha.2.2.fKeys)
def CH (hb:Int)(ha:Bool×Int×Al)(hd:Bool)(he:Bool)(hf:(List Ai))(hg:(List Ak))(hh:(List (Ai×(List Ab))))(hi:(List (Ai×(List (Ai×Ac))))):Option (Stp (Int×Bool×(List Ai)×(List Ak)×(List (Ai×(List Ab)))×(List (Ai×(List (Ai×Ac))))×Bool×(List Ai)×(List Ak)×(List (Ai×(List Ab)))×(List (Ai×(List (Ai×Ac))))) (Out (Bool) (Bool×(List Ai)×(List Ak)×(List (Ai×(List Ab)))×(List (Ai×(List (Ai×Ac))))×Bool×(List Ai)×(List Ak)×(List (Ai×(List Ab)))×(List (Ai×(List (Ai×Ac))))))):=
 Bw (hd) (some (.out (.ret false))) (Ce hb he hf hg hh hi ha.2.2.fMade ha.2.2.fEvents ha.2.2.fPending ha.2.2.fResults ha.2.2.fKeys)
def CG (hb:Int)(ha:Bool×Int×Al)(hd:Bool)(he:Bool)(hf:(List Ai))(hg:(List Ak))(hh:(List (Ai×(List Ab))))(hi:(List (Ai×(List (Ai×Ac))))):Option (Stp (Int×Bool×(List Ai)×(List Ak)×(List (Ai×(List Ab)))×(List (Ai×(List (Ai×Ac))))×Bool×(List Ai)×(List Ak)×(List (Ai×(List Ab)))×(List (Ai×(List (Ai×Ac))))) (Out (Bool) (Bool×(List Ai)×(List Ak)×(List (Ai×(List Ab)))×(List (Ai×(List (Ai×Ac))))×Bool×(List Ai)×(List Ak)×(List (Ai×(List Ab)))×(List (Ai×(List (Ai×Ac))))))):=
 Bw (hd) (some (.out (.ret false))) (Ce hb he hf hg hh hi ha.2.2.fMade ha.2.2.fEvents ha.2.2.fPending ha.2.2.fResults ha.2.2.fKeys)
def CF (hb:Int)(ha:Bool×Int×Al)(hd:Bool)(he:Bool)(hf:(List Ai))(hg:(List Ak))(hh:(List (Ai×(List Ab))))(hi:(List (Ai×(List (Ai×Ac))))):Option (Stp (Int×Bool×(List Ai)×(List Ak)×(List (Ai×(List Ab)))×(List (Ai×(List (Ai×Ac))))×Bool×(List Ai)×(List Ak)×(List (Ai×(List Ab)))×(List (Ai×(List (Ai×Ac))))) (Out (Bool) (Bool×(List Ai)×(List Ak)×(List (Ai×(List Ab)))×(List (Ai×(List (Ai×Ac))))×Bool×(List Ai)×(List Ak)×(List (Ai×(List Ab)))×(List (Ai×(List (Ai×Ac))))))):=
 Bw (hd) (some (.out (.ret false))) (Ce hb he hf hg hh hi ha.2.2.fMade ha.2.2.fEvents ha.2.2.fPending ha.2.2.fResults ha.2.2.fKeys)
def Dd (ha:Bool):Option (Bool):=
 some ha
def Dw (F:Nat)(l:(List Bl))(twice:(List Bool))(ha:Int)(hi:Bool)(hj:(List Ai))(hk:(List Ak))(hl:(List (Ai×(List Ab))))(hm:(List (Ai×(List (Ai×Ac)))))(hr:Bool)(hs:(List Ai))(ht:(List Ak))(hu:(List (Ai×(List Ab))))(hw:(List (Ai×(List (Ai×Ac))))):Option (Stp (Int×Bool×(List Ai)×(List Ak)×(List (Ai×(List Ab)))×(List (Ai×(List (Ai×Ac))))×Bool×(List Ai)×(List Ak)×(List (Ai×(List Ab)))×(List (Ai×(List (Ai×Ac))))) (Out (Bool) (Bool×(List Ai)×(List Ak)×(List (Ai×(List Ab)))×(List (Ai×(List (Ai×Ac))))×Bool×(List Ai)×(List Ak)×(List (Ai×(List Ab)))×(List (Ai×(List (Ai×Ac))))))):=
 Bw (decide (ha<(l.length:Int))) (Bd (CY ha (l.length:Int))<|Bw (((decide (((Aq l ha).fKind)<0))||(decide (2<((Aq l ha).fKind))))) (Ce ha hi hj hk hl hm hr hs ht hu hw) (Bw (decide (((Aq l ha).fKind)=2)) (Bq (Ec F (Al.mk hr hs hu hw ht)) λh1=>Bq (Nq h1 ((Aq l ha).fN)) λh2=>Bq (M9 F (Al.mk hr hs hu hw ht) (Bl.mk ((Aq l ha).fKind) ((Aq l ha).fC) ((Aq l ha).fS) ((Aq l ha).fN))) λhb=>Bw (((!decide (hb.2.1=0))||((decide (((Aq l ha).fKind)=0))&&(!hb.1)))) (Ce ha hi hj hk hl hm hb.2.2.fMade hb.2.2.fEvents hb.2.2.fPending hb.2.2.fResults hb.2.2.fKeys) (Bw (decide (((Aq l ha).fKind)=0)) (Bq (H7 F ((Aq l ha).fC)) λhx=>Bw (decide (hx.2=3)) (Bq (G4 F) λh3=>some (.out (.ret h3))) (Bw (!decide (hx.2=0)) (Dv ha hb true hi hj hk hl hm) (Bq (EK F (Al.mk hi hj hl hm hk) hx.1) λhd=>Bw (!decide (hd.1=0)) (Dv ha hb true hd.2.fMade hd.2.fEvents hd.2.fPending hd.2.fResults hd.2.fKeys) (Bw (decide (ha<(twice.length:Int))) (Bd (CY ha (twice.length:Int))<|Bw (Aq twice ha) (Bq (EK F hd.2 hx.1) λhn=>Dv ha hb (!decide (hn.1=0)) hn.2.fMade hn.2.fEvents hn.2.fPending hn.2.fResults hn.2.fKeys) (Dv ha hb false hd.2.fMade hd.2.fEvents hd.2.fPending hd.2.fResults hd.2.fKeys)) (Dv ha hb false hd.2.fMade hd.2.fEvents hd.2.fPending hd.2.fResults hd.2.fKeys))))) (Bq (DV F h2) λhy=>Bw (decide (hy.2=3)) (Bq (G4 F) λh4=>some (.out (.ret h4))) (Bw (!decide (hy.2=0)) (CH ha hb true hi hj hk hl hm) (Bq (EK F (Al.mk hi hj hl hm hk) hy.1) λhe=>Bw (!decide (he.1=0)) (CH ha hb true he.2.fMade he.2.fEvents he.2.fPending he.2.fResults he.2.fKeys) (Bw (decide (ha<(twice.length:Int))) (Bd (CY ha (twice.length:Int))<|Bw (Aq twice ha) (Bq (EK F he.2 hy.1) λho=>CH ha hb (!decide (ho.1=0)) ho.2.fMade ho.2.fEvents ho.2.fPending ho.2.fResults ho.2.fKeys) (CH ha hb false he.2.fMade he.2.fEvents he.2.fPending he.2.fResults he.2.fKeys)) (CH ha hb false he.2.fMade he.2.fEvents he.2.fPending he.2.fResults he.2.fKeys))))))) (Bq (M9 F (Al.mk hr hs hu hw ht) (Bl.mk ((Aq l ha).fKind) ((Aq l ha).fC) ((Aq l ha).fS) ((Aq l ha).fN))) λhf=>Bw (((!decide (hf.2.1=0))||((decide (((Aq l ha).fKind)=0))&&(!hf.1)))) (Ce ha hi hj hk hl hm hf.2.2.fMade hf.2.2.fEvents hf.2.2.fPending hf.2.2.fResults hf.2.2.fKeys) (Bw (decide (((Aq l ha).fKind)=0)) (Bq (H7 F ((Aq l ha).fC)) λhz=>Bw (decide (hz.2=3)) (Bq (G4 F) λh5=>some (.out (.ret h5))) (Bw (!decide (hz.2=0)) (CG ha hf true hi hj hk hl hm) (Bq (EK F (Al.mk hi hj hl hm hk) hz.1) λhg=>Bw (!decide (hg.1=0)) (CG ha hf true hg.2.fMade hg.2.fEvents hg.2.fPending hg.2.fResults hg.2.fKeys) (Bw (decide (ha<(twice.length:Int))) (Bd (CY ha (twice.length:Int))<|Bw (Aq twice ha) (Bq (EK F hg.2 hz.1) λhp=>CG ha hf (!decide (hp.1=0)) hp.2.fMade hp.2.fEvents hp.2.fPending hp.2.fResults hp.2.fKeys) (CG ha hf false hg.2.fMade hg.2.fEvents hg.2.fPending hg.2.fResults hg.2.fKeys)) (CG ha hf false hg.2.fMade hg.2.fEvents hg.2.fPending hg.2.fResults hg.2.fKeys))))) (Bq (DV F ((Aq l ha).fS)) λh0=>Bw (decide (h0.2=3)) (Bq (G4 F) λh6=>some (.out (.ret h6))) (Bw (!decide (h0.2=0)) (CF ha hf true hi hj hk hl hm) (Bq (EK F (Al.mk hi hj hl hm hk) h0.1) λhh=>Bw (!decide (hh.1=0)) (CF ha hf true hh.2.fMade hh.2.fEvents hh.2.fPending hh.2.fResults hh.2.fKeys) (Bw (decide (ha<(twice.length:Int))) (Bd (CY ha (twice.length:Int))<|Bw (Aq twice ha) (Bq (EK F hh.2 h0.1) λhq=>CF ha hf (!decide (hq.1=0)) hq.2.fMade hq.2.fEvents hq.2.fPending hq.2.fResults hq.2.fKeys) (CF ha hf false hh.2.fMade hh.2.fEvents hh.2.fPending hh.2.fResults hh.2.fKeys)) (CF ha hf false hh.2.fMade hh.2.fEvents hh.2.fPending hh.2.fResults hh.2.fKeys))))))))) (some (.out (.go (hi,hj,hk,hl,hm,hr,hs,ht,hu,hw))))
def Ei (F:Nat)(tenant:Ai)(event:Ai)(ha:Bool)(hb:(List Ai))(hd:(List Ak))(he:(List (Ai×(List Ab))))(hf:(List (Ai×(List (Ai×Ac)))))(hg:Bool)(hh:(List Ai))(hi:(List Ak))(hj:(List (Ai×(List Ab))))(hk:(List (Ai×(List (Ai×Ac))))):Option (Bool):=
 Bq (J6 (Al.mk hg hh hj hk hi) event) λhl=>Bq (J6 (Al.mk ha hb he hf hd) event) λhm=>Bw (hl.2 ==hm.2) (Bq (HV F hl.1 hm.1) λhn=>Bw (hn) (Bq (J8 (Al.mk hg hh hj hk hi)) λho=>Bq (J8 (Al.mk ha hb he hf hd)) λhp=>Bq (Nw F ho hp) λhq=>Bw (hq) (Bq (Ec F (Al.mk hg hh hj hk hi)) λhr=>Bq (Ec F (Al.mk ha hb he hf hd)) λhs=>Bq (Id F hr hs) λht=>Bw (ht) (Bq (J7 F (Al.mk hg hh hj hk hi) tenant) λhu=>Bq (J7 F (Al.mk ha hb he hf hd) tenant) λhw=>Bq (K2 F hu hw) λhx=>Bw (hx) (Bq (G4 F) λhy=>Dd hy) (Dd false)) (Dd false)) (Dd false)) (Dd false)) (Dd false)
def Ie (F:Nat)(l:(List Bl))(twice:(List Bool))(tenant:Ai)(event:Ai):Option (Bool):=
 Bw (decide (60<(l.length:Int))) (Bq (G4 F) λr3=>some r3) (Bq (UU) λr7=>Bq (UU) λha=>Bq (Ci (λσ=>Dw F l twice σ.1 σ.2.1 σ.2.2.1 σ.2.2.2.1 σ.2.2.2.2.1 σ.2.2.2.2.2.1 σ.2.2.2.2.2.2.1 σ.2.2.2.2.2.2.2.1 σ.2.2.2.2.2.2.2.2.1 σ.2.2.2.2.2.2.2.2.2.1 σ.2.2.2.2.2.2.2.2.2.2) F (0,ha.fMade,ha.fEvents,ha.fPending,ha.fResults,ha.fKeys,r7.fMade,r7.fEvents,r7.fPending,r7.fResults,r7.fKeys)) (BO λν=>Ei F tenant event ν.1 ν.2.1 ν.2.2.1 ν.2.2.2.1 ν.2.2.2.2.1 ν.2.2.2.2.2.1 ν.2.2.2.2.2.2.1 ν.2.2.2.2.2.2.2.1 ν.2.2.2.2.2.2.2.2.1 ν.2.2.2.2.2.2.2.2.2))
end Go.Proofs.YtfobhhegpkinaaaGreatDoor
namespace Go.Proofs.YtfobhhegpkinaaaGreatDoor.Q
open Go Go.RowKit
set_option linter.unusedVariables false
set_option linter.unusedSimpArgs false
set_option maxRecDepth 100000
set_option maxHeartbeats 4000000
theorem Sv (F:Nat)(l:(List Bl))(twice:(List Bool))(tenant:Ai)(event:Ai)(r:Bool)(h:Ie F l twice tenant event=some r):Fn Tryz.prog GE 7 [Br 9 (AH Bc l),Br 1 (AH eB twice),rS tenant,rS event] [] (λR H=>R=rB r∧H=[]):=by
 refine enter (n:=183) Tryz.func7 Aa Tryz.ntmps7 Aa (λw Z=>?_);unfold Ie at h;refine Am (wa Aa (Aw (Ao (Am (wm Aa (wv (Bx (ys:=l) (enc:=Bc) L8 Aa) (wv (DT Aa Aa) (Aw (cz h Aa (λc1 h2=>?_) (λc1 h6=>?_))))))))))
 ·refine Am (ob h2 λr3 e5 h4=>DI yk8 (GR F r3 e5) Aa (wa Aa (Aw (A4 (Ae ?_)))));obtain rfl:=A7 h4;exact A3 (Ch yr7 (AR Aa)) sN ⟨Aa,Aa⟩
 refine A0 (AX (Am (ob h6 λr7 e9 h8=>Dn [] yk9 (Sl r7 e9) ?_)));rintro _ _ ⟨hj,gJ,hh,hi,gK,rfl,rfl⟩;refine wa Aa (B0 (ob h8 λhB cA cB=>Dn [] yk9 (Sl hB cA) ?_));rintro _ _ ⟨hg,gL,hb,hd,gM,rfl,rfl⟩;refine wa Aa (Aw (Ao (Am (wa Aa (Aw (AS (Hz (H2:=[.blk hg [rB hB.fMade,rv gL,rv (.map (some hb)),rv (.map (some hd)),rv gM] 59,.map hb (AL Ar hB.fResults),.map hd (AL Af hB.fKeys),.blk hj [rB r7.fMade,rv gJ,rv (.map (some hh)),rv (.map (some hi)),rv gK] 59,.map hh (AL Ar r7.fResults),.map hi (AL Af r7.fKeys),.row gL 9 1 (AH eS hB.fEvents),.row gM 67 8 (AH Ad hB.fPending),.row gJ 9 1 (AH eS r7.fEvents),.row gK 67 8 (AH Ad r7.fPending)]) ((AP (i:=0) Aa).trans (AfQ _ ((AP (i:=1) Aa).trans (AfQ _ ((AP (i:=1) Aa).trans (AfQ _ ((AP (i:=2) Aa).trans (AfQ _ ((AP (i:=3) Aa).trans (AfQ _ ((AP (i:=3) Aa).trans (AfQ _ (AfX _))))))))))))) (ob cB λcC cD hU=>B4 (S:=Nat×(Int×Bool×(List Ai)×(List Ak)×(List (Ai×(List Ab)))×(List (Ai×(List (Ai×Ac))))×Bool×(List Ai)×(List Ak)×(List (Ai×(List Ab)))×(List (Ai×(List (Ai×Ac)))))×(Value×Value×Value×Value)) (V:=(Bool×(List Ai)×(List Ak)×(List (Ai×(List Ab)))×(List (Ai×(List (Ai×Ac))))×Bool×(List Ai)×(List Ak)×(List (Ai×(List Ab)))×(List (Ai×(List (Ai×Ac)))))×(Value×Value×Value×Value)) 0 (λσ=>Ci (λσ=>Dw F l twice σ.1 σ.2.1 σ.2.2.1 σ.2.2.2.1 σ.2.2.2.2.1 σ.2.2.2.2.2.1 σ.2.2.2.2.2.2.1 σ.2.2.2.2.2.2.2.1 σ.2.2.2.2.2.2.2.2.1 σ.2.2.2.2.2.2.2.2.2.1 σ.2.2.2.2.2.2.2.2.2.2) σ.1 σ.2.1=some cC) (λσ=>[(0,Br 9 (AH Bc l)),(1,Br 1 (AH eB twice)),(2,rS tenant),(3,rS event),(9,rP hj 0),(10,rP hg 0),(11,AD σ.2.1.1)]) (λσ=>[.blk hg [rB σ.2.1.2.1,rv σ.2.2.1,rv (.map (some hb)),rv (.map (some hd)),rv σ.2.2.2.1] 59,.map hb (AL Ar σ.2.1.2.2.2.2.1),.map hd (AL Af σ.2.1.2.2.2.2.2.1),.blk hj [rB σ.2.1.2.2.2.2.2.2.1,rv σ.2.2.2.2.1,rv (.map (some hh)),rv (.map (some hi)),rv σ.2.2.2.2.2] 59,.map hh (AL Ar σ.2.1.2.2.2.2.2.2.2.2.2.1),.map hi (AL Af σ.2.1.2.2.2.2.2.2.2.2.2.2),.row σ.2.2.1 9 1 (AH eS σ.2.1.2.2.1),.row σ.2.2.2.1 67 8 (AH Ad σ.2.1.2.2.2.1),.row σ.2.2.2.2.1 9 1 (AH eS σ.2.1.2.2.2.2.2.2.2.1),.row σ.2.2.2.2.2 67 8 (AH Ad σ.2.1.2.2.2.2.2.2.2.2.1)]) (λσ=>σ.1) (F,(0,hB.fMade,hB.fEvents,hB.fPending,hB.fResults,hB.fKeys,r7.fMade,r7.fEvents,r7.fPending,r7.fResults,r7.fKeys),(gL,gM,gJ,gK)) cD (AG.c Aa (AG.c Aa (AG.c5 Aa Aa Aa Aa Aa AG.nil))) (sC (sC (sC (sC (sC (sC (sC (sC (sC (sC sN)))))))))) (λσ=>Ei F tenant event σ.1.1 σ.1.2.1 σ.1.2.2.1 σ.1.2.2.2.1 σ.1.2.2.2.2.1 σ.1.2.2.2.2.2.1 σ.1.2.2.2.2.2.2.1 σ.1.2.2.2.2.2.2.2.1 σ.1.2.2.2.2.2.2.2.2.1 σ.1.2.2.2.2.2.2.2.2.2=some r) (λσ=>[(2,rS tenant),(3,rS event),(9,rP hj 0),(10,rP hg 0)]) (λσ=>[.blk hg [rB σ.1.1,rv σ.2.1,rv (.map (some hb)),rv (.map (some hd)),rv σ.2.2.1] 59,.map hb (AL Ar σ.1.2.2.2.1),.map hd (AL Af σ.1.2.2.2.2.1),.blk hj [rB σ.1.2.2.2.2.2.1,rv σ.2.2.2.1,rv (.map (some hh)),rv (.map (some hi)),rv σ.2.2.2.2] 59,.map hh (AL Ar σ.1.2.2.2.2.2.2.2.2.1),.map hi (AL Af σ.1.2.2.2.2.2.2.2.2.2),.row σ.2.1 9 1 (AH eS σ.1.2.1),.row σ.2.2.1 67 8 (AH Ad σ.1.2.2.1),.row σ.2.2.2.1 9 1 (AH eS σ.1.2.2.2.2.2.2.1),.row σ.2.2.2.2 67 8 (AH Ad σ.1.2.2.2.2.2.2.2.1)]) ?_ ?_))))))))
 ·rintro⟨rd,⟨ha,hs,ht,hu,hw,hx,hV,hW,hX,hY,hZ⟩,⟨hq,hr,hC,hD⟩⟩ cE;refine GC ?_;obtain⟨cF,rfl,hE,gz,hT⟩:=Di cE;replace gz:Dw F l twice ha hs ht hu hw hx hV hW hX hY hZ=some hE:=gz;unfold Dw at gz;refine Ao (Am (wm Aa (wm Aa (wv (Bx (ys:=l) (enc:=Bc) L8 Aa) (wv (Dh Aa Aa) (Aw (cz gz Aa (λcG cH=>?_) (λcG cI=>?_))))))))
  ·refine A0 (AX (Cn (S:=(Bool×(List Ai)×(List Ak)×(List (Ai×(List Ab)))×(List (Ai×(List (Ai×Ac))))×Bool×(List Ai)×(List Ak)×(List (Ai×(List Ab)))×(List (Ai×(List (Ai×Ac)))))×(Value×Value×Value×Value)) (λσ=>Ce ha σ.1.1 σ.1.2.1 σ.1.2.2.1 σ.1.2.2.2.1 σ.1.2.2.2.2.1 σ.1.2.2.2.2.2.1 σ.1.2.2.2.2.2.2.1 σ.1.2.2.2.2.2.2.2.1 σ.1.2.2.2.2.2.2.2.2.1 σ.1.2.2.2.2.2.2.2.2.2=some hE) (λσ=>[(0,Br 9 (AH Bc l)),(1,Br 1 (AH eB twice)),(2,rS tenant),(3,rS event),(9,rP hj 0),(10,rP hg 0),(11,AD ha)]) (λσ=>[.blk hg [rB σ.1.1,rv σ.2.1,rv (.map (some hb)),rv (.map (some hd)),rv σ.2.2.1] 59,.map hb (AL Ar σ.1.2.2.2.1),.map hd (AL Af σ.1.2.2.2.2.1),.blk hj [rB σ.1.2.2.2.2.2.1,rv σ.2.2.2.1,rv (.map (some hh)),rv (.map (some hi)),rv σ.2.2.2.2] 59,.map hh (AL Ar σ.1.2.2.2.2.2.2.2.2.1),.map hi (AL Af σ.1.2.2.2.2.2.2.2.2.2),.row σ.2.1 9 1 (AH eS σ.1.2.1),.row σ.2.2.1 67 8 (AH Ad σ.1.2.2.1),.row σ.2.2.2.1 9 1 (AH eS σ.1.2.2.2.2.2.2.1),.row σ.2.2.2.2 67 8 (AH Ad σ.1.2.2.2.2.2.2.2.1)]) ?_ ?_))
   ·refine AS (Ao (ck cH λh7 cJ=>AV [(0,Br 9 (AH Bc l)),(1,Br 1 (AH eB twice)),(2,rS tenant),(3,rS event),(9,rP hj 0),(10,rP hg 0),(11,AD ha),(45,rB ((decide (((Aq l ha).fKind)<0))||(decide (2<((Aq l ha).fKind)))))] [.blk hg [rB hs,rv hq,rv (.map (some hb)),rv (.map (some hd)),rv hr] 59,.map hb (AL Ar hw),.map hd (AL Af hx),.blk hj [rB hV,rv hC,rv (.map (some hh)),rv (.map (some hi)),rv hD] 59,.map hh (AL Ar hY),.map hi (AL Af hZ),.row hq 9 1 (AH eS ht),.row hr 67 8 (AH Ad hu),.row hC 9 1 (AH eS hW),.row hD 67 8 (AH Ad hX)] ?_ ?_))
    ·refine An (wm Aa (wm Aa (wv (AW (enc:=Bc) (ys:=l) L8 LA Aa Aa h7) (wv (A1 Ir Aa Cy Aa Aa) (wv (AJ CO Aa Aa) (wv (Dh Aa Aa) (wm Aa (AY (decide (((Aq l ha).fKind)<0)) (λhy=>?_) (λhy=>?_)))))))))
     ·refine wf hy (wf hy (wf hy (wf hy (wf hy (wf hy (wv (r:=rB true) (A5 Aa hy Aa) (As ?_)))))));exact CI hy
     refine wo hy (wm Aa (wo hy (wm Aa (wo hy (wv (AW (enc:=Bc) (ys:=l) L8 LA Aa Aa h7) (wo hy (wv (A1 Ir Aa Cy Aa Aa) (wo hy (wv (AJ CO Aa Aa) (wo hy (wv (DT Aa Aa) (G9 Aa hy Aa (As ?_)))))))))))));exact CI hy
    refine cz cJ Aa (λcK cL=>?_) (λcK cM=>?_)
    ·exact B3 (A9 (Bn (Ay (AE ((hs,ht,hu,hw,hx,hV,hW,hX,hY,hZ),(hq,hr,hC,hD)) cL (AG.c Aa (AG.c Aa (AG.c5 Aa Aa Aa Aa Aa AG.nil))) (sC (sC (sC (sC (sC (sC (sC (sC (sC (sC sN))))))))))))))
    refine A0 (AX (Am (wm Aa (wm Aa (wv (AW (enc:=Bc) (ys:=l) L8 LA Aa Aa h7) (wv (A1 Ir Aa BX Aa Aa) (wv (AJ Cf Aa Aa) (wa Aa (Aw (Ao (Am (wm Aa (wm Aa (wv (AW (enc:=Bc) (ys:=l) L8 LA Aa Aa h7) (wv (A1 Ir Aa Cy Aa Aa) (wv (AJ CO Aa Aa) (wv (BR Aa Aa) (Aw (cz cM Aa (λcN cO=>?_) (λcN cP=>?_))))))))))))))))))))
    ·refine ob cO λgN cQ cR=>Dr 7 [0,1,2,3,9,10,11,12] [⟨[],rP hj 0,none,none,none⟩,⟨[0],Br 8 (AH Ad gN),none,none,none⟩,⟨[],Br 9 (AH Bc l),none,none,none⟩,⟨[],AD ha,none,none,none⟩,⟨[2,3],rAt [AD ((Aq l ha).fKind),rS (((Aq l ha).fC).fEvent),rS (((Aq l ha).fC).fTenant),AD (((Aq l ha).fC).fAttempt),Br 4 (AH Ah (((Aq l ha).fC).fResult)),Br 4 (AH Av (((Aq l ha).fC).fEffects)),AD (((Aq l ha).fC).fAt),rS ((Aq l ha).fS),AD ((Aq l ha).fN)],none,none,none⟩,⟨[4],rAt [AD ((Aq l ha).fN)],none,none,none⟩,⟨[5],AD ((Aq l ha).fN),none,none,none⟩] ?_ (λβ=>?_)
     ·refine Do (Aj Aa) (NL (QR (Hin:=[.blk hj [rB hV,rv hC,rv (.map (some hh)),rv (.map (some hi)),rv hD] 59,.row hC 9 1 (AH eS hW),.map hh (AL Ar hY),.map hi (AL Af hZ),.row hD 67 8 (AH Ad hX)]) (Hr:=[.blk hg [rB hs,rv hq,rv (.map (some hb)),rv (.map (some hd)),rv hr] 59,.map hb (AL Ar hw),.map hd (AL Af hx),.row hq 9 1 (AH eS ht),.row hr 67 8 (AH Ad hu)]) U2 Aa ((AP (i:=3) Aa).trans (AfQ _ ((AP (i:=7) Aa).trans (AfQ _ ((AP (i:=3) Aa).trans (AfQ _ ((AP (i:=3) Aa).trans (AfQ _ ((AP (i:=5) Aa).trans (AfQ _ (AfX _))))))))))) (EY F hj hC hh hi hD (Al.mk hV hW hY hZ hX) gN cQ)) (Do (Aj Aa) (Do (Aj Aa) (Do (AW (enc:=Bc) (ys:=l) L8 LA Aa Aa h7) (Do (A1 Ir Aa Cy Aa Aa) (Do (AJ CO Aa Aa) ?_))))));exact Sh
     refine Dq (H1:=[.blk hg [rB hs,rv hq,rv (.map (some hb)),rv (.map (some hd)),rv hr] 59,.map hb (AL Ar hw),.map hd (AL Af hx),.blk hj [rB hV,rv hC,rv (.map (some hh)),rv (.map (some hi)),rv hD] 59,.map hh (AL Ar hY),.map hi (AL Af hZ),.row hq 9 1 (AH eS ht),.row hr 67 8 (AH Ad hu),.row hC 9 1 (AH eS hW),.row hD 67 8 (AH Ad hX)]) [57,58,59,60,61,62,63,0,1,2,3,9,10,11,12] ?_;refine ob cR λgO cS cT=>DI Tryz.call32 (TK gN ((Aq l ha).fN) gO cS) Aa (wa Aa (B0 (wm Aa (wm Aa (wm Aa (wv (AW (enc:=Bc) (ys:=l) L8 LA Aa Aa h7) (wv (Dm Tryz.isAgg36 LA Aa Aa Aa) (ob cT λhe cU cV=>Dn [3,7,3,3,5] Tryz.call11 (Wj F hj hC hh hi hD (Al.mk hV hW hY hZ hX) (Bl.mk ((Aq l ha).fKind) ((Aq l ha).fC) ((Aq l ha).fS) ((Aq l ha).fN)) he cU) ?_))))))));rintro _ _ ⟨ga,gb,rfl,rfl⟩;refine wm Aa (wv (A8 Aa Aa) (wv (A8 Aa Aa) (wa Aa (wa Aa (Aw (Ao (AV [(0,Br 9 (AH Bc l)),(1,Br 1 (AH eB twice)),(2,rS tenant),(3,rS event),(9,rP hj 0),(10,rP hg 0),(11,AD ha),(12,rS gO),(87,rB ((!decide (he.2.1=0))||((decide (((Aq l ha).fKind)=0))&&(!he.1))))] [.blk hj [rB he.2.2.fMade,rv ga,rv (.map (some hh)),rv (.map (some hi)),rv gb] 59,.row ga 9 1 (AH eS he.2.2.fEvents),.map hh (AL Ar he.2.2.fResults),.map hi (AL Af he.2.2.fKeys),.row gb 67 8 (AH Ad he.2.2.fPending),.blk hg [rB hs,rv hq,rv (.map (some hb)),rv (.map (some hd)),rv hr] 59,.map hb (AL Ar hw),.map hd (AL Af hx),.row hq 9 1 (AH eS ht),.row hr 67 8 (AH Ad hu)] ?_ ?_)))))))
     ·refine An (wm Aa (wv (BQ Aa Aa) (wm Aa (AY (!decide (he.2.1=0)) (λho=>?_) (λho=>?_)))))
      ·refine wf ho (wf ho (wf ho (wf ho (wf ho (wf ho (wf ho (wu (wu (wf ho (wv (r:=rB true) (A5 Aa ho Aa) (As ?_)))))))))));exact CI ho
      refine wo ho (wm Aa (wo ho (wm Aa (wo ho (wv (AW (enc:=Bc) (ys:=l) L8 LA Aa Aa h7) (wo ho (wv (A1 Ir Aa Cy Aa Aa) (wo ho (wv (AJ CO Aa Aa) (wo ho (wv (BR Aa Aa) (wo ho (wm Aa (AY (decide (((Aq l ha).fKind)=0)) (λgc=>?_) (λgc=>?_)))))))))))))))
      ·refine wo gc (wm Aa (wo gc (wv (BT Aa) (wo ho (It Aa gc Aa (G9 Aa ho Aa (As ?_)))))));exact CI (And.intro ho gc)
      refine wf gc (wf gc (wo ho (wv (r:=rB false) (A2 Aa gc Aa) (G9 Aa ho Aa (As ?_)))));exact CI (And.intro ho gc)
     refine cz cV Aa (λcW cX=>?_) (λcW cY=>?_)
     ·refine B3 (A9 (Bn (Gx [5,5,5,0,1,1,2,2] ?_)));exact Ay (AE ((hs,ht,hu,hw,hx,he.2.2.fMade,he.2.2.fEvents,he.2.2.fPending,he.2.2.fResults,he.2.2.fKeys),(hq,hr,ga,gb)) cX (AG.c Aa (AG.c Aa (AG.c5 Aa Aa Aa Aa Aa AG.nil))) (sC (sC (sC (sC (sC (sC (sC (sC (sC (sC sN)))))))))))
     refine A0 (AX (Am (wv (r:=rS ([]:Ai)) (AA Aa) (Aw (Ao (Am (wm Aa (wm Aa (wv (AW (enc:=Bc) (ys:=l) L8 LA Aa Aa h7) (wv (A1 Ir Aa Cy Aa Aa) (wv (AJ CO Aa Aa) (wv (BR Aa Aa) (Aw (cz cY Aa (λcZ xa=>?_) (λcZ xb=>?_)))))))))))))))
     ·refine An (wm Aa (wm Aa (wv (AW (enc:=Bc) (ys:=l) L8 LA Aa Aa h7) (wv (A1 Ir Aa DM Aa Aa) (wv (Dm GG DM Aa Aa Aa) (ob xa λgP xc xd=>DI YK (KV F ((Aq l ha).fC) gP xc) Aa (wm Aa (wv (A8 Aa Aa) (wv (A8 Aa Aa) (wa Aa (wa Aa (Aw (Ao (Am (wm Aa (wv (BR Aa Aa) (Aw (cz xd Aa (λxe xf=>?_) (λxe xg=>?_)))))))))))))))))))
      ·refine Am (ob xf λxh xi xj=>DI yk8 (GR F xh xi) Aa (wa Aa (Aw (A4 (Ae (AB (Ae (Ae (Be ?_)))))))));have xk:=B1 xj hT hU;refine AB (Ae ?_);obtain rfl:=A7 xk;exact A3 (Ch yr7 (AR Aa)) (sS (sS (sS (sS (sS (sS (sS (sS (sS (sS sN)))))))))) ⟨Aa,Aa⟩
      refine A0 (AX (Cn (S:=(Bool×Bool×(List Ai)×(List Ak)×(List (Ai×(List Ab)))×(List (Ai×(List (Ai×Ac)))))×(Value×Value)) (λσ=>Dv ha he σ.1.1 σ.1.2.1 σ.1.2.2.1 σ.1.2.2.2.1 σ.1.2.2.2.2.1 σ.1.2.2.2.2.2=some hE) (λσ=>[(0,Br 9 (AH Bc l)),(1,Br 1 (AH eB twice)),(2,rS tenant),(3,rS event),(9,rP hj 0),(10,rP hg 0),(11,AD ha),(136,rB σ.1.1)]) (λσ=>[.blk hj [rB he.2.2.fMade,rv ga,rv (.map (some hh)),rv (.map (some hi)),rv gb] 59,.row ga 9 1 (AH eS he.2.2.fEvents),.map hh (AL Ar he.2.2.fResults),.map hi (AL Af he.2.2.fKeys),.row gb 67 8 (AH Ad he.2.2.fPending),.blk hg [rB σ.1.2.1,rv σ.2.1,rv (.map (some hb)),rv (.map (some hd)),rv σ.2.2] 59,.map hb (AL Ar σ.1.2.2.2.2.1),.map hd (AL Af σ.1.2.2.2.2.2),.row σ.2.1 9 1 (AH eS σ.1.2.2.1),.row σ.2.2 67 8 (AH Ad σ.1.2.2.2.1)]) ?_ ?_))
      ·refine An (wm Aa (wv (BQ Aa Aa) (wm Aa (bz xg (λhG xl=>?_) (λhG xm=>?_)))))
       ·refine wf hG (wf hG (wf hG (wf hG (wv (r:=rB true) (A5 Aa hG Aa) (wm Aa (wz Aa Aa (wz Aa Aa (wz Aa Aa (wz Aa Aa (wz Aa Aa (wu (wu (wu (wu (wz Aa Aa (wz Aa Aa (wu (wu (wu (wu (wz Aa Aa (wv (r:=rB true) (A5 (b:=true) Aa Aa Aa) (As ?_)))))))))))))))))))))));exact Ay (AE ((true,hs,ht,hu,hw,hx),(hq,hr)) xl (AG.c Aa (AG.c Aa (AG.c Aa (AG.c5 Aa Aa Aa Aa Aa AG.nil)))) (sC (sC (sC (sC (sC (sC (sC (sC (sC (sC sN)))))))))))
       refine wo hG (wm Aa (wo hG (wm Aa (wo hG (ob xm λhz xn xo=>Dn [5,7,5,5,5] LB (DU F hg hq hb hd hr (Al.mk hs ht hw hx hu) gP.1 hz xn) ?_)))));rintro _ _ ⟨g0,g1,rfl,rfl⟩;refine wo hG (wv (BQ Aa Aa) (G9 Aa hG Aa (wm Aa (bz xo (λhk xp=>?_) (λhk xq=>?_)))))
       ·refine wf hk (wf hk (wf hk (wf hk (wf hk (wu (wu (wu (wu (wf hk (wf hk (wu (wu (wu (wu (wf hk (wv (r:=rB true) (A5 Aa hk Aa) (As (Gx [5,5,5,5,5,0,1,1] ?_))))))))))))))))));exact Ay (AE ((true,hz.2.fMade,hz.2.fEvents,hz.2.fPending,hz.2.fResults,hz.2.fKeys),(g0,g1)) xp (AG.c Aa (AG.c Aa (AG.c Aa (AG.c5 Aa Aa Aa Aa Aa AG.nil)))) (sC (sC (sC (sC (sC (sC (sC (sC (sC (sC sN)))))))))))
       refine wo hk (wm Aa (wo hk (wm Aa (wo hk (wv (Bx (ys:=twice) (enc:=eB) SL Aa) (wo hk (wv (Dh Aa Aa) (wo hk (wm Aa (bz xq (λhH xr=>?_) (λhH xs=>?_)))))))))))
       ·refine wo hH (wm Aa (wo hH (wm Aa (wo hH (ck xr λxt xu=>wv (AW (enc:=eB) (ys:=twice) SL Iy Aa Aa xt) (wo hH (wv (AJ SS Aa Aa) (wo hk (It Aa hH Aa (wo hk (wm Aa (bz xu (λhI xv=>?_) (λhI xw=>?_)))))))))))))
        ·refine wo hI (wm Aa (wo hI (wm Aa (wo hI (ob xv λgh xx xy=>Dn [0,0,0,0,0] LB (DU F hg g0 hb hd g1 hz.2 gP.1 gh xx) ?_)))));rintro _ _ ⟨xz,x0,rfl,rfl⟩;refine wo hI (wv (BQ Aa Aa) (wo hk (It Aa hI Aa (G9 Aa hk Aa (As (Gx [5,5,5,5,5,0,1,1] ?_))))));exact Ay (AE ((!decide (gh.1=0),gh.2.fMade,gh.2.fEvents,gh.2.fPending,gh.2.fResults,gh.2.fKeys),(xz,x0)) xy (AG.c Aa (AG.c Aa (AG.c Aa (AG.c5 Aa Aa Aa Aa Aa AG.nil)))) (sC (sC (sC (sC (sC (sC (sC (sC (sC (sC sN)))))))))))
        refine wf hI (wf hI (wf hI (wf hI (wo hk (wv (r:=rB false) (A2 Aa hI Aa) (G9 Aa hk Aa (As (Gx [5,5,5,5,5,0,1,1] ?_))))))));exact Ay (AE ((false,hz.2.fMade,hz.2.fEvents,hz.2.fPending,hz.2.fResults,hz.2.fKeys),(g0,g1)) xw (AG.c Aa (AG.c Aa (AG.c Aa (AG.c5 Aa Aa Aa Aa Aa AG.nil)))) (sC (sC (sC (sC (sC (sC (sC (sC (sC (sC sN)))))))))))
       refine wf hH (wf hH (wf hH (wf hH (wo hk (wv (r:=rB false) (A2 Aa hH Aa) (wo hk (wm Aa (wz Aa Aa (wz Aa Aa (wz Aa Aa (wz Aa Aa (wo hk (wv (r:=rB false) (A2 (b:=false) Aa Aa Aa) (G9 Aa hk Aa (As (Gx [5,5,5,5,5,0,1,1] ?_))))))))))))))));exact Ay (AE ((false,hz.2.fMade,hz.2.fEvents,hz.2.fPending,hz.2.fResults,hz.2.fKeys),(g0,g1)) xs (AG.c Aa (AG.c Aa (AG.c Aa (AG.c5 Aa Aa Aa Aa Aa AG.nil)))) (sC (sC (sC (sC (sC (sC (sC (sC (sC (sC sN)))))))))))
      rintro⟨⟨x1,gV,gW,gX,gY,gZ⟩,⟨x2,x3⟩⟩ g2;refine GC ?_;replace g2:Dv ha he x1 gV gW gX gY gZ=some hE:=g2;unfold Dv at g2;refine cz g2 Aa (λx4 x5=>?_) (λx4 x6=>?_)
      ·refine Am (wa Aa (Aw (A4 (AB (Ae (Ae (Be ?_)))))));have x7:=B1 x5 hT hU;refine AB (Ae ?_);obtain rfl:=A7 x7;exact A3 (Ch yr7 (AR Aa)) (sS (sS (sS (sS (sS (sS (sS (sS (sS (sS sN)))))))))) ⟨Aa,Aa⟩
      refine A0 (AK (Gx [5,5,5,0,1,1,2,2] ?_));exact Ay (AE ((gV,gW,gX,gY,gZ,he.2.2.fMade,he.2.2.fEvents,he.2.2.fPending,he.2.2.fResults,he.2.2.fKeys),(x2,x3,ga,gb)) x6 (AG.c Aa (AG.c Aa (AG.c5 Aa Aa Aa Aa Aa AG.nil))) (sC (sC (sC (sC (sC (sC (sC (sC (sC (sC sN)))))))))))
     refine An (wm Aa (ob xb λgQ x8 x9=>DI YI (G1 F gO gQ x8) Aa (wm Aa (wv (A8 Aa Aa) (wv (A8 Aa Aa) (wa Aa (wa Aa (Aw (Ao (Am (wm Aa (wv (BR Aa Aa) (Aw (cz x9 Aa (λxA xB=>?_) (λxA xC=>?_)))))))))))))))
     ·refine Am (ob xB λxD xE xF=>DI yk8 (GR F xD xE) Aa (wa Aa (Aw (A4 (Ae (AB (Ae (Ae (Be ?_)))))))));have xG:=B1 xF hT hU;refine AB (Ae ?_);obtain rfl:=A7 xG;exact A3 (Ch yr7 (AR Aa)) (sS (sS (sS (sS (sS (sS (sS (sS (sS (sS sN)))))))))) ⟨Aa,Aa⟩
     refine A0 (AX (Cn (S:=(Bool×Bool×(List Ai)×(List Ak)×(List (Ai×(List Ab)))×(List (Ai×(List (Ai×Ac)))))×(Value×Value)) (λσ=>CH ha he σ.1.1 σ.1.2.1 σ.1.2.2.1 σ.1.2.2.2.1 σ.1.2.2.2.2.1 σ.1.2.2.2.2.2=some hE) (λσ=>[(0,Br 9 (AH Bc l)),(1,Br 1 (AH eB twice)),(2,rS tenant),(3,rS event),(9,rP hj 0),(10,rP hg 0),(11,AD ha),(136,rB σ.1.1)]) (λσ=>[.blk hj [rB he.2.2.fMade,rv ga,rv (.map (some hh)),rv (.map (some hi)),rv gb] 59,.row ga 9 1 (AH eS he.2.2.fEvents),.map hh (AL Ar he.2.2.fResults),.map hi (AL Af he.2.2.fKeys),.row gb 67 8 (AH Ad he.2.2.fPending),.blk hg [rB σ.1.2.1,rv σ.2.1,rv (.map (some hb)),rv (.map (some hd)),rv σ.2.2] 59,.map hb (AL Ar σ.1.2.2.2.2.1),.map hd (AL Af σ.1.2.2.2.2.2),.row σ.2.1 9 1 (AH eS σ.1.2.2.1),.row σ.2.2 67 8 (AH Ad σ.1.2.2.2.1)]) ?_ ?_))
     ·refine An (wm Aa (wv (BQ Aa Aa) (wm Aa (bz xC (λhJ xH=>?_) (λhJ xI=>?_)))))
      ·refine wf hJ (wf hJ (wf hJ (wf hJ (wv (r:=rB true) (A5 Aa hJ Aa) (wm Aa (wz Aa Aa (wz Aa Aa (wz Aa Aa (wz Aa Aa (wz Aa Aa (wu (wu (wu (wu (wz Aa Aa (wz Aa Aa (wu (wu (wu (wu (wz Aa Aa (wv (r:=rB true) (A5 (b:=true) Aa Aa Aa) (As ?_)))))))))))))))))))))));exact Ay (AE ((true,hs,ht,hu,hw,hx),(hq,hr)) xH (AG.c Aa (AG.c Aa (AG.c Aa (AG.c5 Aa Aa Aa Aa Aa AG.nil)))) (sC (sC (sC (sC (sC (sC (sC (sC (sC (sC sN)))))))))))
      refine wo hJ (wm Aa (wo hJ (wm Aa (wo hJ (ob xI λh0 xJ xK=>Dn [5,7,5,5,5] LB (DU F hg hq hb hd hr (Al.mk hs ht hw hx hu) gQ.1 h0 xJ) ?_)))));rintro _ _ ⟨g3,g4,rfl,rfl⟩;refine wo hJ (wv (BQ Aa Aa) (G9 Aa hJ Aa (wm Aa (bz xK (λhl xL=>?_) (λhl xM=>?_)))))
      ·refine wf hl (wf hl (wf hl (wf hl (wf hl (wu (wu (wu (wu (wf hl (wf hl (wu (wu (wu (wu (wf hl (wv (r:=rB true) (A5 Aa hl Aa) (As (Gx [5,5,5,5,5,0,1,1] ?_))))))))))))))))));exact Ay (AE ((true,h0.2.fMade,h0.2.fEvents,h0.2.fPending,h0.2.fResults,h0.2.fKeys),(g3,g4)) xL (AG.c Aa (AG.c Aa (AG.c Aa (AG.c5 Aa Aa Aa Aa Aa AG.nil)))) (sC (sC (sC (sC (sC (sC (sC (sC (sC (sC sN)))))))))))
      refine wo hl (wm Aa (wo hl (wm Aa (wo hl (wv (Bx (ys:=twice) (enc:=eB) SL Aa) (wo hl (wv (Dh Aa Aa) (wo hl (wm Aa (bz xM (λhK xN=>?_) (λhK xO=>?_)))))))))))
      ·refine wo hK (wm Aa (wo hK (wm Aa (wo hK (ck xN λxP xQ=>wv (AW (enc:=eB) (ys:=twice) SL Iy Aa Aa xP) (wo hK (wv (AJ SS Aa Aa) (wo hl (It Aa hK Aa (wo hl (wm Aa (bz xQ (λhL xR=>?_) (λhL xS=>?_)))))))))))))
       ·refine wo hL (wm Aa (wo hL (wm Aa (wo hL (ob xR λgi xT xU=>Dn [0,0,0,0,0] LB (DU F hg g3 hb hd g4 h0.2 gQ.1 gi xT) ?_)))));rintro _ _ ⟨xV,xW,rfl,rfl⟩;refine wo hL (wv (BQ Aa Aa) (wo hl (It Aa hL Aa (G9 Aa hl Aa (As (Gx [5,5,5,5,5,0,1,1] ?_))))));exact Ay (AE ((!decide (gi.1=0),gi.2.fMade,gi.2.fEvents,gi.2.fPending,gi.2.fResults,gi.2.fKeys),(xV,xW)) xU (AG.c Aa (AG.c Aa (AG.c Aa (AG.c5 Aa Aa Aa Aa Aa AG.nil)))) (sC (sC (sC (sC (sC (sC (sC (sC (sC (sC sN)))))))))))
       refine wf hL (wf hL (wf hL (wf hL (wo hl (wv (r:=rB false) (A2 Aa hL Aa) (G9 Aa hl Aa (As (Gx [5,5,5,5,5,0,1,1] ?_))))))));exact Ay (AE ((false,h0.2.fMade,h0.2.fEvents,h0.2.fPending,h0.2.fResults,h0.2.fKeys),(g3,g4)) xS (AG.c Aa (AG.c Aa (AG.c Aa (AG.c5 Aa Aa Aa Aa Aa AG.nil)))) (sC (sC (sC (sC (sC (sC (sC (sC (sC (sC sN)))))))))))
      refine wf hK (wf hK (wf hK (wf hK (wo hl (wv (r:=rB false) (A2 Aa hK Aa) (wo hl (wm Aa (wz Aa Aa (wz Aa Aa (wz Aa Aa (wz Aa Aa (wo hl (wv (r:=rB false) (A2 (b:=false) Aa Aa Aa) (G9 Aa hl Aa (As (Gx [5,5,5,5,5,0,1,1] ?_))))))))))))))));exact Ay (AE ((false,h0.2.fMade,h0.2.fEvents,h0.2.fPending,h0.2.fResults,h0.2.fKeys),(g3,g4)) xO (AG.c Aa (AG.c Aa (AG.c Aa (AG.c5 Aa Aa Aa Aa Aa AG.nil)))) (sC (sC (sC (sC (sC (sC (sC (sC (sC (sC sN)))))))))))
     rintro⟨⟨xX,ca,cb,cc,cd,ce⟩,⟨xY,xZ⟩⟩ g5;refine GC ?_;replace g5:CH ha he xX ca cb cc cd ce=some hE:=g5;unfold CH at g5;refine cz g5 Aa (λva vb=>?_) (λva vc=>?_)
     ·refine Am (wa Aa (Aw (A4 (AB (Ae (Ae (Be ?_)))))));have vd:=B1 vb hT hU;refine AB (Ae ?_);obtain rfl:=A7 vd;exact A3 (Ch yr7 (AR Aa)) (sS (sS (sS (sS (sS (sS (sS (sS (sS (sS sN)))))))))) ⟨Aa,Aa⟩
     refine A0 (AK (Gx [5,5,5,0,1,1,2,2] ?_));exact Ay (AE ((ca,cb,cc,cd,ce,he.2.2.fMade,he.2.2.fEvents,he.2.2.fPending,he.2.2.fResults,he.2.2.fKeys),(xY,xZ,ga,gb)) vc (AG.c Aa (AG.c Aa (AG.c5 Aa Aa Aa Aa Aa AG.nil))) (sC (sC (sC (sC (sC (sC (sC (sC (sC (sC sN)))))))))))
    refine A0 (AX (Am (wm Aa (wm Aa (wm Aa (wv (AW (enc:=Bc) (ys:=l) L8 LA Aa Aa h7) (wv (Dm Tryz.isAgg36 LA Aa Aa Aa) (ob cP λhf ve vf=>Dn [3,7,3,3,5] Tryz.call11 (Wj F hj hC hh hi hD (Al.mk hV hW hY hZ hX) (Bl.mk ((Aq l ha).fKind) ((Aq l ha).fC) ((Aq l ha).fS) ((Aq l ha).fN)) hf ve) ?_))))))));rintro _ _ ⟨gd,ge,rfl,rfl⟩;refine wm Aa (wv (A8 Aa Aa) (wv (A8 Aa Aa) (wa Aa (wa Aa (Aw (Ao (AV [(0,Br 9 (AH Bc l)),(1,Br 1 (AH eB twice)),(2,rS tenant),(3,rS event),(9,rP hj 0),(10,rP hg 0),(11,AD ha),(12,rS ((Aq l ha).fS)),(87,rB ((!decide (hf.2.1=0))||((decide (((Aq l ha).fKind)=0))&&(!hf.1))))] [.blk hj [rB hf.2.2.fMade,rv gd,rv (.map (some hh)),rv (.map (some hi)),rv ge] 59,.row gd 9 1 (AH eS hf.2.2.fEvents),.map hh (AL Ar hf.2.2.fResults),.map hi (AL Af hf.2.2.fKeys),.row ge 67 8 (AH Ad hf.2.2.fPending),.blk hg [rB hs,rv hq,rv (.map (some hb)),rv (.map (some hd)),rv hr] 59,.map hb (AL Ar hw),.map hd (AL Af hx),.row hq 9 1 (AH eS ht),.row hr 67 8 (AH Ad hu)] ?_ ?_)))))))
    ·refine An (wm Aa (wv (BQ Aa Aa) (wm Aa (AY (!decide (hf.2.1=0)) (λhp=>?_) (λhp=>?_)))))
     ·refine wf hp (wf hp (wf hp (wf hp (wf hp (wf hp (wf hp (wu (wu (wf hp (wv (r:=rB true) (A5 Aa hp Aa) (As ?_)))))))))));exact CI hp
     refine wo hp (wm Aa (wo hp (wm Aa (wo hp (wv (AW (enc:=Bc) (ys:=l) L8 LA Aa Aa h7) (wo hp (wv (A1 Ir Aa Cy Aa Aa) (wo hp (wv (AJ CO Aa Aa) (wo hp (wv (BR Aa Aa) (wo hp (wm Aa (AY (decide (((Aq l ha).fKind)=0)) (λgf=>?_) (λgf=>?_)))))))))))))))
     ·refine wo gf (wm Aa (wo gf (wv (BT Aa) (wo hp (It Aa gf Aa (G9 Aa hp Aa (As ?_)))))));exact CI (And.intro hp gf)
     refine wf gf (wf gf (wo hp (wv (r:=rB false) (A2 Aa gf Aa) (G9 Aa hp Aa (As ?_)))));exact CI (And.intro hp gf)
    refine cz vf Aa (λvg vh=>?_) (λvg vi=>?_)
    ·refine B3 (A9 (Bn (Gx [5,5,5,0,1,1,2,2] ?_)));exact Ay (AE ((hs,ht,hu,hw,hx,hf.2.2.fMade,hf.2.2.fEvents,hf.2.2.fPending,hf.2.2.fResults,hf.2.2.fKeys),(hq,hr,gd,ge)) vh (AG.c Aa (AG.c Aa (AG.c5 Aa Aa Aa Aa Aa AG.nil))) (sC (sC (sC (sC (sC (sC (sC (sC (sC (sC sN)))))))))))
    refine A0 (AX (Am (wv (r:=rS ([]:Ai)) (AA Aa) (Aw (Ao (Am (wm Aa (wm Aa (wv (AW (enc:=Bc) (ys:=l) L8 LA Aa Aa h7) (wv (A1 Ir Aa Cy Aa Aa) (wv (AJ CO Aa Aa) (wv (BR Aa Aa) (Aw (cz vi Aa (λvj vk=>?_) (λvj vl=>?_)))))))))))))))
    ·refine An (wm Aa (wm Aa (wv (AW (enc:=Bc) (ys:=l) L8 LA Aa Aa h7) (wv (A1 Ir Aa DM Aa Aa) (wv (Dm GG DM Aa Aa Aa) (ob vk λgR vm vn=>DI YK (KV F ((Aq l ha).fC) gR vm) Aa (wm Aa (wv (A8 Aa Aa) (wv (A8 Aa Aa) (wa Aa (wa Aa (Aw (Ao (Am (wm Aa (wv (BR Aa Aa) (Aw (cz vn Aa (λvo vp=>?_) (λvo vq=>?_)))))))))))))))))))
     ·refine Am (ob vp λvr vs vt=>DI yk8 (GR F vr vs) Aa (wa Aa (Aw (A4 (Ae (AB (Ae (Ae (Be ?_)))))))));have vu:=B1 vt hT hU;refine AB (Ae ?_);obtain rfl:=A7 vu;exact A3 (Ch yr7 (AR Aa)) (sS (sS (sS (sS (sS (sS (sS (sS (sS (sS sN)))))))))) ⟨Aa,Aa⟩
     refine A0 (AX (Cn (S:=(Bool×Bool×(List Ai)×(List Ak)×(List (Ai×(List Ab)))×(List (Ai×(List (Ai×Ac)))))×(Value×Value)) (λσ=>CG ha hf σ.1.1 σ.1.2.1 σ.1.2.2.1 σ.1.2.2.2.1 σ.1.2.2.2.2.1 σ.1.2.2.2.2.2=some hE) (λσ=>[(0,Br 9 (AH Bc l)),(1,Br 1 (AH eB twice)),(2,rS tenant),(3,rS event),(9,rP hj 0),(10,rP hg 0),(11,AD ha),(136,rB σ.1.1)]) (λσ=>[.blk hj [rB hf.2.2.fMade,rv gd,rv (.map (some hh)),rv (.map (some hi)),rv ge] 59,.row gd 9 1 (AH eS hf.2.2.fEvents),.map hh (AL Ar hf.2.2.fResults),.map hi (AL Af hf.2.2.fKeys),.row ge 67 8 (AH Ad hf.2.2.fPending),.blk hg [rB σ.1.2.1,rv σ.2.1,rv (.map (some hb)),rv (.map (some hd)),rv σ.2.2] 59,.map hb (AL Ar σ.1.2.2.2.2.1),.map hd (AL Af σ.1.2.2.2.2.2),.row σ.2.1 9 1 (AH eS σ.1.2.2.1),.row σ.2.2 67 8 (AH Ad σ.1.2.2.2.1)]) ?_ ?_))
     ·refine An (wm Aa (wv (BQ Aa Aa) (wm Aa (bz vq (λhN vv=>?_) (λhN vw=>?_)))))
      ·refine wf hN (wf hN (wf hN (wf hN (wv (r:=rB true) (A5 Aa hN Aa) (wm Aa (wz Aa Aa (wz Aa Aa (wz Aa Aa (wz Aa Aa (wz Aa Aa (wu (wu (wu (wu (wz Aa Aa (wz Aa Aa (wu (wu (wu (wu (wz Aa Aa (wv (r:=rB true) (A5 (b:=true) Aa Aa Aa) (As ?_)))))))))))))))))))))));exact Ay (AE ((true,hs,ht,hu,hw,hx),(hq,hr)) vv (AG.c Aa (AG.c Aa (AG.c Aa (AG.c5 Aa Aa Aa Aa Aa AG.nil)))) (sC (sC (sC (sC (sC (sC (sC (sC (sC (sC sN)))))))))))
      refine wo hN (wm Aa (wo hN (wm Aa (wo hN (ob vw λh1 vx vy=>Dn [5,7,5,5,5] LB (DU F hg hq hb hd hr (Al.mk hs ht hw hx hu) gR.1 h1 vx) ?_)))));rintro _ _ ⟨g6,g7,rfl,rfl⟩;refine wo hN (wv (BQ Aa Aa) (G9 Aa hN Aa (wm Aa (bz vy (λhm vz=>?_) (λhm v0=>?_)))))
      ·refine wf hm (wf hm (wf hm (wf hm (wf hm (wu (wu (wu (wu (wf hm (wf hm (wu (wu (wu (wu (wf hm (wv (r:=rB true) (A5 Aa hm Aa) (As (Gx [5,5,5,5,5,0,1,1] ?_))))))))))))))))));exact Ay (AE ((true,h1.2.fMade,h1.2.fEvents,h1.2.fPending,h1.2.fResults,h1.2.fKeys),(g6,g7)) vz (AG.c Aa (AG.c Aa (AG.c Aa (AG.c5 Aa Aa Aa Aa Aa AG.nil)))) (sC (sC (sC (sC (sC (sC (sC (sC (sC (sC sN)))))))))))
      refine wo hm (wm Aa (wo hm (wm Aa (wo hm (wv (Bx (ys:=twice) (enc:=eB) SL Aa) (wo hm (wv (Dh Aa Aa) (wo hm (wm Aa (bz v0 (λhO v1=>?_) (λhO v2=>?_)))))))))))
      ·refine wo hO (wm Aa (wo hO (wm Aa (wo hO (ck v1 λv3 v4=>wv (AW (enc:=eB) (ys:=twice) SL Iy Aa Aa v3) (wo hO (wv (AJ SS Aa Aa) (wo hm (It Aa hO Aa (wo hm (wm Aa (bz v4 (λhP v5=>?_) (λhP v6=>?_)))))))))))))
       ·refine wo hP (wm Aa (wo hP (wm Aa (wo hP (ob v5 λgj v7 v8=>Dn [0,0,0,0,0] LB (DU F hg g6 hb hd g7 h1.2 gR.1 gj v7) ?_)))));rintro _ _ ⟨v9,vA,rfl,rfl⟩;refine wo hP (wv (BQ Aa Aa) (wo hm (It Aa hP Aa (G9 Aa hm Aa (As (Gx [5,5,5,5,5,0,1,1] ?_))))));exact Ay (AE ((!decide (gj.1=0),gj.2.fMade,gj.2.fEvents,gj.2.fPending,gj.2.fResults,gj.2.fKeys),(v9,vA)) v8 (AG.c Aa (AG.c Aa (AG.c Aa (AG.c5 Aa Aa Aa Aa Aa AG.nil)))) (sC (sC (sC (sC (sC (sC (sC (sC (sC (sC sN)))))))))))
       refine wf hP (wf hP (wf hP (wf hP (wo hm (wv (r:=rB false) (A2 Aa hP Aa) (G9 Aa hm Aa (As (Gx [5,5,5,5,5,0,1,1] ?_))))))));exact Ay (AE ((false,h1.2.fMade,h1.2.fEvents,h1.2.fPending,h1.2.fResults,h1.2.fKeys),(g6,g7)) v6 (AG.c Aa (AG.c Aa (AG.c Aa (AG.c5 Aa Aa Aa Aa Aa AG.nil)))) (sC (sC (sC (sC (sC (sC (sC (sC (sC (sC sN)))))))))))
      refine wf hO (wf hO (wf hO (wf hO (wo hm (wv (r:=rB false) (A2 Aa hO Aa) (wo hm (wm Aa (wz Aa Aa (wz Aa Aa (wz Aa Aa (wz Aa Aa (wo hm (wv (r:=rB false) (A2 (b:=false) Aa Aa Aa) (G9 Aa hm Aa (As (Gx [5,5,5,5,5,0,1,1] ?_))))))))))))))));exact Ay (AE ((false,h1.2.fMade,h1.2.fEvents,h1.2.fPending,h1.2.fResults,h1.2.fKeys),(g6,g7)) v2 (AG.c Aa (AG.c Aa (AG.c Aa (AG.c5 Aa Aa Aa Aa Aa AG.nil)))) (sC (sC (sC (sC (sC (sC (sC (sC (sC (sC sN)))))))))))
     rintro⟨⟨vB,cf,cg,ch,ci,cj⟩,⟨vC,vD⟩⟩ g8;refine GC ?_;replace g8:CG ha hf vB cf cg ch ci cj=some hE:=g8;unfold CG at g8;refine cz g8 Aa (λvE vF=>?_) (λvE vG=>?_)
     ·refine Am (wa Aa (Aw (A4 (AB (Ae (Ae (Be ?_)))))));have vH:=B1 vF hT hU;refine AB (Ae ?_);obtain rfl:=A7 vH;exact A3 (Ch yr7 (AR Aa)) (sS (sS (sS (sS (sS (sS (sS (sS (sS (sS sN)))))))))) ⟨Aa,Aa⟩
     refine A0 (AK (Gx [5,5,5,0,1,1,2,2] ?_));exact Ay (AE ((cf,cg,ch,ci,cj,hf.2.2.fMade,hf.2.2.fEvents,hf.2.2.fPending,hf.2.2.fResults,hf.2.2.fKeys),(vC,vD,gd,ge)) vG (AG.c Aa (AG.c Aa (AG.c5 Aa Aa Aa Aa Aa AG.nil))) (sC (sC (sC (sC (sC (sC (sC (sC (sC (sC sN)))))))))))
    refine An (wm Aa (ob vl λgS vI vJ=>DI YI (G1 F ((Aq l ha).fS) gS vI) Aa (wm Aa (wv (A8 Aa Aa) (wv (A8 Aa Aa) (wa Aa (wa Aa (Aw (Ao (Am (wm Aa (wv (BR Aa Aa) (Aw (cz vJ Aa (λvK vL=>?_) (λvK vM=>?_)))))))))))))))
    ·refine Am (ob vL λvN vO vP=>DI yk8 (GR F vN vO) Aa (wa Aa (Aw (A4 (Ae (AB (Ae (Ae (Be ?_)))))))));have vQ:=B1 vP hT hU;refine AB (Ae ?_);obtain rfl:=A7 vQ;exact A3 (Ch yr7 (AR Aa)) (sS (sS (sS (sS (sS (sS (sS (sS (sS (sS sN)))))))))) ⟨Aa,Aa⟩
    refine A0 (AX (Cn (S:=(Bool×Bool×(List Ai)×(List Ak)×(List (Ai×(List Ab)))×(List (Ai×(List (Ai×Ac)))))×(Value×Value)) (λσ=>CF ha hf σ.1.1 σ.1.2.1 σ.1.2.2.1 σ.1.2.2.2.1 σ.1.2.2.2.2.1 σ.1.2.2.2.2.2=some hE) (λσ=>[(0,Br 9 (AH Bc l)),(1,Br 1 (AH eB twice)),(2,rS tenant),(3,rS event),(9,rP hj 0),(10,rP hg 0),(11,AD ha),(136,rB σ.1.1)]) (λσ=>[.blk hj [rB hf.2.2.fMade,rv gd,rv (.map (some hh)),rv (.map (some hi)),rv ge] 59,.row gd 9 1 (AH eS hf.2.2.fEvents),.map hh (AL Ar hf.2.2.fResults),.map hi (AL Af hf.2.2.fKeys),.row ge 67 8 (AH Ad hf.2.2.fPending),.blk hg [rB σ.1.2.1,rv σ.2.1,rv (.map (some hb)),rv (.map (some hd)),rv σ.2.2] 59,.map hb (AL Ar σ.1.2.2.2.2.1),.map hd (AL Af σ.1.2.2.2.2.2),.row σ.2.1 9 1 (AH eS σ.1.2.2.1),.row σ.2.2 67 8 (AH Ad σ.1.2.2.2.1)]) ?_ ?_))
    ·refine An (wm Aa (wv (BQ Aa Aa) (wm Aa (bz vM (λhQ vR=>?_) (λhQ vS=>?_)))))
     ·refine wf hQ (wf hQ (wf hQ (wf hQ (wv (r:=rB true) (A5 Aa hQ Aa) (wm Aa (wz Aa Aa (wz Aa Aa (wz Aa Aa (wz Aa Aa (wz Aa Aa (wu (wu (wu (wu (wz Aa Aa (wz Aa Aa (wu (wu (wu (wu (wz Aa Aa (wv (r:=rB true) (A5 (b:=true) Aa Aa Aa) (As ?_)))))))))))))))))))))));exact Ay (AE ((true,hs,ht,hu,hw,hx),(hq,hr)) vR (AG.c Aa (AG.c Aa (AG.c Aa (AG.c5 Aa Aa Aa Aa Aa AG.nil)))) (sC (sC (sC (sC (sC (sC (sC (sC (sC (sC sN)))))))))))
     refine wo hQ (wm Aa (wo hQ (wm Aa (wo hQ (ob vS λh3 vT vU=>Dn [5,7,5,5,5] LB (DU F hg hq hb hd hr (Al.mk hs ht hw hx hu) gS.1 h3 vT) ?_)))));rintro _ _ ⟨g9,gA,rfl,rfl⟩;refine wo hQ (wv (BQ Aa Aa) (G9 Aa hQ Aa (wm Aa (bz vU (λhn vV=>?_) (λhn vW=>?_)))))
     ·refine wf hn (wf hn (wf hn (wf hn (wf hn (wu (wu (wu (wu (wf hn (wf hn (wu (wu (wu (wu (wf hn (wv (r:=rB true) (A5 Aa hn Aa) (As (Gx [5,5,5,5,5,0,1,1] ?_))))))))))))))))));exact Ay (AE ((true,h3.2.fMade,h3.2.fEvents,h3.2.fPending,h3.2.fResults,h3.2.fKeys),(g9,gA)) vV (AG.c Aa (AG.c Aa (AG.c Aa (AG.c5 Aa Aa Aa Aa Aa AG.nil)))) (sC (sC (sC (sC (sC (sC (sC (sC (sC (sC sN)))))))))))
     refine wo hn (wm Aa (wo hn (wm Aa (wo hn (wv (Bx (ys:=twice) (enc:=eB) SL Aa) (wo hn (wv (Dh Aa Aa) (wo hn (wm Aa (bz vW (λhR vX=>?_) (λhR vY=>?_)))))))))))
     ·refine wo hR (wm Aa (wo hR (wm Aa (wo hR (ck vX λvZ ba=>wv (AW (enc:=eB) (ys:=twice) SL Iy Aa Aa vZ) (wo hR (wv (AJ SS Aa Aa) (wo hn (It Aa hR Aa (wo hn (wm Aa (bz ba (λhS bb=>?_) (λhS bc=>?_)))))))))))))
      ·refine wo hS (wm Aa (wo hS (wm Aa (wo hS (ob bb λgl bd be=>Dn [0,0,0,0,0] LB (DU F hg g9 hb hd gA h3.2 gS.1 gl bd) ?_)))));rintro _ _ ⟨bf,bg,rfl,rfl⟩;refine wo hS (wv (BQ Aa Aa) (wo hn (It Aa hS Aa (G9 Aa hn Aa (As (Gx [5,5,5,5,5,0,1,1] ?_))))));exact Ay (AE ((!decide (gl.1=0),gl.2.fMade,gl.2.fEvents,gl.2.fPending,gl.2.fResults,gl.2.fKeys),(bf,bg)) be (AG.c Aa (AG.c Aa (AG.c Aa (AG.c5 Aa Aa Aa Aa Aa AG.nil)))) (sC (sC (sC (sC (sC (sC (sC (sC (sC (sC sN)))))))))))
      refine wf hS (wf hS (wf hS (wf hS (wo hn (wv (r:=rB false) (A2 Aa hS Aa) (G9 Aa hn Aa (As (Gx [5,5,5,5,5,0,1,1] ?_))))))));exact Ay (AE ((false,h3.2.fMade,h3.2.fEvents,h3.2.fPending,h3.2.fResults,h3.2.fKeys),(g9,gA)) bc (AG.c Aa (AG.c Aa (AG.c Aa (AG.c5 Aa Aa Aa Aa Aa AG.nil)))) (sC (sC (sC (sC (sC (sC (sC (sC (sC (sC sN)))))))))))
     refine wf hR (wf hR (wf hR (wf hR (wo hn (wv (r:=rB false) (A2 Aa hR Aa) (wo hn (wm Aa (wz Aa Aa (wz Aa Aa (wz Aa Aa (wz Aa Aa (wo hn (wv (r:=rB false) (A2 (b:=false) Aa Aa Aa) (G9 Aa hn Aa (As (Gx [5,5,5,5,5,0,1,1] ?_))))))))))))))));exact Ay (AE ((false,h3.2.fMade,h3.2.fEvents,h3.2.fPending,h3.2.fResults,h3.2.fKeys),(g9,gA)) vY (AG.c Aa (AG.c Aa (AG.c Aa (AG.c5 Aa Aa Aa Aa Aa AG.nil)))) (sC (sC (sC (sC (sC (sC (sC (sC (sC (sC sN)))))))))))
    rintro⟨⟨bh,cl,cm,cn,co,cp⟩,⟨bi,bj⟩⟩ gB;refine GC ?_;replace gB:CF ha hf bh cl cm cn co cp=some hE:=gB;unfold CF at gB;refine cz gB Aa (λbk bl=>?_) (λbk bm=>?_)
    ·refine Am (wa Aa (Aw (A4 (AB (Ae (Ae (Be ?_)))))));have bn:=B1 bl hT hU;refine AB (Ae ?_);obtain rfl:=A7 bn;exact A3 (Ch yr7 (AR Aa)) (sS (sS (sS (sS (sS (sS (sS (sS (sS (sS sN)))))))))) ⟨Aa,Aa⟩
    refine A0 (AK (Gx [5,5,5,0,1,1,2,2] ?_));exact Ay (AE ((cl,cm,cn,co,cp,hf.2.2.fMade,hf.2.2.fEvents,hf.2.2.fPending,hf.2.2.fResults,hf.2.2.fKeys),(bi,bj,gd,ge)) bm (AG.c Aa (AG.c Aa (AG.c5 Aa Aa Aa Aa Aa AG.nil))) (sC (sC (sC (sC (sC (sC (sC (sC (sC (sC sN)))))))))))
   rintro⟨⟨cq,cr,cs,ct,cu,cv,cw,cx,cy,c0⟩,⟨bo,bp,bq,br⟩⟩ gC;refine GC ?_;replace gC:Ce ha cq cr cs ct cu cv cw cx cy c0=some hE:=gC;unfold Ce at gC;refine An (wm Aa (ck gC λbs bt=>wv (BW Aa Aa bs) (wa Aa (As ?_))));have bu:=B9 bt hT;exact Ay (AE (cF,(ha+1,cq,cr,cs,ct,cu,cv,cw,cx,cy,c0),(bo,bp,bq,br)) ⟨bu,AfV _⟩ (AG.c Aa (AG.c Aa (AG.c5 Aa Aa Aa Aa Aa AG.nil))) (sC (sC (sC (sC (sC (sC (sC (sC (sC (sC sN)))))))))))
  refine B3 (A9 ?_);have bv:=Cw cI hT hU;exact A9 (Bo (AE ((hs,ht,hu,hw,hx,hV,hW,hX,hY,hZ),(hq,hr,hC,hD)) bv (AG.c Aa (AG.c Aa (AG.c Aa (AG.c Aa AG.nil)))) (sC (sC (sC (sC (sC (sC (sC (sC (sC (sC sN))))))))))))
 rintro⟨⟨gm,gp,gq,gr,gs,gt,gu,gv,gw,gx⟩,⟨gD,gE,gF,gG⟩⟩ gH;refine JZ ?_;replace gH:Ei F tenant event gm gp gq gr gs gt gu gv gw gx=some r:=gH;unfold Ei at gH;refine Bn (AX (Am (wm Aa (wm Aa (ob gH λgT bw bx=>Dn [3,7,3,3,5] Tryz.call13 (Nh hj gF hh hi gG (Al.mk gt gu gw gx gv) event gT bw) ?_)))));rintro _ _ ⟨rfl,rfl⟩;refine wm Aa (wv (A8 Aa Aa) (wv (A8 Aa Aa) (wa Aa (wa Aa (B0 (wm Aa (wm Aa (ob bx λgU b0 b1=>Dn [5,7,5,5,5] Tryz.call13 (Nh hg gD hb hd gE (Al.mk gm gp gr gs gq) event gU b0) ?_))))))));rintro _ _ ⟨rfl,rfl⟩;refine wm Aa (wv (A8 Aa Aa) (wv (A8 Aa Aa) (wa Aa (wa Aa (Aw (Cn (S:=(Bool)×(Unit)) (λσ=>Dd σ.1=some r) (λσ=>[(8,rB σ.1)]) (λσ=>[]) ?_ ?_))))))
 ·refine An (wm Aa (wm Aa (wv (r:=rB (gT.2 ==gU.2)) (AcS Tryz.underlying4 Aa Aa) (wm Aa (bz b1 (λgg b2=>?_) (λgg b3=>?_))))))
  ·refine wo gg (wm Aa (wo gg (wm Aa (wo gg (ob b2 λb4 b5 b6=>DI Tryz.call15 (Ov F gT.1 gU.1 b4 b5) Aa (It Aa gg Aa (wm Aa (bz b6 (λh9 b7=>?_) (λh9 b8=>?_)))))))))
   ·refine wo h9 (wm Aa (wo h9 (ob b7 λc2 b9 bA=>Dn [5,5,5,5,5] Tryz.call17 (Ni hj gF hh hi gG (Al.mk gt gu gw gx gv) c2 b9) ?_)));rintro _ _ ⟨rfl,rfl⟩;refine wo h9 (wm Aa (wo h9 (ob bA λc3 bB bC=>Dn [5,5,5,5,5] Tryz.call17 (Ni hg gD hb hd gE (Al.mk gm gp gr gs gq) c3 bB) ?_)));rintro _ _ ⟨rfl,rfl⟩;refine wo h9 (ob bC λbD bE bF=>DI Tryz.call16 (TT F c2 c3 bD bE) Aa (It Aa h9 Aa (wm Aa (bz bF (λhA bG=>?_) (λhA bH=>?_)))))
    ·refine wo hA (wm Aa (wo hA (ob bG λc4 bI bJ=>Dn [5,5,5,5,5] U2 (EY F hj gF hh hi gG (Al.mk gt gu gw gx gv) c4 bI) ?_)));rintro _ _ ⟨rfl,rfl⟩;refine wo hA (wm Aa (wo hA (ob bJ λc6 bK bL=>Dn [5,5,5,5,5] U2 (EY F hg gD hb hd gE (Al.mk gm gp gr gs gq) c6 bK) ?_)));rintro _ _ ⟨rfl,rfl⟩;refine wo hA (ob bL λbM bN bO=>DI Tryz.call19 (Su F c4 c6 bM bN) Aa (It Aa hA Aa (wm Aa (bz bO (λh5 bP=>?_) (λh5 bQ=>?_)))))
     ·refine wo h5 (wm Aa (wo h5 (wm Aa (wo h5 (ob bP λc7 bR bS=>Dn [5,5,5,5,5] YL (Ku F hj gF hh hi gG (Al.mk gt gu gw gx gv) tenant c7 bR) ?_)))));rintro _ _ ⟨rfl,rfl⟩;refine wo h5 (wm Aa (wo h5 (wm Aa (wo h5 (ob bS λc8 bT bU=>Dn [5,5,5,5,5] YL (Ku F hg gD hb hd gE (Al.mk gm gp gr gs gq) tenant c8 bT) ?_)))));rintro _ _ ⟨rfl,rfl⟩;refine wo h5 (ob bU λbV bW bX=>DI Tryz.call22 (Vg F c7 c8 bV bW) Aa (It Aa h5 Aa (wm Aa (bz bX (λgy bY=>?_) (λgy bZ=>?_)))))
      ·exact wo gy (ob bY λc9 ra rb=>DI yk8 (GR F c9 ra) Aa (It Aa gy Aa (wa Aa (As (Ay (AE (c9,()) rb (AG.c Aa AG.nil) (sS (sS (sS (sS (sS (sS (sS (sS (sS (sS sN))))))))))))))))
      exact wf gy (wv (r:=rB false) (A2 Aa gy Aa) (wa Aa (As (Ay (AE (false,()) bZ (AG.c Aa AG.nil) (sS (sS (sS (sS (sS (sS (sS (sS (sS (sS sN)))))))))))))))
     exact wf h5 (wf h5 (wf h5 (wf h5 (wf h5 (wf h5 (wf h5 (wv (r:=rB false) (A2 Aa h5 Aa) (wm Aa (wz Aa Aa (wv (r:=rB false) (A2 (b:=false) Aa Aa Aa) (wa Aa (As (Ay (AE (false,()) bQ (AG.c Aa AG.nil) (sS (sS (sS (sS (sS (sS (sS (sS (sS (sS sN))))))))))))))))))))))))
    exact wf hA (wf hA (wf hA (wf hA (wf hA (wv (r:=rB false) (A2 Aa hA Aa) (wm Aa (wz Aa Aa (wz Aa Aa (wz Aa Aa (wz Aa Aa (wz Aa Aa (wz Aa Aa (wz Aa Aa (wv (r:=rB false) (A2 (b:=false) Aa Aa Aa) (wm Aa (wz Aa Aa (wv (r:=rB false) (A2 (b:=false) Aa Aa Aa) (wa Aa (As (Ay (AE (false,()) bH (AG.c Aa AG.nil) (sS (sS (sS (sS (sS (sS (sS (sS (sS (sS sN)))))))))))))))))))))))))))))))
   refine wf h9 (wf h9 (wf h9 (wf h9 (wf h9 (wv (r:=rB false) (A2 Aa h9 Aa) (wm Aa (wz Aa Aa (wz Aa Aa (wz Aa Aa (wz Aa Aa (wz Aa Aa (wv (r:=rB false) (A2 (b:=false) Aa Aa Aa) (wm Aa (wz Aa Aa (wz Aa Aa (wz Aa Aa (wz Aa Aa (wz Aa Aa (wz Aa Aa (wz Aa Aa (wv (r:=rB false) (A2 (b:=false) Aa Aa Aa) (wm Aa (wz Aa Aa ?_)))))))))))))))))))))));exact wv (r:=rB false) (A2 (b:=false) Aa Aa Aa) (wa Aa (As (Ay (AE (false,()) b8 (AG.c Aa AG.nil) (sS (sS (sS (sS (sS (sS (sS (sS (sS (sS sN))))))))))))))
  refine wf gg (wf gg (wf gg (wv (r:=rB false) (A2 Aa gg Aa) (wm Aa (wz Aa Aa (wz Aa Aa (wz Aa Aa (wz Aa Aa (wz Aa Aa (wv (r:=rB false) (A2 (b:=false) Aa Aa Aa) (wm Aa (wz Aa Aa (wz Aa Aa (wz Aa Aa (wz Aa Aa (wz Aa Aa (wv (r:=rB false) (A2 (b:=false) Aa Aa Aa) (wm Aa (wz Aa Aa (wz Aa Aa (wz Aa Aa (wz Aa Aa (wz Aa Aa ?_)))))))))))))))))))))));exact wz Aa Aa (wz Aa Aa (wv (r:=rB false) (A2 (b:=false) Aa Aa Aa) (wm Aa (wz Aa Aa (wv (r:=rB false) (A2 (b:=false) Aa Aa Aa) (wa Aa (As (Ay (AE (false,()) b3 (AG.c Aa AG.nil) (sS (sS (sS (sS (sS (sS (sS (sS (sS (sS sN)))))))))))))))))))
 rintro⟨rc,⟨⟩⟩ gI;refine GC ?_;replace gI:Dd rc=some r:=gI;unfold Dd at gI;refine A4 ?_;obtain rfl:=A7 gI;exact A3 (Ch yr7 (AR Aa)) sN ⟨Aa,Aa⟩
end Go.Proofs.YtfobhhegpkinaaaGreatDoor.Q
namespace Go.Proofs.YtfobhhegpkinaaaGreatDoor.lawOutboxRecovers
open Go
set_option linter.unusedVariables false
def ZG (y:Ab):Bool:=(Cb .i64) y.fKind&&(Cb .i64) y.fInt&&LJ y.fStr&&(Cb .i64) y.fN
def AbU (y:Ap):Bool:=(Cb .i64) y.fKind&&LJ y.fKey&&(λys:(List Ab)=>ys.all ZG&&decide (ys.length≤1048576)) y.fValue&&(Cb .i64) y.fDelay
def Adu (y:AC):Bool:=LJ y.fEvent&&LJ y.fTenant&&(Cb .i64) y.fAttempt&&(λys:(List Ab)=>ys.all ZG&&decide (ys.length≤1048576)) y.fResult&&(λys:(List Ap)=>ys.all AbU&&decide (ys.length≤1048576)) y.fEffects&&(Cb .i64) y.fAt
def AbV (y:Bl):Bool:=(Cb .i64) y.fKind&&Adu y.fC&&LJ y.fS&&(Cb .i64) y.fN
def Law:Prop:=∀(y0:(List Bl)) (y1:(List Bool)) (y2:Ai) (y3:Ai) (o0:(λys:(List Bl)=>ys.all AbV&&decide (ys.length≤1048576)) y0=true) (o1:(λys:(List Bool)=>ys.all (λ_=>true)&&decide (ys.length≤1048576)) y1=true) (o2:LJ y2=true) (o3:LJ y3=true),∃F,Ie F y0 y1 y2 y3=some true
end Go.Proofs.YtfobhhegpkinaaaGreatDoor.lawOutboxRecovers
namespace Go.Proofs.YtfobhhegpkinaaaGreatDoor
open Go
set_option linter.unusedVariables false
set_option linter.unusedSimpArgs false
def Lp (c:UInt8):Bool:=decide (32≤c.toNat)&&decide (c.toNat≤126)
theorem HD {s:Ai}{x:Int}{c:UInt8}(h:s[x.toNat]? =some c):B8 s x=(c.toNat:Int):=by simp[B8,h]
theorem Qj {α:Type}{p:α→Bool}{s:List α}{k:Nat}{c:α}(h:s[k]? =some c):(s.take (k+1)).all p=((s.take k).all p&&p c):=by
 rw[List.take_add_one,h];simp
theorem SC {α:Type}{p:α→Bool}{s:List α}{k:Nat}{c:α}(h:s[k]? =some c)(hp:p c=false):s.all p=false:=by
 rw[List.all_eq_false];exact⟨c,AfU h,by simp[hp]⟩
theorem SV {F:Nat}{s:Ai}(hF:s.length<F)(hs:s.length≤9223372036854775807):Mf F s=some (s.all Lp):=by
 obtain⟨o,h1,h2⟩:=O3 (body:=λσ=>IQ s σ) (λx=>0≤x∧x≤(s.length:Int)∧(s.take x.toNat).all Lp=true) (λx=>s.length-x.toNat)
  (λo=>BO (λ_=>IP) o=some (s.all Lp)) (λx ⟨h0,hl,ha⟩=>by
   unfold IQ
   by_cases hx:x<(s.length:Int)
   ·obtain⟨c,hc⟩:∃c,s[x.toNat]? =some c:=⟨s[x.toNat]'(by omega),AfN (by omega)⟩
    rw[AZ (by simpa using hx),Bm h0 hx,HD hc]
    cases ho:Lp c with
    | false=>
     refine .inr ⟨.ret false,?_,?_⟩
     ·rw[AZ];simp only[Lp,AgG,AfE] at ho;simp only[Agv,AfF];omega
     ·simp[BO,SC hc ho]
    | true=>
     refine .inl ⟨x+1,?_,⟨by omega,by omega,?_⟩,by omega⟩
     ·rw[AN,Ba (by omega) (by omega)];simp only[Lp,AfM,AfF] at ho;simp only[Agj,AfE];omega
     ·rw[show(x+1).toNat=x.toNat+1 from by omega,Qj hc,ha,ho];rfl
   ·refine .inr ⟨.go (),by rw[AN (by simpa using hx)],?_⟩;rw[show x.toNat=s.length from by omega,List.take_length] at ha;simp[BO,IP,ha]) F 0 ⟨by omega,by omega,by simp⟩ (by simpa using hF)
 unfold Mf;rw[Bs h1,h2]
theorem RX (F:Nat)(s:Ai):RY F s=Mf F s:=rfl
theorem Xm {F:Nat}{s:Ai}(hF:s.length<F)(hs:s.length≤9223372036854775807):RY F s=some (s.all Lp):=by rw[RX];exact SV hF hs
def pl (c:Ab):Bool:=
 bif decide (c.fKind=1) then(decide (c.fInt=0)&&(decide (c.fStr=[])&&decide (c.fN=0))) else
 bif decide (c.fKind=2) then((decide (c.fInt=0)||decide (c.fInt=1))&&(decide (c.fStr=[])&&decide (c.fN=0))) else
 bif decide (c.fKind=3) then(decide (c.fStr=[])&&decide (c.fN=0)) else
 bif decide (c.fKind=4) then(decide (c.fInt=0)&&(decide (c.fN=0)&&c.fStr.all Lp)) else
 bif decide (c.fKind=5) then(decide (c.fInt=0)&&(decide (c.fStr=[])&&decide (0≤c.fN))) else
 bif decide (c.fKind=6) then(decide (c.fInt=0)&&(decide (c.fStr=[])&&decide (0≤c.fN))) else false
theorem EM {α:Type}{p:Bool}{x y:Option α}{a b:α}(h:x=some a)(h':y=some b):Bw p x y=some (bif p then a else b):=by cases p<;>simp[Bw,h,h']
theorem WW {F:Nat}{c:Ab}(hF:c.fStr.length<F)(hs:c.fStr.length≤9223372036854775807):OT F c=some (pl c):=by
 unfold OT pl;rw[SV hF hs];refine EM rfl (EM ?_ (EM rfl (EM ?_ (EM rfl (EM rfl rfl)))))
 ·cases h:decide (c.fInt=0)<;>simp
 ·simp[imp,Bd,ov]
def NX:List AI→List AI
 | []=>[]
 | e::S=>bif decide (1<e.fLeft) then⟨e.fPairs,e.fLeft-1,e.fPairs,e.fLast,e.fStarted⟩::S else NX S
theorem OA {α:Type}[Inhabited α](xs:List α)(e:α):Aq (xs++[e]) (xs.length:Int)=e:=by simp[Aq]
theorem Mn {α:Type}(xs:List α)(e e':α):List.set (xs++[e]) (Int.toNat (xs.length:Int)) e'=xs++[e']:=by simp
theorem M8 {α:Type}(xs:List α)(e:α):((xs++[e]).length:Int)-1=(xs.length:Int):=by simp
theorem Xb {α:Type}(xs:List α)(e:α):List.take (Int.toNat (xs.length:Int)) (xs++[e])=xs:=by simp
theorem ND:∀(S:List AI) (F:Nat),S.length<F→(∀e∈S,1≤e.fLeft∧e.fLeft≤9223372036854775807)→S.length≤4611686018427387904→
  ∃o,Ci (λσ=>Er σ) F S.reverse=some o∧BO (λν=>EV ν) o=some (NX S).reverse
 | [],F+1,_,_,_=>⟨.go [],by simp[Ci,Er,Bw],by simp[BO,EV,NX]⟩
 | e::S,F+1,hF,hb,hl=>by
  obtain⟨h1,h2⟩:=hb e (by simp);simp only[AfJ] at hF hl;have hx:S.reverse.length=S.length:=by simp
  generalize hxs:S.reverse=xs at hx;have hr:(e::S).reverse=xs++[e]:=by simp[hxs]
  rw[hr];have hb1:Er (xs++[e])=bif decide (1<e.fLeft) then some (.out (.ret (xs++[⟨e.fPairs,e.fLeft-1,e.fPairs,e.fLast,e.fStarted⟩]))) else some (.next xs):=by
   unfold Er;rw[AZ (by simp)];simp only[M8,OA,Mn,Ma];rw[Ba (by omega) (by omega),Bm (by omega) (by simp;omega),Ba (by omega) (by omega)]
   cases hd:decide (1<e.fLeft) with
   | true=>
    rw[AZ (by simp at hd ⊢;omega)];rfl
   | false=>
    rw[AN (by simp at hd ⊢;omega),Ba (by omega) (by omega),C7 (by omega) (by simp;omega),Xb];rfl
  rw[Ci,hb1]
  cases hd:decide (1<e.fLeft) with
  | true=>exact⟨_,rfl,by simp[BO,EV,NX,hd,hxs]⟩
  | false=>
   obtain⟨o,ho1,ho2⟩:=ND S F (by omega) (λe he=>hb e (by simp[he])) (by omega);rw[hxs] at ho1;exact⟨o,ho1,by rw[ho2];simp[NX,hd]⟩
theorem OV {S:List AI}{F:Nat}(hF:S.length<F)(hb:∀e∈S,1≤e.fLeft∧e.fLeft≤9223372036854775807)(hl:S.length≤4611686018427387904):Mj F S.reverse=some (NX S).reverse:=by
 obtain⟨o,h1,h2⟩:=ND S F hF hb hl;unfold Mj;rw[Bs h1,h2]
def Nb (s:Ai):Int:=s.length+2+s.count 34+s.count 92
theorem OR {s:Ai}(hs:s.length≤1152921504606846976):KO s=some (Nb s):=by
 have h1:s.count 34≤s.length:=List.count_le_length;have h2:s.count 92≤s.length:=List.count_le_length;unfold KO Lib.countByte;rw[Ba (by omega) (by omega),Ba (by omega) (by omega),Ba (by omega) (by omega)];rfl
def szc (c:Ab):Int:=
 bif decide (c.fKind=1) then 4 else bif decide (c.fKind=2) then IntKind.wrap .i64 (5-c.fInt) else bif decide (c.fKind=3) then((Lib.itoa c.fInt).length:Int) else
 bif decide (c.fKind=4) then Nb c.fStr else IntKind.wrap .i64 (2+max 0 (IntKind.wrap .i64 (c.fN-1)))
theorem SW {c:Ab}(hs:c.fStr.length≤1152921504606846976)(hi:Cb .i64 c.fInt=true):SX c=some (szc c):=by
 unfold SX szc;rw[OR hs];refine EM rfl (EM rfl (EM ?_ (EM rfl rfl)));rw[Cq hi]
def JU (d:Nat)(sh:AT)(c:Ab):AT:=
 ⟨max sh.fDepth ((d:Int)+1),IntKind.wrap .i64 (sh.fBytes+szc c),sh.fOutside||(decide (c.fKind=3)&&!(decide ((-1000000000000)≤c.fInt)&&decide (c.fInt≤1000000000000))),sh.fLong||decide (200<(c.fStr.length:Int))⟩
def shk (sh:AT)(c:Ab):AT:=⟨sh.fDepth,IntKind.wrap .i64 (sh.fBytes+(Nb c.fStr+1)),sh.fOutside,sh.fLong||decide (200<(c.fStr.length:Int))⟩
def Nt:List AI→Bool
 | []=>false
 | e::_=>e.fKey
abbrev SI:=List AI×Int×AT
abbrev LkO:=Out (Int×AT×Bool) AT
def U0 (n:Int)(S:List AI)(i:Int)(sh:AT)(c:Ab):Stp SI LkO:=
 bif !pl c then .out (.ret (0,sh,false)) else
 match S with
 | e::S'=>
  bif e.fKey then
   bif !decide (c.fKind=4)||(e.fStarted&&(Cz c.fStr e.fLast||decide (c.fStr=e.fLast))) then .out (.ret (0,sh,false))
   else .next ((⟨e.fPairs,e.fLeft,false,c.fStr,true⟩::S').reverse,i+1,shk sh c)
  else bif decide (0<c.fN) then
   bif decide (n<c.fN) then .out (.ret (0,JU S.length sh c,false))
   else .next ((⟨decide (c.fKind=6),c.fN,decide (c.fKind=6),[],false⟩::S).reverse,i+1,JU S.length sh c)
  else bif decide (NX S=[]) then .out (.ret (i+1,JU S.length sh c,true)) else .next ((NX S).reverse,i+1,JU S.length sh c)
 | []=>
  bif decide (0<c.fN) then
   bif decide (n<c.fN) then .out (.ret (0,JU 0 sh c,false))
   else .next ([⟨decide (c.fKind=6),c.fN,decide (c.fKind=6),[],false⟩],i+1,JU 0 sh c)
  else .out (.ret (i+1,JU 0 sh c,true))
theorem PR {S:List AI}:decide (((NX S).reverse.length:Int)=0)=decide (NX S=[]):=by
 rw[AfY];simp
theorem AeE {α:Type}{xs:List α}{e x:α}{M:Nat}(h:xs.length+1≤M)(hM2:(M+2)*48≤140737488355328):Dz 48 ((xs++[e]).length+([x]:List α).length)=true:=by
 refine AfI (Nat.le_trans (Nat.mul_le_mul_right 48 ?_) hM2);rw[AfK,Agq,Agq];omega
set_option maxHeartbeats 600000 in
theorem Tc {F:Nat}{v:List Ab}{S:List AI}{i:Int}{sh:AT}{c:Ab}(h0:0≤i)(hc:v[i.toNat]? =some c){M:Nat}(hM:M≤1152921504606846976)(hM2:(M+2)*48≤140737488355328)(hv:v.length≤M)(hS:S.length≤M)(hF:M<F)
  (hs:c.fStr.length≤M) (hi:Cb .i64 c.fInt=true) (hb:∀e∈S,1≤e.fLeft∧e.fLeft≤9223372036854775807):Ep F v S.reverse i sh=some (U0 v.length S i sh c):=by
 have hil:i.toNat<v.length:=(List.getElem?_eq_some_iff.1 hc).1;have hat:Aq v i=c:=by simp[Aq,hc]
 unfold Ep U0;rw[AZ (by simp;omega),Bm h0 (by omega),hat,WW (by omega) (by omega),Bs rfl]
 cases hp:pl c with
 | false=>rw[AZ (by simp)];rfl
 | true=>
  rw[AN (by simp)]
  cases S with
  | nil=>
   rw[Cq (by simp[imp]),Cq (by simp[imp]),AN (by simp),Ba (by simp) (by simp),SW (by omega) hi,Bs rfl,Cq (by simp[imp,Co])];simp only[Co,ov,Agm,AfR,AfH]
   cases hn:decide (0<c.fN) with
   | true=>
    rw[AZ rfl]
    cases hm:decide ((v.length:Int)<c.fN) with
    | true=>rw[AZ rfl];simp[JU]
    | false=>rw[AN rfl,Cq (by simp[Dz])];unfold EI;rw[Ba (by omega) (by omega)];simp[JU]
   | false=>
    rw[AN rfl,Bs (OV (S:=[]) (by simp;omega) (by simp) (by simp)),AZ (by simp[NX]),Ba (by omega) (by omega)];simp[JU]
  | cons e S'=>
   have hx:S'.reverse.length=S'.length:=by simp
   generalize hxs:S'.reverse=xs at hx;have hr:(e::S').reverse=xs++[e]:=by simp[hxs]
   simp only[AfJ] at hS;have hlen:((xs++[e]).length:Int)=(xs.length:Int)+1:=by simp
   rw[hr,Cq (by simp only[imp,M8];rw[Jj (by omega) (by omega)];simp),Cq (by simp only[imp,M8];rw[Qw (by omega) (by omega)];simp)];rw[M8,OA]
   cases hk:e.fKey with
   | true=>
    rw[AZ (by simp),Ba (by omega) (by omega),Bm (by omega) (by omega)];simp only[hk,AfR,AfH,AfL]
    cases ht : !decide (c.fKind=4)||(e.fStarted&&(Cz c.fStr e.fLast||decide (c.fStr=e.fLast))) with
    | true=>rw[AZ rfl];rfl
    | false=>
     rw[AN rfl,Mn,Ma,OA,Mn,Ma,OA,Mn,Ma,OR (by omega),Bs rfl,Ba (by unfold Nb;omega) (by unfold Nb;have:=@List.count_le_length UInt8 _ 34 c.fStr;have:=@List.count_le_length UInt8 _ 92 c.fStr;omega)];unfold EI;rw[Ba (by omega) (by omega)];simp[shk,hxs]
   | false=>
    rw[AN (by simp),hlen,Ba (by omega) (by omega),SW (by omega) hi,Bs rfl,Cq (by simp[imp,Co])];simp only[hk,Co,ov,Agm,AfR,AfH,AfL]
    cases hn:decide (0<c.fN) with
    | true=>
     rw[AZ rfl]
     cases hm:decide ((v.length:Int)<c.fN) with
     | true=>rw[AZ rfl];simp[JU,hx]
     | false=>rw[AN rfl,Cq (AeE (by omega) hM2)];unfold EI;rw[Ba (by omega) (by omega)];simp[JU,hx,hxs]
    | false=>
     have hcl:=OV (S:=e::S') (F:=F) (by simp;omega) hb (by simp;omega);rw[hr] at hcl;rw[AN rfl,hcl,Bs rfl,PR]
     cases hq:decide (NX (e::S')=[]) with
     | true=>rw[AZ rfl,Ba (by omega) (by omega)];simp[JU,hx]
     | false=>rw[AN rfl];unfold EI;rw[Ba (by omega) (by omega)];simp[JU,hx]
section
variable {S O : Type} {body : S → Option (Stp S O)} {s t u : S} {o : O}
def EO (body:S→Option (Stp S O))(s t:S):Prop:=∃k,∀n,Ci body (n+k) s=Ci body n t
def Fin (body:S→Option (Stp S O))(s:S)(o:O):Prop:=∃k,∀n,Ci body (n+k) s=some o
theorem EO.refl (s:S):EO body s s:=⟨0,λ_=>rfl⟩
theorem EO.trans (h:EO body s t)(h':EO body t u):EO body s u:=by
 obtain⟨k,hk⟩:=h;obtain⟨j,hj⟩:=h';exact⟨j+k,λn=>by rw[← Nat.add_assoc,hk,hj]⟩
theorem EO.step (h:body s=some (.next t)):EO body s t:=⟨1,λn=>by rw[Ci,h]⟩
theorem Fin.step (h:body s=some (.out o)):Fin body s o:=⟨1,λn=>by rw[Ci,h]⟩
theorem EO.fin (h:EO body s t)(h':Fin body t o):Fin body s o:=by
 obtain⟨k,hk⟩:=h;obtain⟨j,hj⟩:=h';exact⟨j+k,λn=>by rw[← Nat.add_assoc,hk,hj]⟩
end
inductive Fo where
 | nil
 | cell (k:Option Ai) (c:Ab) (r:Fo)
 | node (k:Option Ai) (c:Ab) (kids r:Fo)
def BP:Option Ai→List Ab
 | none=>[]
 | some s=>[⟨4,0,s,0⟩]
def Fo.flat:Fo→List Ab
 | .nil=>[]
 | .cell k c r=>BP k++c::r.flat
 | .node k c kids r=>BP k++c::(kids.flat++r.flat)
def Fo.cnt:Fo→Nat
 | .nil=>0
 | .cell _ _ r=>r.cnt+1
 | .node _ _ _ r=>r.cnt+1
def BG (m:Bool)(last:Option Ai):Option Ai→Bool
 | none=>!m
 | some s=>m&&s.all Lp&&(match last with
  | none=>true
  | some p=>!(Cz s p||decide (s=p)))
def Fo.wf:Bool→Option Ai→Fo→Bool
 | _,_,.nil=>true
 | m,last,.cell k c r=>BG m last k&&pl c&&!decide (0<c.fN)&&r.wf m k
 | m,last,.node k c kids r=>BG m last k&&pl c&&decide (0<c.fN)&&decide (c.fN=kids.cnt)&&kids.wf (decide (c.fKind=6)) none&&r.wf m k
def NH (k:Option Ai)(sh:AT):AT:=match k with
 | none=>sh
 | some s=>shk sh ⟨4,0,s,0⟩
def Fo.sh (d:Nat):AT→Fo→AT
 | s,.nil=>s
 | s,.cell k c r=>r.sh d (JU d (NH k s) c)
 | s,.node k c kids r=>r.sh d (kids.sh (d+1) (JU d (NH k s) c))
def IM (body:SI→Option (Stp SI LkO))(s:SI)(S:List AI)(i:Int)(sh:AT):Prop:=
 if NX S=[] then Fin body s (.ret (i,sh,true)) else EO body s ((NX S).reverse,i,sh)
theorem IM.of {body:SI→Option (Stp SI LkO)}{s t:SI}{S:List AI}{i:Int}{sh:AT}(h:EO body s t)(h':IM body t S i sh):IM body s S i sh:=by
 unfold IM at *
 split
 ·rename_i e;rw[Ag9 e] at h';exact h.fin h'
 ·rename_i e;rw[Agt e] at h';exact h.trans h'
theorem IM.pop {body:SI→Option (Stp SI LkO)}{s:SI}{e:AI}{S:List AI}{i:Int}{sh:AT}(h:IM body s (e::S) i sh)(h1:e.fLeft=1):IM body s S i sh:=by
 have:NX (e::S)=NX S:=by simp[NX,h1]
 unfold IM at *;rw[this] at h;exact h
theorem IM.more {body:SI→Option (Stp SI LkO)}{s:SI}{e:AI}{S:List AI}{i:Int}{sh:AT}(h:IM body s (e::S) i sh)(h1:1<e.fLeft):EO body s ((⟨e.fPairs,e.fLeft-1,e.fPairs,e.fLast,e.fStarted⟩::S).reverse,i,sh):=by
 have:NX (e::S)=⟨e.fPairs,e.fLeft-1,e.fPairs,e.fLast,e.fStarted⟩::S:=by simp[NX,h1]
 unfold IM at *;rw[this,Agt (by simp)] at h;exact h
structure WA (F M:Nat) (v:List Ab):Prop where
 hM:M≤1152921504606846976
 hM2:(M+2)*48≤140737488355328
 hv:v.length≤M
 hF:M<F
 hc:∀c∈v,c.fStr.length≤M∧Cb .i64 c.fInt=true∧c.fN≤9223372036854775807
abbrev TI (F:Nat)(v:List Ab):SI→Option (Stp SI LkO):=λσ=>Ep F v σ.1 σ.2.1 σ.2.2
def E1 (S:List AI):Prop:=∀e∈S,1≤e.fLeft∧e.fLeft≤9223372036854775807
section
variable {F M : Nat} {v : List Ab} {S : List AI} {i : Int} {sh : AT} {c : Ab} {r : List Ab} {e : AI}
theorem G7 (h0:0≤i)(h:v.drop i.toNat=c::r):v[i.toNat]? =some c∧v.drop (i+1).toNat=r∧i<v.length:=by
 have h1:(v.drop i.toNat)[0]? =some c:=by rw[h];rfl
 have h2:v[i.toNat]? =some c:=by simpa using h1
 have h3:=(List.getElem?_eq_some_iff.1 h2).1;refine⟨h2,?_,by omega⟩;rw[show(i+1).toNat=i.toNat+1 from by omega,← List.drop_drop,h];rfl
theorem round (hA:WA F M v)(h0:0≤i)(h:v.drop i.toNat=c::r)(hS:(S.length:Int)≤i)(hb:E1 S):TI F v (S.reverse,i,sh)=some (U0 v.length S i sh c):=by
 obtain⟨h1,_,h3⟩:=G7 h0 h;obtain⟨a,b,_⟩:=hA.hc c (AfU h1);have:=hA.hv;exact Tc h0 h1 hA.hM hA.hM2 hA.hv (by omega) hA.hF a b hb
def Hx (e:AI):Option Ai→AI
 | none=>e
 | some s=>⟨e.fPairs,e.fLeft,false,s,true⟩
def K1 (e:AI):Option Ai→Prop
 | none=>e.fStarted=false
 | some p=>e.fStarted=true∧e.fLast=p
theorem P5 (hA:WA F M v)(h0:0≤i){k last:Option Ai}(h:v.drop i.toNat=BP k++r)(hS:(S.length:Int)+1≤i)(hb:E1 (e::S))(hk:BG e.fKey last k=true)(hl:K1 e last) :
  EO (TI F v) ((e::S).reverse,i,sh) ((Hx e k::S).reverse,i+(BP k).length,NH k sh):=by
 cases k with
 | none=>simpa[Hx,BP,NH] using EO.refl _
 | some s=>
  simp only[BG,AfM] at hk;obtain⟨⟨hm,hok⟩,hcmp⟩:=hk;refine EO.step ?_;rw[round hA h0 (by simpa[BP] using h) (by simpa using hS) hb];have hp:pl ⟨4,0,s,0⟩=true:=by simp[pl,hok]
  have ht:(e.fStarted&&(Cz s e.fLast||decide (s=e.fLast)))=false:=by
   cases last with
   | none=>simp only[K1] at hl;rw[hl];rfl
   | some p=>obtain⟨h1,h2⟩:=hl;rw[h1,h2];simpa using hcmp
  simp only[U0,hp,hm,ht,AfR,AfH,AfL,decide_true,Agi,Bool.or_self];rfl
theorem Ns {k last:Option Ai}(hk:BG e.fKey last k=true):(Hx e k).fKey=false:=by
 cases k with
 | none=>simpa[Hx,BG] using hk
 | some s=>rfl
theorem LO (k:Option Ai):(Hx e k).fLeft=e.fLeft∧(Hx e k).fPairs=e.fPairs:=by cases k<;>exact⟨rfl,rfl⟩
theorem No (hA:WA F M v)(h0:0≤i)(h:v.drop i.toNat=c::r)(hS:(S.length:Int)≤i)(hb:E1 S)(hk:Nt S=false)(hp:pl c=true)(hn:decide (0<c.fN)=false) :
  IM (TI F v) (S.reverse,i,sh) S (i+1) (JU S.length sh c):=by
 have hr:=round (sh:=sh) hA h0 h hS hb;unfold IM
 cases S with
 | nil=>
  rw[Ag9 (by simp[NX])];refine Fin.step ?_;rw[hr];simp[U0,hp,hn]
 | cons e S=>
  simp only[Nt] at hk
  split
  ·rename_i hc
   refine Fin.step ?_;rw[hr];simp[U0,hp,hn,hk,hc]
  ·rename_i hc
   refine EO.step ?_;rw[hr];simp[U0,hp,hn,hk,hc]
theorem KY (hA:WA F M v)(h0:0≤i)(h:v.drop i.toNat=c::r)(hS:(S.length:Int)≤i)(hb:E1 S)(hk:Nt S=false)(hp:pl c=true)(hn:decide (0<c.fN)=true)(hv:c.fN≤v.length) :
  EO (TI F v) (S.reverse,i,sh) ((⟨decide (c.fKind=6),c.fN,decide (c.fKind=6),[],false⟩::S).reverse,i+1,JU S.length sh c):=by
 have hr:=round (sh:=sh) hA h0 h hS hb;have hv':decide ((v.length:Int)<c.fN)=false:=by simpa using hv
 refine EO.step ?_;rw[hr]
 cases S with
 | nil=>simp only[U0,hp,hn,hv',AfR,AfH,AfL];rfl
 | cons e S=>
  simp only[Nt] at hk;simp only[U0,hp,hn,hv',hk,AfR,AfH,AfL]
theorem Dx:∀f:Fo,f.cnt≤f.flat.length
 | .nil=>AfZ _
 | .cell k c r=>by have:=Dx r;simp[Fo.cnt,Fo.flat];omega
 | .node k c kids r=>by have:=Dx r;simp[Fo.cnt,Fo.flat];omega
theorem Ed {α:Type}{v xs r:List α}{i:Int}(h0:0≤i)(h:v.drop i.toNat=xs++r):v.drop (i+xs.length).toNat=r:=by
 rw[show(i+(xs.length:Int)).toNat=i.toNat+xs.length from by omega,← List.drop_drop,h,List.drop_left]
theorem To (hA:WA F M v){e':AI}{s:SI}{k:Option Ai}{r':Fo}
  (ih:∀(e:AI) (S:List AI) (i:Int) (sh:AT) (last:Option Ai) (r:List Ab),1≤r'.cnt→r'.wf e.fPairs last=true→e.fKey=e.fPairs→e.fLeft=r'.cnt→K1 e last→(e.fPairs=false→last=none)→v.drop i.toNat=r'.flat++r→0≤i→(S.length:Int)+1≤i→E1 S→
   IM (TI F v) ((e::S).reverse,i,sh) S (i+r'.flat.length) (r'.sh (S.length+1) sh))
  (hd:IM (TI F v) s (e'::S) i sh) (hl:e'.fLeft=r'.cnt+1) (hw:r'.wf e'.fPairs k=true) (hk:K1 e' k) (hm:e'.fPairs=false→k=none) (hv:v.drop i.toNat=r'.flat++r) (h0:0≤i) (hS:(S.length:Int)+1≤i) (hb:E1 S) :
  IM (TI F v) s S (i+r'.flat.length) (r'.sh (S.length+1) sh):=by
 by_cases h1:r'.cnt=0
 ·cases r' with
  | nil=>simpa[Fo.flat,Fo.sh] using hd.pop (by rw[hl];rfl)
  | cell _ _ _=>simp[Fo.cnt] at h1
  | node _ _ _ _=>simp[Fo.cnt] at h1
 ·have:=hd.more (by omega);refine IM.of this (ih _ S i sh k r (by omega) hw rfl (by simp only;omega) ?_ hm hv h0 hS hb)
  cases k with
  | none=>exact hk
  | some p=>exact hk
theorem LP {k last:Option Ai}(hl:K1 e last)(hm:e.fPairs=false→last=none)(hk:BG e.fPairs last k=true):K1 (Hx e k) k∧((Hx e k).fPairs=false→k=none):=by
 cases k with
 | none=>
  have:e.fPairs=false:=by simpa[BG] using hk
  rw[hm this] at hl;exact⟨hl,λ_=>rfl⟩
 | some s=>
  refine⟨⟨rfl,rfl⟩,λh=>?_⟩;have h:e.fPairs=false:=h;simp[BG,h] at hk
theorem NV (hA:WA F M v):∀(f:Fo) (e:AI) (S:List AI) (i:Int) (sh:AT) (last:Option Ai) (r:List Ab),1≤f.cnt→f.wf e.fPairs last=true→e.fKey=e.fPairs→e.fLeft=f.cnt→K1 e last→(e.fPairs=false→last=none)→v.drop i.toNat=f.flat++r→0≤i→(S.length:Int)+1≤i→E1 S→
   IM (TI F v) ((e::S).reverse,i,sh) S (i+f.flat.length) (f.sh (S.length+1) sh):=by
 have hmax:∀(i:Int) (xs:List Ab),0≤i→v.drop i.toNat=xs→xs.length≤v.length:=λi xs _ h=>by rw[← h,Agy];omega
 intro f
 induction f with
 | nil=>intro e S i sh last r h1;simp[Fo.cnt] at h1
 | cell k c r' ih=>
  intro e S i sh last r h1 hw hk hl hlo hm hv h0 hS hb;simp only[Fo.wf,AfM,Agd] at hw;obtain⟨⟨⟨w1,w2⟩,w3⟩,w4⟩:=hw;simp only[Fo.flat,Agk,Ag2] at hv;have hcnt:=hmax i _ h0 hv;have hcf:=Dx r';simp only[AfK,AfJ] at hcnt;have hvM:=hA.hv;have hMM:=hA.hM;simp only[Fo.cnt] at hl;have hb':E1 (e::S):=λx hx=>by
   rcases List.mem_cons.1 hx with rfl | hx
   ·constructor<;>omega
   ·exact hb x hx
  have hkr:=P5 (sh:=sh) hA h0 hv hS hb' (by rw[hk];exact w1) hlo;have hv1:=Ed h0 hv;obtain⟨kl,kp⟩:=LO (e:=e) k;have hbk:E1 (Hx e k::S):=λx hx=>by
   rcases List.mem_cons.1 hx with rfl | hx
   ·rw[kl];exact hb' e (by simp)
   ·exact hb x hx
  have hd:=No (sh:=NH k sh) hA (by omega) hv1 (by simp only[AfJ];omega) hbk (Ns (by rw[hk];exact w1)) w2 w3;obtain⟨q1,q2⟩:=LP hlo hm w1;have hv2:=(G7 (by omega) hv1).2.1;have:=To hA ih (hd.of hkr) (by rw[kl,hl];rfl) (by rw[kp];exact w4) q1 q2 hv2 (by omega) (by omega) hb;simp only[Fo.flat,Fo.sh,AfK,AfJ];rw[show i+((((BP k).length+(r'.flat.length+1):Nat)):Int)=i+(BP k).length+1+r'.flat.length from by omega];exact this
 | node k c kids r' ihk ih=>
  intro e S i sh last r h1 hw hk hl hlo hm hv h0 hS hb;simp only[Fo.wf,AfM,AfF] at hw;obtain⟨⟨⟨⟨⟨w1,w2⟩,w3⟩,w5⟩,w6⟩,w4⟩:=hw;simp only[Fo.flat,Agk,Ag2] at hv;have hcnt:=hmax i _ h0 hv;have hcf:=Dx r';have hck:=Dx kids;simp only[AfK,AfJ] at hcnt;have hvM:=hA.hv;have hMM:=hA.hM;simp only[Fo.cnt] at hl;have hb':E1 (e::S):=λx hx=>by
   rcases List.mem_cons.1 hx with rfl | hx
   ·constructor<;>omega
   ·exact hb x hx
  have hkr:=P5 (sh:=sh) hA h0 hv hS hb' (by rw[hk];exact w1) hlo;have hv1:=Ed h0 hv;obtain⟨kl,kp⟩:=LO (e:=e) k;have hbk:E1 (Hx e k::S):=λx hx=>by
   rcases List.mem_cons.1 hx with rfl | hx
   ·rw[kl];exact hb' e (by simp)
   ·exact hb x hx
  have hn:=KY (sh:=NH k sh) hA (by omega) hv1 (by simp only[AfJ];omega) hbk (Ns (by rw[hk];exact w1)) w2 (by simpa using w3) (by omega);have hv2:=(G7 (by omega) hv1).2.1;have hd:=ihk ⟨decide (c.fKind=6),c.fN,decide (c.fKind=6),[],false⟩ (Hx e k::S) (i+(BP k).length+1) (JU (S.length+1) (NH k sh) c) none _ (by omega) w6 rfl w5 rfl (λ_=>rfl) hv2 (by omega) (by simp only[AfJ];omega) hbk;obtain⟨q1,q2⟩:=LP hlo hm w1;have hv3:=Ed (by omega) hv2;have:=To hA ih ((hd.of hn).of hkr) (by rw[kl,hl];rfl) (by rw[kp];exact w4) q1 q2 hv3 (by omega) (by omega) hb;simp only[Fo.flat,Fo.sh,AfK,AfJ];rw[show i+((((BP k).length+(kids.flat.length+r'.flat.length+1):Nat)):Int)=i+(BP k).length+1+kids.flat.length+r'.flat.length from by omega];exact this
end
theorem TF {S O:Type}{body:S→Option (Stp S O)}{o:O}:∀{n:Nat} {s:S} (k:Nat),Ci body n s=some o→Ci body (n+k) s=some o
 | 0,s,k,h=>by cases h
 | n+1,s,k,h=>by
  rw[show n+1+k=n+k+1 from by omega,Ci];rw[Ci] at h
  cases hb:body s with
  | none=>rw[hb] at h;cases h
  | some t=>
   rw[hb] at h
   cases t with
   | next s'=>exact TF k h
   | out o'=>exact h
theorem Fin.eq {S O:Type}{body:S→Option (Stp S O)}{s:S}{o o':O}{n:Nat}(h:Fin body s o)(h':Ci body n s=some o'):o'=o:=by
 obtain⟨k,hk⟩:=h;have:=TF k h';rw[hk n] at this;exact(A7 this).symm
theorem R9:∀{S:List AI},E1 S→E1 (NX S)∧(NX S).length≤S.length
 | [],h=>⟨h,AfZ _⟩
 | e::S,h=>by
  have hS:E1 S:=λx hx=>h x (by simp[hx]);have he:=h e (by simp);unfold NX
  cases hd:decide (1<e.fLeft) with
  | true=>
   simp only[AfF] at hd;refine⟨λx hx=>?_,by simp⟩;rcases List.mem_cons.1 hx with rfl | hx
   ·simp only;omega
   ·exact hS x hx
  | false=>
   obtain⟨h1,h2⟩:=R9 hS;exact⟨h1,by simp only[AfH,AfJ];omega⟩
theorem Aaq {n:Int}{S:List AI}{i:Int}{sh:AT}{c:Ab}{σ:SI}(hb:E1 S)(hS:(S.length:Int)≤i)(hN:c.fN≤9223372036854775807)(h:U0 n S i sh c = .next σ):∃S' sh',σ=(S'.reverse,i+1,sh')∧E1 S'∧(S'.length:Int)≤i+1:=by
 unfold U0 at h
 cases hp:pl c with
 | false=>simp[hp] at h
 | true=>
  simp only[hp,AfR,AfH] at h
  cases S with
  | nil=>
   simp only at h
   cases hn:decide (0<c.fN) with
   | false=>simp[hn] at h
   | true=>
    simp only[hn,AfL] at h
    cases hm:decide (n<c.fN) with
    | true=>simp[hm] at h
    | false=>
     simp only[hm,AfH,Stp.next.injEq] at h;refine⟨[_],_,h.symm,λx hx=>?_,by simp at hS ⊢;omega⟩;simp only[Aga] at hx;subst hx;simp only[AfF] at hn;exact⟨by simp only;omega,hN⟩
  | cons e S=>
   have he:=hb e (by simp);have hbS:E1 S:=λx hx=>hb x (by simp[hx]);simp only[AfJ] at hS
   cases hk:e.fKey with
   | true=>
    simp only[hk,AfL] at h
    cases hq:(!decide (c.fKind=4)||(e.fStarted&&(Cz c.fStr e.fLast||decide (c.fStr=e.fLast)))) with
    | true=>rw[hq] at h;simp at h
    | false=>
     rw[hq] at h;simp only[AfH,Stp.next.injEq] at h;refine⟨_::S,_,h.symm,λx hx=>?_,by simp only[AfJ];omega⟩;rcases List.mem_cons.1 hx with rfl | hx
     ·exact he
     ·exact hbS x hx
   | false=>
    simp only[hk,AfH] at h
    cases hn:decide (0<c.fN) with
    | true=>
     simp only[hn,AfL] at h
     cases hm:decide (n<c.fN) with
     | true=>simp[hm] at h
     | false=>
      simp only[hm,AfH,Stp.next.injEq] at h;refine⟨_::e::S,_,h.symm,λx hx=>?_,by simp only[AfJ];omega⟩;rcases List.mem_cons.1 hx with rfl | hx
      ·simp only[AfF] at hn;exact⟨by simp only;omega,hN⟩
      ·exact hb x hx
    | false=>
     simp only[hn,AfH] at h
     cases hq:decide (NX (e::S)=[]) with
     | true=>rw[hq] at h;simp at h
     | false=>
      rw[hq] at h;simp only[AfH,Stp.next.injEq] at h;obtain⟨h1,h2⟩:=R9 hb;simp only[AfJ] at h2;exact⟨_,_,h.symm,h1,by omega⟩
theorem P0 {F M:Nat}{v:List Ab}(hA:WA F M v):∃o,Ci (TI F v) F (([]:List AI),0,(⟨0,0,false,false⟩:AT))=some o∧True:=by
 refine O3 (λσ=>∃S i sh,σ=(S.reverse,i,sh)∧E1 S∧(S.length:Int)≤i∧0≤i∧i≤v.length) (λσ=>v.length-σ.2.1.toNat) (λ_=>True) (λσ hI=>?_) F _ ⟨[],0,_,rfl,(λx hx=>by cases hx),Agp _,Agp _,by omega⟩ (by have:=hA.hv;have:=hA.hF;simp;omega);obtain⟨S,i,sh,rfl,hb,hS,h0,hi⟩:=hI
 by_cases hx:i<v.length
 ·obtain⟨c,hc⟩:∃c,v[i.toNat]? =some c:=⟨v[i.toNat]'(by omega),AfN (by omega)⟩
  have hdr:v.drop i.toNat=c::v.drop (i.toNat+1):=by rw[List.drop_eq_getElem_cons (by omega)];congr 1;exact(List.getElem?_eq_some_iff.1 hc).2
  have hr:=round (sh:=sh) hA h0 hdr hS hb
  cases hl:U0 v.length S i sh c with
  | next τ=>
   obtain⟨S',sh',rfl,h1,h2⟩:=Aaq hb hS (hA.hc c (AfU hc)).2.2 hl;exact .inl ⟨_,by rw[hr,hl],⟨S',i+1,sh',rfl,h1,h2,by omega,by omega⟩,by simp only;omega⟩
  | out o=>exact .inr ⟨o,by rw[hr,hl],trivial⟩
 ·refine .inr ⟨.go sh,?_,trivial⟩;show Ep F v S.reverse i sh=_;unfold Ep;rw[AN (by simpa using hx)]
def Fo.one:Fo→Bool
 | .cell none _ .nil=>true
 | .node none _ _ .nil=>true
 | _=>false
def Pb:AT:=⟨0,0,false,false⟩
theorem Aam {F M:Nat}{v:List Ab}(hA:WA F M v){f:Fo}(h1:f.one=true)(hw:f.wf false none=true){r:List Ab}(hv:v=f.flat++r):Fin (TI F v) ([],0,Pb) (.ret (f.flat.length,f.sh 0 Pb,true)):=by
 have h0:v.drop (0:Int).toNat=f.flat++r:=by rw[hv];rfl
 have hlen:f.flat.length≤v.length:=by rw[hv];simp
 cases f with
 | nil=>cases h1
 | cell k c r'=>
  cases k with
  | some s=>cases h1
  | none=>
   cases r' with
   | nil=>
    simp only[Fo.wf,AfM,Agd] at hw;have:=No (S:=[]) (sh:=Pb) hA (Agp 0) h0 (by simp) (λx hx=>by cases hx) rfl hw.1.1.2 hw.1.2;unfold IM at this;rw[Ag9 (show NX []=[] from rfl)] at this;simpa[Fo.flat,Fo.sh,BP,NH] using this
   | cell _ _ _=>cases h1
   | node _ _ _ _=>cases h1
 | node k c kids r'=>
  cases k with
  | some s=>cases h1
  | none=>
   cases r' with
   | nil=>
    simp only[Fo.wf,AfM,AfF] at hw;obtain⟨⟨⟨⟨⟨w1,w2⟩,w3⟩,w5⟩,w6⟩,w4⟩:=hw;have hck:=Dx kids;simp only[Fo.flat,BP,Agz,Ag4,AfJ] at hlen;have hvM:=hA.hv;have hMM:=hA.hM;have hn:=KY (S:=[]) (sh:=Pb) hA (Agp 0) h0 (by simp) (λx hx=>by cases hx) rfl w2 (by simpa using w3) (by omega);have hv2:=(G7 (Agp 0) h0).2.1;have hd:=NV hA kids ⟨decide (c.fKind=6),c.fN,decide (c.fKind=6),[],false⟩ [] (0+1) (JU 0 Pb c) none r (by omega) w6 rfl w5 rfl (λ_=>rfl) (by rw[hv2];simp[Fo.flat]) (by omega) (by simp) (λx hx=>by cases hx);unfold IM at hd;rw[Ag9 (show NX []=[] from rfl)] at hd;have:=hn.fin hd;have e:((0:Int)+1+kids.flat.length)=((Fo.node none c kids .nil).flat.length:Int):=by simp[Fo.flat,BP];omega
    rw[e] at this;exact this
   | cell _ _ _=>cases h1
   | node _ _ _ _=>cases h1
theorem TH {F M:Nat}{v:List Ab}(hA:WA F M v){f:Fo}(h1:f.one=true)(hw:f.wf false none=true){r:List Ab}(hv:v=f.flat++r):JM F v=some ((f.flat.length:Int),f.sh 0 Pb,true):=by
 obtain⟨o,ho,_⟩:=P0 hA;have e:=(Aam hA h1 hw hv).eq ho;subst e;unfold JM;rw[Bs ho];rfl
def J0 (m:Bool)(last:Option Ai)(xs:List Ab):Option (Option Ai×List Ab):=
 bif m then match xs with
  | []=>none
  | c::r=>bif pl c&&decide (c.fKind=4)&&BG true last (some c.fStr) then some (some c.fStr,r) else none
 else some (none,xs)
def Js:Nat→Bool→Option Ai→Nat→List Ab→Option (Fo×List Ab)
 | 0,_,_,_,_=>none
 | _+1,_,_,0,xs=>some (.nil,xs)
 | F+1,m,last,k+1,xs=>
  match J0 m last xs with
  | none=>none
  | some (_,[])=>none
  | some (key,c::xs')=>
   bif !pl c then none else
   bif decide (0<c.fN) then
    match Js F (decide (c.fKind=6)) none c.fN.toNat xs' with
    | none=>none
    | some (kids,ys)=>match Js F m key k ys with
     | none=>none
     | some (r,zs)=>some (.node key c kids r,zs)
   else match Js F m key k xs' with
    | none=>none
    | some (r,zs)=>some (.cell key c r,zs)
theorem Sc {c:Ab}(hp:pl c=true)(hk:c.fKind=4):c=⟨4,0,c.fStr,0⟩∧c.fStr.all Lp=true:=by
 cases c
 simp only at hk;subst hk;simp[pl] at hp;obtain⟨h1,h2,h3⟩:=hp;subst h1;subst h2;exact⟨rfl,by simpa using h3⟩
theorem Ow {m:Bool}{last key:Option Ai}{xs r:List Ab}(h:J0 m last xs=some (key,r)):xs=BP key++r∧BG m last key=true:=by
 unfold J0 at h
 cases m with
 | false=>cases h;exact⟨rfl,rfl⟩
 | true=>
  simp only[AfL] at h
  cases xs with
  | nil=>cases h
  | cons c r'=>
   simp only at h
   cases hb:(pl c&&decide (c.fKind=4)&&BG true last (some c.fStr)) with
   | false=>rw[hb] at h;cases h
   | true=>
    rw[hb] at h;simp only[AfM,AfF] at hb
    cases h
    exact⟨by rw[(Sc hb.1.1 hb.1.2).1];rfl,hb.2⟩
theorem II:∀(F:Nat) (m:Bool) (last:Option Ai) (k:Nat) (xs:List Ab) (f:Fo) (ys:List Ab),Js F m last k xs=some (f,ys)→xs=f.flat++ys∧f.wf m last=true∧f.cnt=k
 | 0,_,_,_,_,_,_,h=>by cases h
 | F+1,m,last,0,xs,f,ys,h=>by cases h;exact⟨rfl,rfl,rfl⟩
 | F+1,m,last,k+1,xs,f,ys,h=>by
  rw[Js] at h
  cases hk:J0 m last xs with
  | none=>rw[hk] at h;cases h
  | some p=>
   obtain⟨key,r⟩:=p;obtain⟨h1,h2⟩:=Ow hk;rw[hk] at h
   cases r with
   | nil=>cases h
   | cons c xs'=>
    simp only at h
    cases hp:pl c with
    | false=>rw[hp] at h;cases h
    | true=>
     rw[hp] at h;simp only[AfR,AfH] at h
     cases hn:decide (0<c.fN) with
     | true=>
      rw[hn] at h;simp only[AfL] at h
      cases hq:Js F (decide (c.fKind=6)) none c.fN.toNat xs' with
      | none=>rw[hq] at h;cases h
      | some q=>
       obtain⟨kids,zs⟩:=q;rw[hq] at h;simp only at h
       cases hr:Js F m key k zs with
       | none=>rw[hr] at h;cases h
       | some q2=>
        obtain⟨r2,us⟩:=q2;rw[hr] at h;cases h;obtain⟨a1,a2,a3⟩:=II F _ _ _ _ _ _ hq;obtain⟨b1,b2,b3⟩:=II F _ _ _ _ _ _ hr;refine⟨by rw[h1,a1,b1];simp[Fo.flat],?_,by simp[Fo.cnt,b3]⟩;simp only[AfF] at hn;simp only[Fo.wf,h2,hp,a2,b2,Agg,AfT,AfM,AfF];omega
     | false=>
      rw[hn] at h;simp only[AfH] at h
      cases hr:Js F m key k xs' with
      | none=>rw[hr] at h;cases h
      | some q2=>
       obtain⟨r2,us⟩:=q2;rw[hr] at h;cases h;obtain⟨b1,b2,b3⟩:=II F _ _ _ _ _ _ hr;exact⟨by rw[h1,b1];simp[Fo.flat],by simp[Fo.wf,h2,hp,b2,hn],by simp[Fo.cnt,b3]⟩
theorem IZ:∀(F F':Nat) (m:Bool) (last:Option Ai) (k:Nat) (xs:List Ab),xs.length<F→xs.length<F'→Js F m last k xs=Js F' m last k xs
 | 0,_,_,_,_,_,h,_=>by omega
 | _+1,0,_,_,_,_,_,h=>by omega
 | F+1,F'+1,m,last,0,xs,_,_=>rfl
 | F+1,F'+1,m,last,k+1,xs,h,h'=>by
  rw[Js,Js]
  cases hk:J0 m last xs with
  | none=>rfl
  | some p=>
   obtain⟨key,r⟩:=p;obtain⟨h1,h2⟩:=Ow hk
   cases r with
   | nil=>rfl
   | cons c xs'=>
    have hl:xs'.length<xs.length:=by rw[h1];simp;omega
    simp only
    cases hp:pl c with
    | false=>rfl
    | true=>
     simp only[AfR,AfH]
     cases hn:decide (0<c.fN) with
     | true=>
      simp only[AfL];rw[IZ F F' _ _ _ xs' (by omega) (by omega)]
      cases hq:Js F' (decide (c.fKind=6)) none c.fN.toNat xs' with
      | none=>rfl
      | some q=>
       obtain⟨kids,zs⟩:=q;have:=(II _ _ _ _ _ _ _ hq).1;have hz:zs.length≤xs'.length:=by rw[this];simp
       simp only;rw[IZ F F' m key k zs (by omega) (by omega)]
     | false=>
      simp only[AfH];rw[IZ F F' m key k xs' (by omega) (by omega)]
def V1 {S:Type}(body:S→Option (Stp S LkO))(s:S):Prop:=∃sh',Fin body s (.ret (0,sh',false))∨Fin body s (.go sh')
theorem EO.bad {S:Type}{body:S→Option (Stp S LkO)}{s t:S}(h:EO body s t)(h':V1 body t):V1 body s:=by
 obtain⟨sh',h' | h'⟩:=h'
 ·exact⟨sh',.inl (h.fin h')⟩
 ·exact⟨sh',.inr (h.fin h')⟩
section
variable {F M : Nat} {v : List Ab}
theorem V1.end_ {S:List AI}{i:Int}{sh:AT}(h0:0≤i)(h:v.drop i.toNat=[]):V1 (TI F v) (S.reverse,i,sh):=by
 refine⟨sh,.inr (Fin.step ?_)⟩;show Ep F v S.reverse i sh=_;unfold Ep;rw[AN];have:v.length≤i.toNat:=by simpa using h
 simp;omega
theorem V1.pl_ (hA:WA F M v){S:List AI}{i:Int}{sh:AT}{c:Ab}{r:List Ab}(h0:0≤i)(h:v.drop i.toNat=c::r)(hS:(S.length:Int)≤i)(hb:E1 S)(hp:pl c=false):V1 (TI F v) (S.reverse,i,sh):=by
 refine⟨sh,.inl (Fin.step ?_)⟩;rw[round hA h0 h hS hb];simp[U0,hp]
theorem Vk (hA:WA F M v):∀(P:Nat) (k:Nat) (e:AI) (S:List AI) (i:Int) (sh:AT) (last:Option Ai) (xs:List Ab),xs.length<P→Js P e.fPairs last (k+1) xs=none→e.fKey=e.fPairs→e.fLeft=(k:Int)+1→(k:Int)+1≤9223372036854775807→K1 e last→(e.fPairs=false→last=none)→v.drop i.toNat=xs→0≤i→(S.length:Int)+1≤i→E1 S→
  V1 (TI F v) ((e::S).reverse,i,sh):=by
 intro P
 induction P with
 | zero=>intro k e S i sh last xs h;omega
 | succ P ih=>
  intro k e S i sh last xs hP hn hk hl hkm hlo hm hv h0 hS hb;have hb':E1 (e::S):=λx hx=>by
   rcases List.mem_cons.1 hx with rfl | hx
   ·constructor<;>omega
   ·exact hb x hx
  rw[Js] at hn
  cases hq:J0 e.fPairs last xs with
  | none=>
   unfold J0 at hq
   cases hpr:e.fPairs with
   | false=>rw[hpr] at hq;cases hq
   | true=>
    rw[hpr] at hq hk;simp only[AfL] at hq
    cases xs with
    | nil=>exact V1.end_ h0 hv
    | cons c r=>
     simp only at hq
     cases hp:pl c with
     | false=>exact V1.pl_ hA h0 hv (by simpa using hS) hb' hp
     | true=>
      refine⟨sh,.inl (Fin.step ?_)⟩;rw[round hA h0 hv (by simpa using hS) hb'];have ht:(!decide (c.fKind=4)||(e.fStarted&&(Cz c.fStr e.fLast||decide (c.fStr=e.fLast))))=true:=by
       rw[hp] at hq
       cases h4:decide (c.fKind=4) with
       | false=>rfl
       | true=>
        rw[h4] at hq;simp only[Bool.and_self,AfT] at hq;have hok:=(Sc hp (by simpa using h4)).2
        cases last with
        | none=>simp[BG,hok] at hq
        | some p=>
         obtain⟨q1,q2⟩:=hlo;rw[q1,q2]
         cases hc:(Cz c.fStr p||decide (c.fStr=p)) with
         | true=>rfl
         | false=>simp[BG,hok,hc] at hq
      simp only[U0,hp,hk,ht,AfR,AfH,AfL]
  | some q=>
   obtain⟨key,r⟩:=q;obtain⟨h1,h2⟩:=Ow hq;rw[hq] at hn;have hkr:=P5 (sh:=sh) hA h0 (by rw[hv];exact h1) hS hb' (by rw[hk];exact h2) hlo;have hv1:=Ed h0 (hv.trans h1);obtain⟨kl,kp⟩:=LO (e:=e) key;obtain⟨q1,q2⟩:=LP hlo hm h2;have hbk:E1 (Hx e key::S):=λx hx=>by
    rcases List.mem_cons.1 hx with rfl | hx
    ·rw[kl];exact hb' e (by simp)
    ·exact hb x hx
   refine hkr.bad ?_
   cases r with
   | nil=>exact V1.end_ (by omega) hv1
   | cons c xs'=>
    have hlen:xs'.length+1≤xs.length:=by rw[h1];simp
    have hvl:xs.length≤v.length:=by rw[← hv,Agy];omega
    have hvM:=hA.hv;have hMM:=hA.hM;have hkk:=Ns (e:=e) (last:=last) (k:=key) (by rw[hk];exact h2);simp only at hn;have hSk:(((Hx e key::S).length:Nat):Int)≤i+(BP key).length:=by simp only[AfJ];omega
    cases hp:pl c with
    | false=>exact V1.pl_ hA (by omega) hv1 hSk hbk hp
    | true=>
     rw[hp] at hn;simp only[AfR,AfH] at hn;obtain⟨g1,g2,g3⟩:=G7 (by omega) hv1;have hcN:=(hA.hc c (AfU g1)).2.2;have more:∀(s:SI) (j:Int) (sh':AT) (zs:List Ab),IM (TI F v) s (Hx e key::S) j sh'→v.drop j.toNat=zs→zs.length<P→0≤j→(S.length:Int)+1≤j→Js P e.fPairs key k zs=none→V1 (TI F v) s:=λs j sh' zs hd hz hzl hj hSj hnone=>by
      cases k with
      | zero=>
       cases P with
       | zero=>omega
       | succ P=>cases hnone
      | succ k=>
       have:=hd.more (by rw[kl];omega);refine this.bad (ih k _ S j sh' key zs hzl (by rw[kp];exact hnone) rfl (by simp only[kl];omega) (by omega) ?_ (by simpa using q2) hz hj hSj hb)
       cases key with
       | none=>exact q1
       | some p=>exact q1
     cases hN:decide (0<c.fN) with
     | true=>
      rw[hN] at hn;simp only[AfL] at hn;simp only[AfF] at hN
      by_cases hbig:c.fN≤v.length
      ·have hnd:=KY (sh:=NH key sh) hA (by omega) hv1 hSk hbk (by simpa[Nt] using hkk) hp (by simpa using hN) hbig;refine hnd.bad ?_
       cases hks:Js P (decide (c.fKind=6)) none c.fN.toNat xs' with
       | none=>
        obtain⟨n',hn'⟩:∃n',c.fN.toNat=n'+1:=⟨c.fN.toNat-1,by omega⟩
        rw[hn'] at hks;exact ih n' _ _ _ _ none xs' (by omega) hks rfl (by simp only;omega) (by omega) rfl (λ_=>rfl) g2 (by omega) (by simp only[AfJ];omega) hbk
       | some q=>
        obtain⟨kids,zs⟩:=q;rw[hks] at hn;simp only at hn;have hn2:Js P e.fPairs key k zs=none:=by
         cases hz:Js P e.fPairs key k zs with
         | none=>rfl
         | some q=>rw[hz] at hn;cases hn
        obtain⟨a1,a2,a3⟩:=II _ _ _ _ _ _ _ hks;have hd:=NV hA kids ⟨decide (c.fKind=6),c.fN,decide (c.fKind=6),[],false⟩ (Hx e key::S) (i+(BP key).length+1) (JU (S.length+1) (NH key sh) c) none zs (by omega) a2 rfl (by simp only;omega) rfl (λ_=>rfl) (by rw[g2];exact a1) (by omega) (by simp only[AfJ];omega) hbk;have hz:v.drop (i+(BP key).length+1+kids.flat.length).toNat=zs:=Ed (by omega) (g2.trans a1);have hzl:zs.length≤xs'.length:=by rw[a1];simp
        exact more _ _ _ zs hd hz (by omega) (by omega) (by omega) hn2
      ·refine⟨JU (Hx e key::S).length (NH key sh) c,.inl (Fin.step ?_)⟩;rw[round hA (by omega) hv1 hSk hbk];have hbig':decide ((v.length:Int)<c.fN)=true:=by simpa using hbig
       simp only[U0,hp,hkk,hbig',hN,AfR,AfH,AfL,decide_true]
     | false=>
      rw[hN] at hn;simp only[AfH] at hn;have hn2:Js P e.fPairs key k xs'=none:=by
       cases hz:Js P e.fPairs key k xs' with
       | none=>rfl
       | some q=>rw[hz] at hn;cases hn
      have hd:=No (sh:=NH key sh) hA (by omega) hv1 hSk hbk (by simpa[Nt] using hkk) hp hN;exact more _ _ _ xs' hd g2 (by omega) (by omega) (by omega) hn2
def J1 (xs:List Ab):Option (Fo×List Ab):=Js (xs.length+1) false none 1 xs
theorem VT {P:Nat}{xs ys:List Ab}{f:Fo}(h:Js P false none 1 xs=some (f,ys)):f.one=true:=by
 obtain⟨h1,h2,h3⟩:=II _ _ _ _ _ _ _ h
 cases f with
 | nil=>cases h3
 | cell k c r=>
  cases r with
  | nil=>
   cases k with
   | none=>rfl
   | some s=>simp[Fo.wf,BG] at h2
  | cell _ _ _=>simp[Fo.cnt] at h3
  | node _ _ _ _=>simp[Fo.cnt] at h3
 | node k c kids r=>
  cases r with
  | nil=>
   cases k with
   | none=>rfl
   | some s=>simp[Fo.wf,BG] at h2
  | cell _ _ _=>simp[Fo.cnt] at h3
  | node _ _ _ _=>simp[Fo.cnt] at h3
theorem XI (hA:WA F M v)(h:J1 v=none):V1 (TI F v) ([],0,Pb):=by
 have hlf:E1 []:=λx hx=>by cases hx
 unfold J1 at h;rw[Js] at h;simp only[J0,AfH] at h
 cases v with
 | nil=>exact V1.end_ (S:=[]) (Agp 0) rfl
 | cons c xs'=>
  have hv1:(c::xs').drop (0:Int).toNat=c::xs':=rfl;have hvM:=hA.hv;have hMM:=hA.hM;simp only at h
  cases hp:pl c with
  | false=>exact V1.pl_ (S:=[]) hA (Agp 0) hv1 (by simp) hlf hp
  | true=>
   rw[hp] at h;simp only[AfR,AfH] at h;have hcN:=(hA.hc c (by simp)).2.2
   cases hN:decide (0<c.fN) with
   | true=>
    rw[hN] at h;simp only[AfL] at h;simp only[AfF] at hN
    by_cases hbig:c.fN≤(c::xs').length
    ·have hnd:=KY (S:=[]) (sh:=Pb) hA (Agp 0) hv1 (by simp) hlf rfl hp (by simpa using hN) hbig;refine hnd.bad ?_
     cases hks:Js (c::xs').length (decide (c.fKind=6)) none c.fN.toNat xs' with
     | none=>
      obtain⟨n',hn'⟩:∃n',c.fN.toNat=n'+1:=⟨c.fN.toNat-1,by omega⟩
      rw[hn'] at hks;exact Vk hA (c::xs').length n' ⟨decide (c.fKind=6),c.fN,decide (c.fKind=6),[],false⟩ [] (0+1) _ none xs' (by simp) hks rfl (by simp only;omega) (by omega) rfl (λ_=>rfl) rfl (by omega) (by simp) hlf
     | some q=>rw[hks] at h;cases h
    ·refine⟨JU 0 Pb c,.inl (Fin.step ?_)⟩;rw[show TI F (c::xs') (([]:List AI),0,Pb)=_ from round (S:=[]) hA (Agp 0) hv1 (by simp) hlf];have hbig':decide (((c::xs').length:Int)<c.fN)=true:=by simpa using hbig
     simp only[U0,hp,hbig',hN,AfR,AfH,AfL,decide_true]
   | false=>rw[hN] at h;cases h
theorem Acl (hA:WA F M v):(∃f ys,J1 v=some (f,ys)∧JM F v=some ((f.flat.length:Int),f.sh 0 Pb,true))∨(J1 v=none∧∃sh',JM F v=some (0,sh',false)):=by
 cases h:J1 v with
 | some q=>
  obtain⟨f,ys⟩:=q;obtain⟨h1,h2,h3⟩:=II _ _ _ _ _ _ _ h;exact .inl ⟨f,ys,rfl,TH hA (VT h) h2 h1⟩
 | none=>
  refine .inr ⟨rfl,?_⟩;obtain⟨o,ho,_⟩:=P0 hA;obtain⟨sh',hb | hb⟩:=XI hA h
  ·have e:=hb.eq ho;subst e;exact⟨sh',by unfold JM;rw[Bs ho];rfl⟩
  ·have e:=hb.eq ho;subst e;exact⟨sh',by unfold JM;rw[Bs ho];rfl⟩
end
end Go.Proofs.YtfobhhegpkinaaaGreatDoor
