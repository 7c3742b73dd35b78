/-
  Texts of the proof, put together: PHa, QH, QY, Q7, QU, QT, QN, QM, QI, QW, QV, QJ, QX, QL, PI, QF, Q6, Q9, Qg, WHa, PHb, WHb, PHc, Qw.
-/
import Derived.Test.YtphnhpcjnmmhiaaGreatDoorHD2
import Derived.Laws.Cover3
import Derived.MapKept
import Derived.Maps.RangeRun
import Derived.ScopeJumps
import Derived.Laws.CopyRow
import Derived.Laws.IdiomCopy
import Derived.Laws.OwnMore
import Derived.Laws.IdiomStrings
namespace Go.Proofs.YtphnhpcjnmmhiaaGreatDoor
open Go
set_option linter.unusedVariables false
structure Ad where
 fAllow:Bool
 fActions:(List Ac)
 fResources:(List Ac)
 deriving DecidableEq,Inhabited
structure Ch where
 fAllowed:Bool
 fIndex:Int
 deriving DecidableEq,Inhabited
structure A1 where
 fAllow:Bool
 fAddr:Int
 fBits:Int
 fLow:Int
 fHigh:Int
 deriving DecidableEq,Inhabited
def J2 (s x:Ac):Option Bool:=
 AM (imp (decide ((x.length:Int)≤(s.length:Int))) (BT .i64 ((s.length:Int)-(x.length:Int))))<|AM (imp (decide ((x.length:Int)≤(s.length:Int))) (IG ((s.length:Int)-(x.length:Int)) (s.length:Int)))<|some ((decide ((x.length:Int)≤(s.length:Int)))&&(decide ((List.drop (Int.toNat ((s.length:Int)-(x.length:Int))) s)=x)))
def M4 (s x:Ac):Option Ac:=
 Ba (J2 s x) λr1=>Bj r1 (AM (BT .i64 ((s.length:Int)-(x.length:Int)))<|AM (IG ((s.length:Int)-(x.length:Int)) (s.length:Int))<|some (List.take (Int.toNat ((s.length:Int)-(x.length:Int))) s)) (some s)
def Sm (s x:Ac):Option Bool:=
 Ba (J2 s x) λr1=>some r1
def PJ (s x:Ac):Option Ac:=
 Ba (M4 s x) λr1=>some r1
def I7 (s:Ac):Option Ac:=
 Ba (PJ s ([42]:Ac)) λr1=>some r1
def Rb (s:Ac):Option Bool:=
 Ba (Sm s ([42]:Ac)) λr1=>some r1
def Oc (s:Ac):Option Bool:=
 AM (imp (!(Mf s)) (imp (!(decide (s=([42]:Ac)))) (I7 s).isSome))<|AM (imp (!(Mf s)) (imp (!(decide (s=([42]:Ac)))) (imp (Mf (ov (I7 s))) (Rb s).isSome)))<|some ((Mf s)||((decide (s=([42]:Ac)))||((Mf (ov (I7 s)))&&((ov (Rb s))&&(decide ((s.length:Int)≤64))))))
def Rc (q s:Ac):Option Bool:=
 Ba (Oc q) λr1=>Bj (!r1) (some false) (Ba (Rb q) λr7=>Bj r7 (Ba (I7 q) λhb=>Ba (GH s hb) λhd=>some hd) (some (decide (q=s))))
def AbT (s:Ac):Option Bool:=
 AM (BT .i64 ((s.length:Int)-1))<|AM (Cn ((s.length:Int)-1) (s.length:Int))<|some (decide ((C0 s ((s.length:Int)-1))=42))
def Ve (s q:Ac):Option Bool:=
 AM (imp (decide ((q.length:Int)≤(s.length:Int))) (IG (q.length:Int) (s.length:Int)))<|some ((decide ((q.length:Int)≤(s.length:Int)))&&(decide ((List.take (Int.toNat (q.length:Int)) s)=q)))
def H5 (s:Ac)(hb:Int):Option (Stp Int (Out Bool Unit)):=
 AM (BT .i64 ((s.length:Int)-1))<|Bj (decide (hb<((s.length:Int)-1))) (AM (Cn hb (s.length:Int))<|Ba (KS (C0 s hb)) λhd=>Bj (!hd) (some (.out (.ret false))) (AM (BT .i64 (hb+1))<|some (.next (hb+1)))) (some (.out (.go ())))
def Ki (s:Ac):Option Bool:=
 AM (BT .i64 ((s.length:Int)-1))<|AM (Cn ((s.length:Int)-1) (s.length:Int))<|AM (KS (C0 s ((s.length:Int)-1))).isSome<|some ((ov (KS (C0 s ((s.length:Int)-1))))||(decide ((C0 s ((s.length:Int)-1))=42)))
def K4 (F:Nat)(s:Ac):Option Bool:=
 Bj (((decide ((s.length:Int)<1))||(decide (64<(s.length:Int))))) (some false) (Ba (Cg (λσ=>H5 s σ) F 0) (Cm λν=>Ki s ))
def OQ (F:Nat)(q s:Ac):Option Bool:=
 Ba (K4 F q) λr1=>Bj (!r1) (some false) (Ba (AbT q) λr7=>Bj r7 (AM (BT .i64 ((q.length:Int)-1))<|AM (IG ((q.length:Int)-1) (q.length:Int))<|Ba (Ve s (List.take (Int.toNat ((q.length:Int)-1)) q)) λhb=>some hb) (some (decide (s=q))))
def Mj (l:(List Ac))(s:Ac)(hb:Int):Option (Stp Int (Out Bool Unit)):=
 Bj (decide (hb<(l.length:Int))) (AM (Cn hb (l.length:Int))<|Bj (decide ((Af l hb)=s)) (some (.out (.ret true))) (AM (BT .i64 (hb+1))<|some (.next (hb+1)))) (some (.out (.go ())))
def Oe :Option Bool:=
 some false
def Aas (F:Nat)(l:(List Ac))(s:Ac):Option Bool:=
 Ba (Cg (λσ=>Mj l s σ) F 0) (Cm λν=>Oe )
def K3 (a b:(List Ac))(hb:Int):Option (Stp Int (Out Bool Unit)):=
 Bj (decide (hb<(a.length:Int))) (AM (Cn hb (a.length:Int))<|AM (Cn hb (b.length:Int))<|Bj (!decide ((Af a hb)=(Af b hb))) (some (.out (.ret false))) (AM (BT .i64 (hb+1))<|some (.next (hb+1)))) (some (.out (.go ())))
def Mh :Option Bool:=
 some true
def L4 (F:Nat)(a b:(List Ac)):Option Bool:=
 Bj (!decide ((a.length:Int)=(b.length:Int))) (some false) (Ba (Cg (λσ=>K3 a b σ) F 0) (Cm λν=>Mh ))
def UF (x:Ac):Option Bool:=
 Ba (Oc x) λr1=>some (!r1)
def XS (x s:Ac):Option Bool:=
 Ba (Rc x s) λr1=>some r1
def Mb (ys:(List Ac))(hb:Int):Option (Stp Int (Out Int Unit)):=
 Bj (decide (hb<(ys.length:Int))) (AM (Cn hb (ys.length:Int))<|Ba (UF (Af ys hb)) λhd=>Bj hd (some (.out (.ret hb))) (AM (BT .i64 (hb+1))<|some (.next (hb+1)))) (some (.out (.go ())))
def Oa :Option Int:=
 some (-1)
def Ah8 (F:Nat)(ys:(List Ac)):Option Int:=
 Ba (Cg (λσ=>Mb ys σ) F 0) (Cm λν=>Oa )
def Vi (F:Nat)(ys:(List Ac)):Option Bool:=
 Ba (Ah8 F ys) λr1=>some (decide (0≤r1))
def Ky (ys:(List Ac))(s:Ac)(hb:Int):Option (Stp Int (Out Int Unit)):=
 Bj (decide (hb<(ys.length:Int))) (AM (Cn hb (ys.length:Int))<|Ba (XS (Af ys hb) s) λhd=>Bj hd (some (.out (.ret hb))) (AM (BT .i64 (hb+1))<|some (.next (hb+1)))) (some (.out (.go ())))
def LZ :Option Int:=
 some (-1)
def AbM (F:Nat)(ys:(List Ac))(s:Ac):Option Int:=
 Ba (Cg (λσ=>Ky ys s σ) F 0) (Cm λν=>LZ )
def TL (F:Nat)(ys:(List Ac))(s:Ac):Option Bool:=
 Ba (AbM F ys s) λr1=>some (decide (0≤r1))
def IZ (F:Nat)(s:Ad)(hb:Int):Option (Stp Int (Out Int Unit)):=
 Bj (decide (hb<(([s.fActions,s.fResources]:List (List Ac)).length:Int))) (AM (Cn hb (([s.fActions,s.fResources]:List (List Ac)).length:Int))<|Ba (Vi F (Af ([s.fActions,s.fResources]:List (List Ac)) hb)) λhd=>Bj hd (some (.out (.ret 4))) (AM (BT .i64 (hb+1))<|some (.next (hb+1)))) (some (.out (.go ())))
def KI :Option Int:=
 some 0
def Ja (s:Ad)(hb:Int):Option (Stp Int (Out Int Unit)):=
 Bj (decide (hb<(([s.fActions,s.fResources]:List (List Ac)).length:Int))) (AM (Cn hb (([s.fActions,s.fResources]:List (List Ac)).length:Int))<|Bj (((decide (((Af ([s.fActions,s.fResources]:List (List Ac)) hb).length:Int)<1))||(decide (8<((Af ([s.fActions,s.fResources]:List (List Ac)) hb).length:Int))))) (some (.out (.ret 3))) (AM (BT .i64 (hb+1))<|some (.next (hb+1)))) (some (.out (.go ())))
def MC (F:Nat)(s:Ad):Option Int:=
 Ba (Cg (λσ=>IZ F s σ) F 0) (Cm λν=>KI )
def HS (F:Nat)(s:Ad):Option Int:=
 Ba (Cg (λσ=>Ja s σ) F 0) (Cm λν=>MC F s )
def I3 (F:Nat)(l:(List Ac))(s:Ac):Option Bool:=
 Ba (TL F l s) λr2=>some r2
def QN (F:Nat)(x:Ad)(allow:Bool)(action resource:Ac):Option Bool:=
 AM (imp (x.fAllow ==allow) (HS F x).isSome)<|AM (imp (x.fAllow ==allow) (imp (decide ((ov (HS F x))=0)) (I3 F x.fActions action).isSome))<|AM (imp (x.fAllow ==allow) (imp (decide ((ov (HS F x))=0)) (imp ((ov (I3 F x.fActions action))) (I3 F x.fResources resource).isSome)))<|some ((x.fAllow ==allow)&&((decide ((ov (HS F x))=0))&&((ov (I3 F x.fActions action))&&(ov (I3 F x.fResources resource)))))
def Ma (F:Nat)(ys:(List Ad))(allow:Bool)(action resource:Ac)(hb:Int):Option (Stp Int (Out Int Unit)):=
 Bj (decide (hb<(ys.length:Int))) (AM (Cn hb (ys.length:Int))<|Ba (QN F (Af ys hb) allow action resource) λhd=>Bj hd (some (.out (.ret hb))) (AM (BT .i64 (hb+1))<|some (.next (hb+1)))) (some (.out (.go ())))
def NZ :Option Int:=
 some (-1)
def Adm (F:Nat)(ys:(List Ad))(allow:Bool)(action resource:Ac):Option Int:=
 Ba (Cg (λσ=>Ma F ys allow action resource σ) F 0) (Cm λν=>NZ )
def UD (F:Nat)(allow:Bool)(l:(List Ad))(action resource:Ac):Option Int:=
 Ba (Adm F l allow action resource) λr2=>some r2
def NP (F:Nat)(l:(List Ad))(action resource:Ac):Option Ch:=
 Ba (UD F false l action resource) λr5=>Bj (decide (0≤r5)) (some (Ch.mk false r5)) (Ba (UD F true l action resource) λhb=>some (Ch.mk (decide (0≤hb)) hb))
def Ga (n low high:Int):Option Bool:=
 some ((decide (low≤n))&&(decide (n≤high)))
def Hl (bits:Int):Option Int:=
 AM (BT .i64 (32-bits))<|AM (decide (0≤(32-bits)))<|AM (BT .i64 ((Sc .i64 1 (32-bits))-1))<|some ((Sc .i64 1 (32-bits))-1)
def Gf (q:A1):Option Int:=
 AM (Ga q.fAddr 0 4294967295).isSome<|AM (imp (!(!(ov (Ga q.fAddr 0 4294967295)))) (Ga q.fBits 0 32).isSome)<|AM (imp (!(!(ov (Ga q.fAddr 0 4294967295)))) (imp (!(!(ov (Ga q.fBits 0 32)))) (Ga q.fLow 1 65535).isSome))<|AM (imp (!(!(ov (Ga q.fAddr 0 4294967295)))) (imp (!(!(ov (Ga q.fBits 0 32)))) (imp (!(!(ov (Ga q.fLow 1 65535)))) (Ga q.fHigh q.fLow 65535).isSome)))<|Bj (((!(ov (Ga q.fAddr 0 4294967295)))||((!(ov (Ga q.fBits 0 32)))||((!(ov (Ga q.fLow 1 65535)))||(!(ov (Ga q.fHigh q.fLow 65535))))))) (some 2) (Ba (Hl q.fBits) λhb=>Bj (!decide ((Aaq .i64 q.fAddr hb)=0)) (some 1) (some 0))
def Adl (s:Ac):Option Int:=
 Bj (decide (([46]:Ac)=s)) (some 0) (AM (Cn 0 (([46]:Ac).length:Int))<|some (Lib.indexByte s (Int.toNat (C0 ([46]:Ac) 0)).toUInt8))
def Aaj (s:Ac):Option Int:=
 Bj (decide (([58]:Ac)=s)) (some 0) (AM (Cn 0 (([58]:Ac).length:Int))<|some (Lib.indexByte s (Int.toNat (C0 ([58]:Ac) 0)).toUInt8))
def X7 (s:Ac):Option Int:=
 Ba (Adl s) λr1=>some r1
def Eh (s hb:Ac)(hd:Int)(hf:(List Ac)):Option (Stp (Ac×Int×(List Ac)) (Out ((List Ac)) (Ac×Int×(List Ac)))):=
 Bj (decide (hd<((min ((Lib.countByte s 46:Int)+1) ((s.length:Int)+1))-1))) (Ba (X7 hb) λhe=>Bj (decide (he<0)) (some (.out (.go (hb,hd,hf)))) (AM (BT .i64 (he+0))<|AM (IG (he+0) (hb.length:Int))<|AM (Cn hd (hf.length:Int))<|Nu (List.set hf (Int.toNat hd) (List.take (Int.toNat (he+0)) hb)) λhg=>AM (BT .i64 (he+1))<|AM (IG (he+1) (hb.length:Int))<|AM (BT .i64 (hd+1))<|some (.next (List.drop (Int.toNat (he+1)) hb,hd+1,hg)))) (some (.out (.go (hb,hd,hf))))
def Hu (hf:Ac)(hb:Int)(hd:(List Ac)):Option ((List Ac)):=
 AM (Cn hb (hd.length:Int))<|Nu (List.set hd (Int.toNat hb) hf) λhe=>AM (BT .i64 (hb+1))<|AM (IG (hb+1) (he.length:Int))<|some (List.take (Int.toNat (hb+1)) he)
def Rn (F:Nat)(s:Ac):Option ((List Ac)):=
 AM (BT .i64 ((Lib.countByte s 46:Int)+1))<|AM (BT .i64 ((s.length:Int)+1))<|AM (Dl 16 (Int.toNat (min ((Lib.countByte s 46:Int)+1) ((s.length:Int)+1))))<|AM (decide (0≤(min ((Lib.countByte s 46:Int)+1) ((s.length:Int)+1))))<|AM (BT .i64 ((min ((Lib.countByte s 46:Int)+1) ((s.length:Int)+1))-1))<|Ba (Cg (λσ=>Eh s σ.1 σ.2.1 σ.2.2) F (s,0,List.replicate (Int.toNat (min ((Lib.countByte s 46:Int)+1) ((s.length:Int)+1))) ([]:Ac))) (Cm λν=>Hu ν.1 ν.2.1 ν.2.2)
def X6 (F:Nat)(s:Ac):Option ((List Ac)):=
 Ba (Rn F s) λr1=>some r1
def Ag3 (s:Ac):Option (Ac×Ac×Bool):=
 Ba (Aaj s) λr1=>Bj (decide (0≤r1)) (AM (IG r1 (s.length:Int))<|AM (BT .i64 (r1+1))<|AM (IG (r1+1) (s.length:Int))<|some (List.take (Int.toNat r1) s,List.drop (Int.toNat (r1+1)) s,true)) (some (s,([]:Ac),false))
def AiX (s:Ac):Option (Ac×Ac×Bool):=
 Ba (Ag3 s) λr1=>some (r1.1,r1.2.1,r1.2.2)
def Gz (r1:(List Ac))(hb:Int)(hd:(List Int)):Option (Stp (Int×(List Int)) (Out (Int×Int) ((List Int)))):=
 Bj (decide (hb<4)) (AM (Cn hb (r1.length:Int))<|AM (Dl 1 (Af r1 hb).length)<|AM (imp (!(!decide ((D1 (Af r1 hb))=0))) (Ga (Cc (Af r1 hb)) 0 255).isSome)<|Bj (((!decide ((D1 (Af r1 hb))=0))||(!(ov (Ga (Cc (Af r1 hb)) 0 255))))) (some (.out (.ret (0,1)))) (AM (Cn hb 4)<|AM (Cn hb (hd.length:Int))<|AM (BT .i64 (hb+1))<|some (.next (hb+1,List.set hd (Int.toNat hb) (Cc (Af r1 hb)))))) (some (.out (.go hd)))
def I4 (hb:(List Int)):Option (Int×Int):=
 AM (Cn 0 4)<|AM (Cn 0 (hb.length:Int))<|AM (Cn 1 4)<|AM (Cn 1 (hb.length:Int))<|AM (Cn 2 4)<|AM (Cn 2 (hb.length:Int))<|AM (Cn 3 4)<|AM (Cn 3 (hb.length:Int))<|some (iOr .i64 (iOr .i64 (iOr .i64 (Sc .i64 (Af hb 0) 24) (Sc .i64 (Af hb 1) 16)) (Sc .i64 (Af hb 2) 8)) (Af hb 3),0)
def OH (F:Nat)(s:Ac):Option (Int×Int):=
 Ba (X6 F s) λr1=>Bj (!decide ((r1.length:Int)=4)) (some (0,1)) (Ba (Cg (λσ=>Gz r1 σ.1 σ.2) F (0,List.replicate 4 (0:Int))) (Cm λν=>I4 ν))
def LW (q:A1)(addr port:Int):Option Bool:=
 AM (Gf q).isSome<|AM (imp (decide ((ov (Gf q))=0)) (Hl q.fBits).isSome)<|AM (imp (decide ((ov (Gf q))=0)) (BT .i64 (q.fAddr+(ov (Hl q.fBits)))))<|AM (imp (decide ((ov (Gf q))=0)) (Ga addr q.fAddr (q.fAddr+(ov (Hl q.fBits)))).isSome)<|AM (imp (decide ((ov (Gf q))=0)) (imp ((ov (Ga addr q.fAddr (q.fAddr+(ov (Hl q.fBits)))))) (Ga port q.fLow q.fHigh).isSome))<|some ((decide ((ov (Gf q))=0))&&((ov (Ga addr q.fAddr (q.fAddr+(ov (Hl q.fBits)))))&&(ov (Ga port q.fLow q.fHigh))))
def Im (l:(List A1))(addr port hb:Int):Option (Stp Int (Out Ch Unit)):=
 Bj (decide (hb<(l.length:Int))) (AM (Cn hb (l.length:Int))<|Ba (LW (Af l hb) addr port) λhd=>Bj hd (some (.out (.ret (Ch.mk (Af l hb).fAllow hb)))) (AM (BT .i64 (hb+1))<|some (.next (hb+1)))) (some (.out (.go ())))
def Lk :Option Ch:=
 some (Ch.mk false (-1))
def JC (F:Nat)(l:(List A1))(addr port:Int):Option Ch:=
 Ba (Cg (λσ=>Im l addr port σ) F 0) (Cm λν=>Lk )
end Go.Proofs.YtphnhpcjnmmhiaaGreatDoor
namespace Go.Proofs.YtphnhpcjnmmhiaaGreatDoor.Q
open Go Go.RowKit
set_option linter.unusedVariables false
set_option linter.unusedSimpArgs false
section
variable {P : Program} {n : Nat} {c : Cx} {l : Fr} {H : List Ent} {d : Option Nat} {x y : Operand} {t t' ty : TypeId} {pos : String} {af : Array Edge} {g : Option (Nat × Bool)} {k k' : IntKind} {p q : Int}
theorem Am5 (hx:ev l x=some (rI k p))(hy:ev l y=some (rI k q)):Cd P n c l H { dst:=d,op:=.binOp .and t x y t',type:=ty,pos:=pos,after:=af,guard:=g } (rI k (Aaq k p q)):=λa w Z ha _=>Ev<|by
 simp[execOp,ha.eval hx,ha.eval hy,CH,binOp,Op.intBits,Aaq]
theorem Alt (hx:ev l x=some (rI k p))(hy:ev l y=some (rI k q)):Cd P n c l H { dst:=d,op:=.binOp .or t x y t',type:=ty,pos:=pos,after:=af,guard:=g } (rI k (iOr k p q)):=λa w Z ha _=>Ev<|by
 simp[execOp,ha.eval hx,ha.eval hy,CH,binOp,Op.intBits,iOr]
theorem AcZ (hx:ev l x=some (rI k p))(hy:ev l y=some (rI k' q))(h0:decide (0≤q)=true):Cd P n c l H { dst:=d,op:=.binOp .shl t x y t',type:=ty,pos:=pos,after:=af,guard:=g } (rI k (Sc k p q)):=λa w Z ha _=>Ev<|by
 have h1 : ¬ q<0:=by have:=ApH h0;omega
 simp[execOp,ha.eval hx,ha.eval hy,CH,binOp,Op.shift,Sc,h1]
end
variable{α:Type}{ys:List α}
theorem Al1 [Inhabited α]{enc:α→Rp}{j:Int}(hg:Cn j (ys.length:Int)=true):(List.map enc ys)[j.toNat]? =some (enc (Af ys j)):=by
 have h0:=(Da hg).1;have h1:=(Da hg).2;have hl:j.toNat<ys.length:=by omega
 simp[Af,Apw hl]
theorem Aj9 {enc:α→Rp}{j:Int}(hg:Cn j (ys.length:Int)=true):Nat.blt j.toNat (List.map enc ys).length=true:=by
 have h0:=(Da hg).1;have h1:=(Da hg).2;simp;omega
section
variable {P : Program} {n : Nat} {c : Cx} {ops : Array Oper} {Q : Exit → Act → World → Prop} {rest : List Oper} {l : Fr} {H H' : List Ent} {d : Nat} {d' : Option Nat} {x y : Operand} {t ty e : TypeId} {pos : String} {af : Array Edge} {g : Option (Nat × Bool)} {k : IntKind} {b i len : Nat} {j : Int}
theorem UJ (ht:P.underlying t=some (.array len e))(hz:∀w,(sizeOf e).run P w = .ok 1 w)(hx:ev l x=some (rv (.pointer (some ⟨b,0,none⟩))))(hy:ev l y=some (rI k j))(hg:Cn j (len:Int)=true) :
  Cd P n c l H { dst:=d',op:=.indexAddr t x y,type:=ty,pos:=pos,after:=af,guard:=g } (rv (.pointer (some ⟨b,j.toNat,none⟩))):=λa w Z ha hw=>Ev<|by
 have h0:=(Da hg).1;have h1:=(Da hg).2;simp[execOp,ha.eval hx,ha.eval hy,Instr.indexAt,Instr.sureAddr,asIntOf,run_underlying ht,h0,h1,hz,Pi]
theorem QP [Inhabited α]{enc:α→Rp}(hag:∀w,(isAgg t).run P w = .ok false w)(hx:ev l x=some (rv (.pointer (some ⟨b,j.toNat,none⟩))))(hi:H[i]? =some (.blk b (List.map enc ys) e))(hg:Cn j (ys.length:Int)=true) :
  Cd P n c l H { dst:=d',op:=.load t x,type:=ty,pos:=pos,after:=af,guard:=g } (enc (Af ys j)):=AY _ hag hx hi (Al1 hg)
theorem Aeq [Inhabited α]{enc:α→Rp}{v:α}(hag:∀w,(sizeOf t).run P w = .ok 1 w)(hx:ev l x=some (rv (.pointer (some ⟨b,j.toNat,none⟩))))(hy:ev l y=some (enc v))(hv:Wh H (enc v))
  (hi:H[i]? =some (.blk b (List.map enc ys) e)) (hg:Cn j (ys.length:Int)=true) (hH:H.set i (.blk b (List.map enc (List.set ys j.toNat v)) e)=H')
  (h:WL P n c ops Q rest l H'):WL P n c ops Q ({ dst:=none,op:=.store t x y,type:=ty,pos:=pos,after:=af,guard:=none }::rest) l H:=
 Ac8 hag hx hy hv hi (Aj9 hg) (cs':=List.map enc (List.set ys j.toNat v)) (by rw[List.map_set]) hH h
end
section
variable {P : Program} {n : Nat} {c : Cx} {l : Fr} {H : List Ent} {d' : Option Nat} {x y : Operand} {t t' ty e te : TypeId} {pos : String} {af : Array Edge} {g : Option (Nat × Bool)} {k : IntKind} {b i len : Nat} {j : Int}
end
def Vz (ops:List Oper)(N:Nat):Bool:=
 let cl:=Qt ops []
 (List.range ops.length).all (λi=>(Ei (ops.getD i default)).all (·<i))&&
 (List.range ops.length).all (λi=>i<N||(List.range i).all (λj=>(cl.getD i 0).testBit j))
variable{ops:List Oper}{o:Oper}{i id:Nat}{listed:Array Bool}
section
variable {P : Program} {Q : Exit → Act → World → Prop}
theorem AaE {len m:Nat}(hs:listed.size=len)(hm:m≤len)(h:∀j,j<len→(listed.getD j true=true↔j<m)):listed.toList.count false=len-m:=by
 have:listed.toList=List.replicate m true++List.replicate (len-m) false:=by
  apply List.ext_getElem
  ·simp[hs];omega
  ·intro j h1 h2;have hj:j<len:=by simpa[hs] using h1
   have:=h j hj;rw[Array.getD_eq_getD_getElem?,Array.getElem?_eq_getElem (by omega)] at this;simp only[ApE] at this;rw[Array.getElem_toList,List.getElem_append]
   split
   ·rename_i h3
    simp at h3;simp[this.2 h3]
   ·rename_i h3
    simp at h3;simp only[List.getElem_replicate]
    cases hb:listed[j] with
    | false=>rfl
    | true=>have:=this.1 hb;omega
 rw[this];simp[List.count_append,List.count_replicate]
theorem Adx {j:Nat}(h:j<listed.size)(d d':Bool):listed.getD j d=listed.getD j d':=by
 simp[Array.getD_eq_getD_getElem?,Array.getElem?_eq_getElem h]
theorem V3 (ho:ops[i]? =some o)(hb:∀e∈Ei o,listed.getD e true=true)
  (hcl:∀j o,ops[j]? =some o→listed.getD j true=true→∀e∈Ei o,listed.getD e true=true) (j:Nat) (h:((Qt ops []).getD i 0).testBit j=true):j=i∨listed.getD j true=true:=
 Jm ops (λk=>k=i∨listed.getD k true=true) ops [] (λt o' ht e he hF=>by
  rcases hF with hF | hF
  ·simp at hF;subst hF;rw[ho] at ht;simp at ht;subst ht;exact .inr (hb e he)
  ·exact .inr (hcl t o' ht (by simpa using hF) e he)) (λj i hb=>by simp at hb) i j h (.inl rfl)
theorem PQ (hsz:listed.size=ops.length)(hlt:∀i,i<ops.length→∀e∈Ei (ops.getD i default),e<i)(h:i∈Region.ready .any ops.toArray listed) :
  listed.getD i true=false∧i<ops.length∧∃o,ops[i]? =some o∧∀e∈Ei o,listed.getD e true=true:=by
 obtain⟨h1,o,ho,h2⟩:=mem_ready.1 h;have ho':ops[i]? =some o:=by simpa using ho
 have hil:=(List.getElem?_eq_some_iff.1 ho').1;refine⟨h1,hil,o,ho',λe he=>?_⟩;have hei:=hlt i hil e (by rw[Apy,ho'];exact he);simp only[Ei,List.mem_map,List.mem_filter] at he;obtain⟨x,⟨hx1,hx2⟩,rfl⟩:=he;have h3:=h2 x (by simpa using hx1) hx2;rw[Adx (by omega) true false];exact h3
theorem P3 (hsz:listed.size=ops.length)(hlt:∀i,i<ops.length→∀e∈Ei (ops.getD i default),e<i)(h:Region.ready .any ops.toArray listed=[]) :
  ∀j,j<ops.length→listed.getD j true=true:=by
 intro j
 induction j using Nat.strongRecOn with
 | ind j ih=>
  intro hj
  cases hb:listed.getD j true with
  | true=>rfl
  | false=>
   have:j∈Region.ready .any ops.toArray listed:=mem_ready.2 ⟨hb,ops[j],by simp[hj],λe he hbn=>by
    have hel:e.on<j:=hlt j hj e.on (by
     rw[Apy,Apw hj];simp only[Ei,ApE,List.mem_map,List.mem_filter];exact⟨e,⟨by simpa using he,hbn⟩,rfl⟩)
    rw[Adx (by omega) false true];exact ih e.on hel (by omega)⟩
   rw[h] at this;cases this
theorem T8 {j:Nat}(hi:i<listed.size):(listed.setIfInBounds i true).getD j true=true↔(j=i∨listed.getD j true=true):=by
 by_cases hj:i=j
 ·subst hj;simp[hi]
 ·rw[getD_set_ne true hj];exact⟨.inr,λh=>h.elim (λh=>absurd h.symm hj) id⟩
theorem Aex {fuel:Nat}(hi:i<listed.size)(hun:listed.getD i true=false)(hc:listed.toList.count false=fuel+1):(listed.setIfInBounds i true).toList.count false=fuel:=by
 have hfi:listed.toList[i]? =some false:=by
  rw[Array.getD_eq_getD_getElem?,Array.getElem?_eq_getElem hi] at hun;simp at hun;simp[hi,hun]
 rw[Array.toList_setIfInBounds];have h1:=List.count_set (a:=true) (b:=false) (l:=listed.toList) (i:=i) (by simpa using hi);have h2:listed.toList[i]'(by simpa using hi)=false:=by
  have:=List.getElem?_eq_some_iff.1 hfi;exact this.2
 rw[h1,h2,hc];rfl
theorem SI {ops:List Oper}{N:Nat}(hlt:∀i,i<ops.length→∀e∈Ei (ops.getD i default),e<i)
  (hch:∀i,N≤i→i<ops.length→∀j,j<i→((Qt ops []).getD i 0).testBit j=true):∀(k m:Nat) (listed:Array Bool) (a:Act) (w:World),m+k=ops.length→N≤m→listed.size=ops.length→
   (∀j,j<ops.length→(listed.getD j true=true↔j<m))→(∀j o,ops[j]? =some o→listed.getD j true=true→∀e∈Ei o,listed.getD e true=true)→wpList P ops.toArray Q (ops.drop m) a w→wpAny P .any ops.toArray Q k listed a w
 | 0,m,listed,a,w,hk,hN,hsz,hl,hcl,h=>by
  refine⟨?_,?_⟩
  ·cases hr:Region.ready .any ops.toArray listed with
   | nil=>rfl
   | cons i r=>
    obtain⟨h1,h2,_⟩:=PQ hsz hlt (i:=i) (by rw[hr];simp);rw[(hl i h2).2 (by omega)] at h1;cases h1
  ·rw[List.drop_of_length_le (by omega)] at h;exact h
 | k+1,m,listed,a,w,hk,hN,hsz,hl,hcl,h=>by
  refine⟨λhr=>?_,λi hi=>?_⟩
  ·have:=(hl m (by omega)).1 (P3 hsz hlt hr m (by omega));omega
  ·obtain⟨h1,h2,o,ho,hb⟩:=PQ hsz hlt hi;have him:i=m:=by
    have hmi : ¬ i<m:=λh'=>by rw[(hl i h2).2 h'] at h1;cases h1
    by_cases e:i=m
    ·exact e
    ·rcases V3 ho hb hcl m (hch i (by omega) h2 m (by omega)) with h3 | h3
     ·exact h3.symm
     ·have:=(hl m (by omega)).1 h3;omega
   subst him;have hd:ops.drop i=o::ops.drop (i+1):=by
    rw[List.drop_eq_getElem_cons h2]
    congr 1
    exact(List.getElem?_eq_some_iff.1 ho).2
   rw[hd] at h;have ih:∀a' w',wpList P ops.toArray Q (ops.drop (i+1)) a' w'→wpAny P .any ops.toArray Q k (listed.setIfInBounds i true) a' w':=λa' w' h'=>by
    refine SI hlt hch k (i+1) _ a' w' (by omega) (by omega) (by simpa using hsz) (λj hj=>?_) (λj o' hj hlj e he=>?_) h'
    ·rw[T8 (by omega),hl j hj];omega
    ·rw[T8 (by omega)] at hlj ⊢;rcases hlj with rfl | hlj
     ·rw[ho] at hj;simp at hj;subst hj;exact .inr (hb e he)
     ·exact .inr (hcl j o' hj hlj e he)
   unfold wpOp;have hoA:ops.toArray[i]? =some o:=by simpa using ho
   simp only[hoA];simp only[wpList] at h
   split
   ·rename_i hw'
    rw[ApW hw'] at h;exact h.imp (λh=>Oper.wp_mono ih h) (λh=>h)
   ·rename_i hw'
    rw[ApP hw'] at h;exact ih _ _ h
theorem AaY {N:Nat}(hm:P.follows .mixedOrders=true)(hB:Vz ops N=true)(hN:N≤ops.length)(I:(Nat→Bool)→Act→World→Prop)
  (hext:∀S S' a w,(∀j,j<N→S j=S' j)→I S a w→I S' a w) {a:Act} {w:World} (h0:I (λ_=>false) a { w with drawn:=w.drawn+1 })
  (step:∀S i o a w,i<N→S i=false→ops[i]? =some o→(∀e∈Ei o,e<i∧S e=true)→I S a w→∀K:Act→World→Prop,(∀a' w',I (λj=>j ==i||S j) a' w'→K a' w')→
   (Region.wanted o (yielded ops.toArray a.tmps)=true→o.wp P a w K Q)∧(Region.wanted o (yielded ops.toArray a.tmps)=false→K (a.put o.dst undef) w))
  (fin:∀a w,I (λ_=>true) a w→wpList P ops.toArray Q (ops.drop N) a w):(Code.region id ops.toArray true).wp P Q a w:=by
 simp only[Vz,Aps,ApV,List.mem_range,Apt,ApD] at hB;obtain⟨hlt,hch0⟩:=hB;have hch:∀i,N≤i→i<ops.length→∀j,j<i→((Qt ops []).getD i 0).testBit j=true:=λi h1 h2 j hj=>by
  rcases hch0 i h2 with h3 | h3
  ·omega
  ·exact h3 j hj
 refine wp_region_any hm ?_;have main:∀(fuel:Nat) (listed:Array Bool) (a:Act) (w:World),listed.size=ops.length→listed.toList.count false=fuel→I (λj=>listed.getD j true) a w→
   (∀j o,ops[j]? =some o→listed.getD j true=true→∀e∈Ei o,listed.getD e true=true)→(∀j,N≤j→j<ops.length→listed.getD j true=false)→wpAny P .any ops.toArray Q fuel listed a w:=by
  intro fuel;have allin:∀(fuel:Nat) (listed:Array Bool) (a:Act) (w:World),listed.size=ops.length→listed.toList.count false=fuel→I (λj=>listed.getD j true) a w→
   (∀j o,ops[j]? =some o→listed.getD j true=true→∀e∈Ei o,listed.getD e true=true)→(∀j,N≤j→j<ops.length→listed.getD j true=false)→(∀j,j<N→listed.getD j true=true)→wpAny P .any ops.toArray Q fuel listed a w:=by
   intro fuel listed a w hsz hc hI hcl hlast hall;have hl:∀j,j<ops.length→(listed.getD j true=true↔j<N):=λj hj=>by
    constructor
    ·intro h
     by_cases hjN:j<N
     ·exact hjN
     ·rw[hlast j (by omega) hj] at h;cases h
    ·exact hall j
   have:=AaE hsz hN hl;refine SI hlt hch fuel N listed a w (by omega) (Ap8 _) hsz hl hcl (fin a w (hext _ _ a w (λj hj=>hall j hj) hI))
  induction fuel with
  | zero=>
   intro listed a w hsz hc hI hcl hlast;refine allin 0 listed a w hsz hc hI hcl hlast (λj hj=>?_)
   cases hb:listed.getD j true with
   | true=>rfl
   | false=>
    have:false∈listed.toList:=by
     rw[Array.getD_eq_getD_getElem?,Array.getElem?_eq_getElem (by omega)] at hb;simp at hb;rw[← hb];simp
    have:=List.count_pos_iff.2 this;omega
  | succ fuel ih=>
   intro listed a w hsz hc hI hcl hlast
   by_cases hall:∀j,j<N→listed.getD j true=true
   ·exact allin (fuel+1) listed a w hsz hc hI hcl hlast hall
   ·refine⟨λhr=>absurd (λj hj=>P3 hsz hlt hr j (by omega)) hall,λi hi=>?_⟩;obtain⟨h1,h2,o,ho,hb⟩:=PQ hsz hlt hi;have hiN:i<N:=by
     by_cases h:i<N
     ·exact h
     ·refine absurd (λj hj=>?_) hall;rcases V3 ho hb hcl j (hch i (by omega) h2 j (by omega)) with h3 | h3
      ·omega
      ·exact h3
    have K':∀a' w',I (λj=>j ==i||listed.getD j true) a' w'→wpAny P .any ops.toArray Q fuel (listed.setIfInBounds i true) a' w':=λa' w' hI'=>by
     refine ih _ a' w' (by simpa using hsz) (Aex (by omega) h1 hc) (hext _ _ a' w' (λj hj=>?_) hI') (λj o' hj hlj e he=>?_) (λj h3 h4=>?_)
     ·have:=T8 (listed:=listed) (i:=i) (j:=j) (by omega)
      cases hq:(listed.setIfInBounds i true).getD j true with
      | true=>
       rw[hq] at this;rcases this.1 rfl with h | h
       ·simp[h]
       ·simp[h]
      | false=>
       rw[hq] at this;have h5 : ¬ (j=i∨listed.getD j true=true):=λh=>by have:=this.2 h;cases this
       cases hz:listed.getD j true with
       | true=>exact absurd (.inr hz) h5
       | false=>
        have:j≠i:=λh=>h5 (.inl h);simp[this]
     ·rw[T8 (by omega)] at hlj ⊢;rcases hlj with rfl | hlj
      ·rw[ho] at hj;simp at hj;subst hj;exact .inr (hb e he)
      ·exact .inr (hcl j o' hj hlj e he)
     ·rw[getD_set_ne true (by omega)];exact hlast j h3 h4
    obtain⟨k1,k2⟩:=step _ i o a w hiN h1 ho (λe he=>⟨hlt i h2 e (by rw[Apy,ho];exact he),hb e he⟩) hI _ K';unfold wpOp;have hoA:ops.toArray[i]? =some o:=by simpa using ho
    simp only[hoA]
    split
    ·rename_i hw';exact .inl (k1 hw')
    ·rename_i hw';exact k2 (by simpa using hw')
 have e0:∀j,j<ops.length→(Array.replicate ops.length false).getD j true=false:=λj hj=>by simp[hj]
 have hsz0:ops.toArray.size=ops.length:=by simp
 rw[hsz0];refine main ops.length (Array.replicate ops.length false) a _ (by simp) (by simp) (hext _ _ _ _ (λj hj=>(e0 j (by omega)).symm) h0) (λj o hj hl=>?_) (λj _ h2=>e0 j h2);rw[e0 j (List.getElem?_eq_some_iff.1 hj).1] at hl;cases hl
end
structure Sa where
 deps:List Nat
 r:Rp
 al:Option (List Rp×TypeId):=none
 late:Option (Nat×List Rp):=none
 sto:Option Nat:=none
def JM (sp:List Sa)(i:Nat):Sa:=sp.getD i { deps:=[],r:=rv undef }
def spq (sp:List Sa):List Sp:=sp.map λs=>⟨s.deps,s.r,0⟩
def RH (β:Nat→Nat)(s:Sa)(i:Nat):Rp:=match s.al with
 | none=>s.r
 | some _=>rv (.pointer (some ⟨β i,0,none⟩))
def S2 (S:Nat→Bool)(late:Option (Nat×List Rp))(cs:List Rp):List Rp:=match late with
 | none=>cs
 | some q=>if S q.1 then q.2 else cs
def Kj (S:Nat→Bool)(β:Nat→Nat):List Sa→Nat→List Ent
 | [],_=>[]
 | s::r,t=>match s.al with
  | some p=>if S t then .blk (β t) (S2 S s.late p.1) p.2::Kj S β r (t+1) else Kj S β r (t+1)
  | none=>Kj S β r (t+1)
def Afz (β:Nat→Nat):List Sa→Nat→List Ent
 | [],_=>[]
 | s::r,t=>match s.al with
  | some p=>.blk (β t) (match s.late with | none=>p.1 | some q=>q.2) p.2::Afz β r (t+1)
  | none=>Afz β r (t+1)
def PD (β:Nat→Nat):List Oper→List Sa→Nat→Fr→Fr
 | o::os,s::sp,i,l=>match o.dst with
  | some d=>(d,RH β s i)::PD β os sp (i+1) l
  | none=>PD β os sp (i+1) l
 | _,_,_,l=>l
variable{S:Nat→Bool}
theorem Qs {S':Nat→Bool}{late:Option (Nat×List Rp)}{cs:List Rp}(h:∀q,late=some q→S q.1=S' q.1):S2 S late cs=S2 S' late cs:=by
 unfold S2
 cases late with
 | none=>rfl
 | some q=>simp only[];rw[h q rfl]
theorem Iv (S:Nat→Bool)(β:Nat→Nat)(s:Sa)(r:List Sa)(t:Nat):Kj S β (s::r) t=match s.al with
  | some p=>if S t then .blk (β t) (S2 S s.late p.1) p.2::Kj S β r (t+1) else Kj S β r (t+1)
  | none=>Kj S β r (t+1):=rfl
theorem KY {S S':Nat→Bool}{β β':Nat→Nat}:∀(r:List Sa) (t0:Nat),(∀(t:Nat) (s:Sa),r[t]? =some s→s.al≠none→S (t0+t)=S' (t0+t)∧(S (t0+t)=true→β (t0+t)=β' (t0+t)∧∀q,s.late=some q→S q.1=S' q.1))→Kj S β r t0=Kj S' β' r t0
 | [],_,_=>rfl
 | s::r,t0,h=>by
  have ih:=KY r (t0+1) (λt s hs hn=>by
   have:=h (t+1) s (by simpa using hs) hn;rw[show t0+1+t=t0+(t+1) from by omega];exact this)
  unfold Kj;rw[ih]
  cases ha:s.al with
  | none=>rfl
  | some p=>
   obtain⟨h1,h2⟩:=h 0 s rfl (by rw[ha];exact nofun);simp only[Nat.add_zero] at h1 h2;simp only[];rw[← h1]
   split
   ·rename_i hS;rw[(h2 hS).1,Qs (h2 hS).2]
   ·rfl
theorem AaC (β:Nat→Nat):∀(r:List Sa) (t0:Nat),Kj (λ_=>true) β r t0=Afz β r t0
 | [],_=>rfl
 | s::r,t0=>by
  unfold Kj Afz;rw[AaC β r (t0+1)]
  cases s.al with
  | none=>rfl
  | some p=>cases hl:s.late<;>simp[S2,hl]
theorem Xc (β:Nat→Nat):∀(r:List Sa) (t0:Nat),Kj (λ_=>false) β r t0=[]
 | [],_=>rfl
 | s::r,t0=>by
  unfold Kj;rw[Xc β r (t0+1)]
  cases s.al<;>simp
theorem AaB {S:Nat→Bool}{β:Nat→Nat}{i b:Nat}{p:List Rp×TypeId}:∀(r:List Sa) (t0 k:Nat) (s:Sa),i=t0+k→r[k]? =some s→s.al=some p→S i=false→(∀(t:Nat) (s:Sa) (q:Nat×List Rp),r[t]? =some s→s.al≠none→s.late=some q→q.1≠i)→(∀q,s.late=some q→S q.1=false∧q.1≠i)→
  (Kj (λj=>j ==i||S j) (λj=>if j=i then b else β j) r t0).Perm (.blk b p.1 p.2::Kj S β r t0)
 | [],_,_,_,_,h,_,_,_,_=>by simp at h
 | s'::r,t0,0,s,hi,h,ha,hS,hne,hl=>by
  simp at h hi;subst h;subst hi;have e:=KY (S:=λj=>j ==i||S j) (S':=S) (β:=λj=>if j=i then b else β j) (β':=β) r (i+1) (λt s hs hn=>by
   have:i+1+t≠i:=by omega
   refine⟨by simp[this],λ_=>⟨by simp[this],λq hq=>?_⟩⟩;have:=hne (t+1) s q (by simpa using hs) hn hq;simp[this])
  have ec:S2 (λj=>j ==i||S j) s'.late p.1=p.1:=by
   unfold S2
   cases hq:s'.late with
   | none=>rfl
   | some q=>
    obtain⟨h1,h2⟩:=hl q hq;simp[h1,h2]
  unfold Kj;rw[e,ha];simp only[hS,BEq.rfl,Aqg,Aqp,ec];simp
 | s'::r,t0,k+1,s,hi,h,ha,hS,hne,hl=>by
  have ih:=AaB (S:=S) (β:=β) (i:=i) (b:=b) (p:=p) r (t0+1) k s (by omega) (by simpa using h) ha hS (λt s q hs=>hne (t+1) s q (by simpa using hs)) hl;have hne0:t0≠i:=by omega
  have hne':(t0 ==i)=false:=by simpa using hne0
  unfold Kj
  cases ha':s'.al with
  | none=>exact ih
  | some q=>
   simp only[hne',ApJ,ApP hne0];rw[Qs (S:=λj=>j ==i||S j) (S':=S) (λq hq=>by
    have:=hne 0 s' q rfl (by rw[ha'];exact nofun) hq;simp[this])]
   cases hS':S t0 with
   | true=>simpa using(Ap5 _ ih).trans (List.Perm.swap _ _ _)
   | false=>simpa using ih
theorem AaA {S:Nat→Bool}{β:Nat→Nat}{i j:Nat}{p:List Rp×TypeId}{ncs:List Rp}:∀(r:List Sa) (t0 k:Nat) (s:Sa),j=t0+k→r[k]? =some s→s.al=some p→s.late=some (i,ncs)→S j=true→S i=false→(∀(t:Nat) (s:Sa) (q:Nat×List Rp),r[t]? =some s→s.al≠none→s.late=some q→t0+t≠j→q.1≠i)→(∀(t:Nat) (s:Sa),r[t]? =some s→s.al≠none→t0+t≠i)→
  ∃H',(Kj S β r t0).Perm (.blk (β j) p.1 p.2::H')∧(Kj (λj=>j ==i||S j) β r t0).Perm (.blk (β j) ncs p.2::H')
 | [],_,_,_,_,h,_,_,_,_,_,_=>by simp at h
 | s'::r,t0,0,s,hj,h,ha,hl,hSj,hSi,hne,hni=>by
  simp at h hj;subst h;subst hj;have e:=KY (S:=λx=>x ==i||S x) (S':=S) (β:=β) (β':=β) r (j+1) (λt s hs hn=>by
   have h1:=hni (t+1) s (by simpa using hs) hn;have h1':j+1+t≠i:=by omega
   refine⟨by simp[h1'],λ_=>⟨rfl,λq hq=>?_⟩⟩;have:=hne (t+1) s q (by simpa using hs) hn hq (by omega);simp[this])
  refine⟨Kj S β r (j+1),?_,?_⟩
  ·rw[Iv];rw[ha];simp[hSj,S2,hl,hSi]
  ·rw[Iv];rw[ha,e];simp[hSj,S2,hl]
 | s'::r,t0,k+1,s,hj,h,ha,hl,hSj,hSi,hne,hni=>by
  obtain⟨H',h1,h2⟩:=AaA (S:=S) (β:=β) (i:=i) (j:=j) (p:=p) (ncs:=ncs) r (t0+1) k s (by omega) (by simpa using h) ha hl hSj hSi (λt s q hs hn hq hx=>hne (t+1) s q (by simpa using hs) hn hq (by omega)) (λt s hs hn=>by
   have:=hni (t+1) s (by simpa using hs) hn;omega)
  cases ha':s'.al with
  | none=>exact⟨H',by rw[Iv,ha'];exact h1,by rw[Iv,ha'];exact h2⟩
  | some q=>
   have hi0:=hni 0 s' rfl (by rw[ha'];exact nofun);have hi0':(t0 ==i)=false:=by simpa using hi0
   have ec:S2 (λx=>x ==i||S x) s'.late q.1=S2 S s'.late q.1:=Qs (λq hq=>by
    have:=hne 0 s' q rfl (by rw[ha'];exact nofun) hq (by omega);simp[this])
   cases hS':S t0 with
   | true=>
    refine⟨.blk (β t0) (S2 S s'.late q.1) q.2::H',?_,?_⟩
    ·rw[Iv];rw[ha'];simpa[hS'] using(Ap5 _ h1).trans (List.Perm.swap _ _ _)
    ·rw[Iv];rw[ha'];simp only[hi0',ApJ,hS',Aqp,ec];exact(Ap5 _ h2).trans (List.Perm.swap _ _ _)
   | false=>
    refine⟨H',?_,?_⟩
    ·rw[Iv];rw[ha'];simpa[hS'] using h1
    ·rw[Iv];rw[ha'];simp only[hi0',ApJ,hS'];simpa using h2
def okA (n:Nat)(ops:List Oper)(N:Nat)(keys:List Nat)(deps:List (List Nat))(als:List Bool)(lates stos:List (Option Nat)):Bool:=
 Vz ops N&&decide (N≤ops.length)&&
 (List.range N).all (λi=>match Di ops i with
  | some d=>decide (d<n)&&!keys.contains d&&(List.range N).all (λj=>j ==i||Di ops j !=some d)
  | none=>true)&&
 (List.range N).all (λi=>(deps.getD i []).all (λj=>decide (j<N)&&(Ei (ops.getD i default)).contains j&&!als.getD j true))&&
 (List.range N).all (λi=>match stos.getD i none with
  | some j=>decide (j<N)&&(Ei (ops.getD i default)).contains j&&als.getD j false&&!als.getD i true
  | none=>true)&&
 (List.range N).all (λj=>match lates.getD j none with
  | some k=>decide (k<N)&&als.getD j false&&stos.getD k none ==some j
  | none=>true)
def AlY (P:Program)(n:Nat)(c:Cx)(opsA:Array Oper)(Q:Exit→Act→World→Prop)(l:Fr)(o:Oper)(p:List Rp×TypeId):Prop:=
 ∀H a w Z (K:Act→World→Prop),EB n l a Z→St c H Z w→(∀b w',St c (.blk b p.1 p.2::H) Z w'→K (a.put o.dst (.pointer (some ⟨b,0,none⟩))) w')→
  Region.wanted o (yielded opsA a.tmps)=true∧o.wp P a w K Q
def ObA (P:Program)(n:Nat)(c:Cx)(opsA:Array Oper)(Q:Exit→Act→World→Prop)(ops:List Oper)(sp:List Sa)(l0:Fr)(H:List Ent)(i:Nat)(o:Oper):Prop:=
 match (JM sp i).sto with
 | some j=>o.dst=none∧∃d p ncs,Di ops j=some d∧(JM sp j).al=some p∧(JM sp j).late=some (i,ncs)∧
   ∀b H,EV P n c opsA Q ((d,rv (.pointer (some ⟨b,0,none⟩)))::CT ops (spq sp) (JM sp i).deps l0) (.blk b p.1 p.2::H) o (rv undef) (.blk b ncs p.2::H)
 | none=>match (JM sp i).al with
  | none=>∀E,EV P n c opsA Q (CT ops (spq sp) (JM sp i).deps l0) (H++E) o (JM sp i).r (H++E)
  | some p=>AlY P n c opsA Q (CT ops (spq sp) (JM sp i).deps l0) o p
def Qx (P:Program)(n:Nat)(c:Cx)(opsA:Array Oper)(Q:Exit→Act→World→Prop)(ops:List Oper)(sp:List Sa)(l0:Fr)(H:List Ent):Nat→List Oper→Prop
 | i,o::rest=>ObA P n c opsA Q ops sp l0 H i o∧Qx P n c opsA Q ops sp l0 H (i+1) rest
 | _,[]=>True
section
variable {P : Program} {n : Nat} {c : Cx} {opsA : Array Oper} {Q : Exit → Act → World → Prop} {l l0 : Fr} {H : List Ent} {sp : List Sa}
theorem Qx.at {ops:List Oper}:∀{k:Nat} {rest:List Oper},Qx P n c opsA Q ops sp l0 H k rest→∀(t:Nat) o,rest[t]? =some o→ObA P n c opsA Q ops sp l0 H (k+t) o
 | k,o::rest,⟨h1,h2⟩,t,o',ht=>by
  cases t with
  | zero=>simp at ht;subst ht;exact h1
  | succ t=>
   have:=Qx.at h2 t o' (by simpa using ht);rw[show k+(t+1)=k+1+t from by omega];exact this
 | _,[],_,t,o,h=>by simp at h
theorem TQ {β:Nat→Nat}{a:Act}{Z:Fz}(h0:EB n l0 a Z):∀(os:List Oper) (ss:List Sa) (k:Nat),(∀(t:Nat) o s d,os[t]? =some o→ss[t]? =some s→o.dst=some d→∃v,a.tmps[d]? =some v∧(RH β s (k+t)).p Z v)→EB n (PD β os ss k l0) a Z
 | [],_,_,_=>by unfold PD;exact h0
 | _::_,[],_,_=>by unfold PD;exact h0
 | o::os,s::ss,k,h=>by
  have ih:=TQ h0 os ss (k+1) (λt o' s' d h1 h2 h3=>by
   have:=h (t+1) o' s' d (by simpa using h1) (by simpa using h2) h3;rw[show k+1+t=k+(t+1) from by omega];exact this)
  unfold PD
  cases hd:o.dst with
  | none=>exact ih
  | some d=>
   refine⟨ih.size,ih.defers,λi r hi=>?_⟩;rw[Dp] at hi
   split at hi
   ·rename_i e;subst e;simp at hi;subst hi;exact h 0 o s d rfl rfl hd
   ·exact ih.tm i r hi
theorem AkT (N:Nat)(sp:List Sa)(hm:P.follows .mixedOrders=true)(hB:okA n ops N (Hp l0) (sp.map (·.deps)) (sp.map (·.al.isSome)) (sp.map (·.late.map (·.1))) (sp.map (·.sto))=true)(hl0:AaO l0 l)(hsp:sp.length=N)
  (hob:Qx P n c ops.toArray Q ops sp l0 H 0 (ops.take N)) (h:∀β,WL P n c ops.toArray Q (ops.drop N) (PD β (ops.take N) sp 0 l0) (H++Afz β sp 0)):WC P n c (.region id ops.toArray true) Q l H:=by
 intro a w Z ha hw;simp only[okA,Aps,ApV,List.mem_range,Apt] at hB;obtain⟨⟨⟨⟨⟨b1,bN⟩,b2⟩,b3⟩,b4⟩,b5⟩:=hB;have hget:∀i,i<N→(ops.take N)[i]? =ops[i]?:=λi hi=>by rw[ApS,ApW hi]
 have hsa:∀i,i<N→sp[i]? =some (JM sp i):=λi hi=>by
  simp[JM,Apy,Apw (show i<sp.length by omega)]
 have hspq:∀i,i<N→(GB (spq sp) i)=⟨(JM sp i).deps,(JM sp i).r,0⟩:=λi hi=>by
  simp[GB,spq,Apy,ApI,hsa i hi]
 have hals:∀j b,j<N→(sp.map (·.al.isSome)).getD j b=(JM sp j).al.isSome:=λj b hj=>by simp[Apy,ApI,hsa j hj]
 have hstos:∀j,j<N→(sp.map (·.sto)).getD j none=(JM sp j).sto:=λj hj=>by simp[Apy,ApI,hsa j hj]
 have hlates:∀j,j<N→(sp.map (·.late.map (·.1))).getD j none=(JM sp j).late.map (·.1):=λj hj=>by simp[Apy,ApI,hsa j hj]
 have S1:∀i o j,i<N→ops[i]? =some o→(JM sp i).sto=some j→j<N∧j∈Ei o∧(JM sp j).al≠none∧(JM sp i).al=none:=λi o j hi ho hs=>by
  have h1:=b4 i hi;rw[hstos i hi,hs] at h1;simp only[Aps,Ap6,Apt] at h1;obtain⟨⟨⟨h2,h3⟩,h4⟩,h5⟩:=h1;rw[hals j _ h2] at h4;rw[hals i _ hi] at h5;rw[Apy,ho,ApE,List.contains_iff_mem] at h3;exact⟨h2,h3,λe=>(by rw[e] at h4;cases h4),(by simpa using h5)⟩
 have L1:∀t q,t<N→(JM sp t).late=some q→q.1<N∧(JM sp q.1).sto=some t:=λt q ht hq=>by
  have h1:=b5 t ht;rw[hlates t ht,hq] at h1;simp only[Option.map_some,Aps,Apt,beq_iff_eq] at h1;obtain⟨⟨h2,h3⟩,h4⟩:=h1;rw[hstos _ h2] at h4;exact⟨h2,h4⟩
 have hops:∀j,j<N→∃o,ops[j]? =some o:=λj hj=>⟨ops[j]'(by omega),Apw (by omega)⟩
 have lt_of:∀(t:Nat) (s:Sa),sp[t]? =some s→t<N∧s=JM sp t:=λt s hs=>by
  have h1:t<N:=by have:=(List.getElem?_eq_some_iff.1 hs).1;omega
  refine⟨h1,?_⟩;rw[hsa t h1] at hs;simpa using hs.symm
 have hdst:∀i o d,i<N→ops[i]? =some o→o.dst=some d→(d<n∧d ∉ Hp l0)∧∀j,j<N→j≠i→Di ops j≠some d:=λi o d hi ho hd=>by
  have h3:=b2 i hi;have:Di ops i=some d:=by simp[Di,ho,hd]
  rw[this] at h3;simp only[Aps,Ap6,ApV,List.mem_range,Apt] at h3;refine⟨⟨h3.1.1,λhmem=>by rw[← List.contains_iff_mem] at hmem;rw[hmem] at h3;cases h3.1.2⟩,λj hj hne he=>?_⟩;have:=h3.2 j hj;simp[hne,he] at this
 refine AaY (N:=N) hm b1 bN (λS a w=>∃ (β:Nat→Nat) (Z:Fz),St c (H++Kj S β sp 0) Z w∧EB n l0 a Z∧(∀j o d,j<N→S j=true→ops[j]? =some o→o.dst=some d→∃v,a.tmps[d]? =some v∧(RH β (JM sp j) j).p Z v)∧
   ∀k j,k<N→(JM sp k).sto=some j→S k=true→S j=true)
  (λS S' a w hS hI=>?_) ⟨λ_=>0,Z,?_,ha.subL hl0,λj o d _ hS=>(by cases hS),λk j _ _ hS=>(by cases hS)⟩ (λS i o a w hi hun ho hb hI K hK=>?_) (λa w hI=>?_)
 ·obtain⟨β,Z,h1,h2,h3,h4⟩:=hI;refine⟨β,Z,?_,h2,λj o d hj hS'=>h3 j o d hj (by rw[hS j hj];exact hS'),λk j hk hs hSk=>?_⟩
  ·rw[← KY (S:=S) (β:=β) (β':=β) sp 0 (λt s hs _=>by
    obtain⟨ht,rfl⟩:=lt_of t s hs;exact⟨hS _ (by omega),λ_=>⟨rfl,λq hq=>hS _ (L1 t q ht hq).1⟩⟩)]
   exact h1
  ·obtain⟨o,ho⟩:=hops k hk;rw[← hS j (S1 k o j hk ho hs).1];exact h4 k j hk hs (by rw[hS k hk];exact hSk)
 ·rw[Xc,ApZ];exact hw.drawn _
 ·obtain⟨β,Z,h1,h2,h3,hx⟩:=hI;have hput:∀k u v,a.tmps[k]? =some u→o.dst≠some k→(a.put o.dst v).tmps[k]? =some u:=λk u v hk hne=>by
   cases hd:o.dst with
   | none=>simpa[Act.put] using hk
   | some d=>
    simp only[Act.put,Array.getElem?_setIfInBounds];rw[ApP (λe=>hne (by rw[hd,e]))];exact hk
  have hagr:∀v Z',Fz.le Z Z'→EB n l0 (a.put o.dst v) Z':=λv Z' hz=>by
   refine⟨?_,?_,λk r hk=>?_⟩
   ·cases o.dst<;>simp[Act.put,h2.size]
   ·cases o.dst<;>simp[Act.put,h2.defers]
   ·obtain⟨u,hu,hpu⟩:=h2.tm k r hk;exact⟨u,hput k u v hu (λe=>((hdst i o k hi ho e).1).2 (NV hk)),r.mono hz hpu⟩
  have hvals:∀(v:Value) (Z':Fz) (β':Nat→Nat),Fz.le Z Z'→(∀j,j≠i→β' j=β j)→(o.dst≠none→(RH β' (JM sp i) i).p Z' v)→∀j o' d,j<N→(j ==i||S j)=true→ops[j]? =some o'→o'.dst=some d→∃u,(a.put o.dst v).tmps[d]? =some u∧(RH β' (JM sp j) j).p Z' u:=by
   intro v Z' β' hz hβ hp j o' d hj hS' ho' hd
   by_cases hji:j=i
   ·subst hji;rw[ho] at ho';simp at ho';subst ho';refine⟨v,?_,hp (by simp[hd])⟩;have hdn:d<a.tmps.size:=by rw[h2.size];exact(hdst j o d hi ho hd).1.1
    simp[Act.put,hd,hdn]
   ·have hSj:S j=true:=by simpa[hji] using hS'
    obtain⟨u,hu,hpu⟩:=h3 j o' d hj hSj ho' hd;refine⟨u,hput d u v hu (λe=>(hdst i o d hi ho e).2 j hj hji (by simp[Di,ho',hd])),?_⟩;have:RH β' (JM sp j) j=RH β (JM sp j) j:=by unfold RH;rw[hβ j hji]
    rw[this];exact(RH β (JM sp j) j).mono hz hpu
  have hx':∀k j,k<N→(JM sp k).sto=some j→(k ==i||S k)=true→(j ==i||S j)=true:=λk j hk hs hSk=>by
   by_cases hki:k=i
   ·subst hki;have:=(hb j (S1 k o j hk ho hs).2.1).2;simp[this]
   ·have:S j=true:=hx k j hk hs (by simpa[hki] using hSk);simp[this]
  have hat:=hob.at i o (by rw[hget i hi];exact ho);rw[ApQ] at hat;unfold ObA at hat;have hag':EB n (CT ops (spq sp) (JM sp i).deps l0) a Z:=OY h2 (λj hj d hd=>by
    have h4:=b3 i hi j (by simpa[Apy,ApI,hsa i hi] using hj);simp only[Aps,Ap6,Apt] at h4;obtain⟨⟨h5,h6⟩,h7⟩:=h4;rw[Apy,ho,ApE,List.contains_iff_mem] at h6;have hjal:(JM sp j).al=none:=by
     rw[hals j _ h5] at h7;simpa using h7
    obtain⟨o2,ho2⟩:=hops j h5;obtain⟨v,hv1,hv2⟩:=h3 j o2 d h5 (hb j h6).2 ho2 (by simpa[Di,ho2] using hd);refine⟨v,hv1,?_⟩;rw[hspq j h5];simpa[RH,hjal] using hv2)
  cases hst:(JM sp i).sto with
  | some j=>
   rw[hst] at hat;obtain⟨hod,d,p,ncs,hd,hal,hlate,hok⟩:=hat;obtain⟨hjN,hjb,_,hial⟩:=S1 i o j hi ho hst;have hSj:=(hb j hjb).2;obtain⟨H',p1,p2⟩:=AaA (S:=S) (β:=β) (i:=i) (j:=j) (p:=p) (ncs:=ncs) sp 0 j (JM sp j) (by omega) (hsa j hjN) hal hlate hSj hun (λt s q hs _ hq hne he=>by
     obtain⟨ht,rfl⟩:=lt_of t s hs;have:=(L1 t q ht hq).2;rw[he,hst] at this;simp at this;omega) (λt s hs hn he=>by
     obtain⟨ht,rfl⟩:=lt_of t s hs;rw[ApQ] at he;subst he;exact hn hial)
   obtain⟨o2,ho2⟩:=hops j hjN;obtain⟨v,hv1,hv2⟩:=h3 j o2 d hjN hSj ho2 (by simpa[Di,ho2] using hd);have hag2:EB n ((d,rv (.pointer (some ⟨β j,0,none⟩)))::CT ops (spq sp) (JM sp i).deps l0) a Z:=⟨hag'.size,hag'.defers,λk r hk=>by
    rw[Dp] at hk
    split at hk
    ·rename_i e;subst e;simp at hk;subst hk
     exact⟨v,hv1,by simpa[RH,hal] using hv2⟩
    ·exact hag'.tm k r hk⟩
   refine hok (β j) (H++H') a w Z K hag2 (h1.perm ((List.Perm.append_left H p1).trans List.perm_middle)) (λv w' Z' hz _ hs'=>hK _ _ ⟨β,Z',?_,hagr v Z' hz,hvals v Z' β hz (λ_ _=>rfl) (λhne=>absurd hod hne),hx'⟩);exact hs'.perm (List.perm_middle.symm.trans (List.Perm.append_left H p2.symm))
  | none=>
   rw[hst] at hat;have latene:∀t q,t<N→(JM sp t).late=some q→q.1≠i:=λt q ht hq he=>by
    have:=(L1 t q ht hq).2;rw[he,hst] at this;cases this
   cases hal:(JM sp i).al with
   | none=>
    rw[hal] at hat;refine hat _ a w Z K hag' h1 (λv w' Z' hz hp hst'=>hK _ _ ⟨β,Z',?_,hagr v Z' hz,hvals v Z' β hz (λ_ _=>rfl) (λ_=>by unfold RH;rw[hal];exact hp),hx'⟩);rw[KY (S':=S) (β':=β) sp 0 (λt s hs hn=>by
     obtain⟨ht,rfl⟩:=lt_of t s hs;have:t≠i:=λe=>by subst e;exact hn hal
     refine⟨by simp[this],λ_=>⟨rfl,λq hq=>?_⟩⟩;have:=latene t q ht hq;simp[this])]
    exact hst'
   | some p=>
    rw[hal] at hat;have key:=λK' hK'=>hat (H++Kj S β sp 0) a w Z K' hag' h1 hK';have h5:∀b w',St c (.blk b p.1 p.2::(H++Kj S β sp 0)) Z w'→K (a.put o.dst (.pointer (some ⟨b,0,none⟩))) w':=λb w' hst'=>by
     refine hK _ _ ⟨λj=>if j=i then b else β j,Z,?_,hagr _ Z (Fz.le.refl _),hvals _ Z _ (Fz.le.refl _) (λj hj=>by simp[hj]) (λ_=>by simp[RH,hal,rv]),hx'⟩;have hp:=AaB (S:=S) (β:=β) (i:=i) (b:=b) (p:=p) sp 0 i (JM sp i) (by omega) (hsa i hi) hal hun (λt s q hs _ hq=>by
      obtain⟨ht,rfl⟩:=lt_of t s hs;exact latene t q ht hq) (λq hq=>by
       refine⟨?_,latene i q hi hq⟩
       cases hS:S q.1 with
       | false=>rfl
       | true=>
        obtain⟨h6,h7⟩:=L1 i q hi hq;have:=hx q.1 i h6 h7 hS;rw[this] at hun;cases hun)
     exact hst'.perm ((List.perm_middle.symm).trans (List.Perm.append_left H hp.symm))
    refine⟨λ_=>(key K h5).2,λhw'=>?_⟩;rw[(key K h5).1] at hw';cases hw'
 ·obtain⟨β,Z,h1,h2,h3,_⟩:=hI;refine h β a w Z (TQ h2 _ _ 0 (λt o s d ht hs hd=>?_)) (by rw[← AaC];exact h1);obtain⟨htN,rfl⟩:=lt_of t s hs;rw[ApQ];exact h3 t o d htN rfl (by rw[← hget t htN];exact ht) hd
end
variable{ty:TypeId}{Q:Exit→Act→World→Prop}{pos:String}{af:Array Edge}
theorem Anl {l:Fr}{P:Program}{n:Nat}{c:Cx}{opsA:Array Oper}{d:Nat}{e:TypeId}{z:Value}{cs:List Rp}(hz:∀w,(zeroValue e).run P w = .ok z w)(hcs:z.cells.toList.map rv=cs) :
  AlY P n c opsA Q l { dst:=some d,op:=.alloc e,type:=ty,pos:=pos,after:=af,guard:=none } (cs,e):=λH a w Z K _ hw hK=>by
 refine⟨by simp[Region.wanted],?_⟩;unfold Oper.wp;rw[show(execOp a.eval { dst:=some d,op:=.alloc e,type:=ty,pos:=pos,after:=af,guard:=none }).run P w = .ok (.value (.pointer (some ⟨w.heap.size,0,none⟩))) (w.alloc (.cells z.cells e)) from by simp[execOp,Instr.alloc,hz,newVar,newRow,newObj,Sem.run,Sem.run_bind]];exact hK _ _ (hw.alloc _ (e:=.blk w.heap.size cs e) ⟨z.cells.toList,by simpa using heap_alloc_new w _,by subst hcs;exact B9.rvs Z _⟩ rfl)
variable{rest all:List Oper}
section
variable {P : Program} {n : Nat} {c : Cx} {opsA : Array Oper} {Q : Exit → Act → World → Prop} {l l0 : Fr} {H : List Ent} {sp : List Sa}
theorem Lc (N:Nat)(ks0:List Nat)(sp:List Sa)(hob:Qx P n c ops.toArray Q ops sp l0 H 0 (ops.take N))(h:∀β,WL P n c ops.toArray Q (ops.drop N) (PD β (ops.take N) sp 0 l0) (H++Afz β sp 0))
  (h0:Kp ks0 l l0:=by repeat (first | exact RX | (apply Pf;rfl) | (apply QY;rfl))) (hm:P.follows .mixedOrders=true:=by kernel_rfl) (hB:okA n ops N (Hp l0) (sp.map (·.deps)) (sp.map (·.al.isSome)) (sp.map (·.late.map (·.1))) (sp.map (·.sto))=true:=by kernel_rfl)
  (hsp:sp.length=N:=by rfl):WC P n c (.region id ops.toArray true) Q l H:=AkT N sp hm hB h0.one hsp hob h
theorem P1 {d:Nat}{op:Op}
  (hr:∀{H},Cd P n c (CT all (spq sp) (JM sp i).deps l0) H { dst:=some d,op:=op,type:=ty,pos:=pos,after:=af,guard:=none } (JM sp i).r) (h:Qx P n c opsA Q all sp l0 H (i+1) rest) (ha:(JM sp i).al=none:=by rfl) (hs:(JM sp i).sto=none:=by rfl) :
  Qx P n c opsA Q all sp l0 H i ({ dst:=some d,op:=op,type:=ty,pos:=pos,after:=af,guard:=none }::rest):=by
 refine⟨?_,h⟩;unfold ObA;rw[hs,ha];exact λ_=>CP hr
theorem V8 {d:Nat}{op:Op}
  (hr:∀{E},Cd P n c (CT all (spq sp) (JM sp i).deps l0) (H++E) { dst:=some d,op:=op,type:=ty,pos:=pos,after:=af,guard:=none } (JM sp i).r) (h:Qx P n c opsA Q all sp l0 H (i+1) rest) (ha:(JM sp i).al=none:=by rfl) (hs:(JM sp i).sto=none:=by rfl) :
  Qx P n c opsA Q all sp l0 H i ({ dst:=some d,op:=op,type:=ty,pos:=pos,after:=af,guard:=none }::rest):=by
 refine⟨?_,h⟩;unfold ObA;rw[hs,ha];exact λ_=>CP hr
theorem oal {p:List Rp×TypeId}(hr:AlY P n c opsA Q (CT all (spq sp) (JM sp i).deps l0) o p)(h:Qx P n c opsA Q all sp l0 H (i+1) rest)(ha:(JM sp i).al=some p:=by rfl)(hs:(JM sp i).sto=none:=by rfl):Qx P n c opsA Q all sp l0 H i (o::rest):=by
 refine⟨?_,h⟩;unfold ObA;rw[hs,ha];exact hr
theorem oae:Qx P n c opsA Q all sp l0 H i []:=trivial
end
structure Kza (ks:List Nat) (β:Nat→Nat) (os:List Oper) (sp:List Sa) (i:Nat) (l0 l1:Fr):Prop where
 go:Kp ks (PD β os sp i l0) l1
section
variable {ks : List Nat} {β : Nat → Nat} {os : List Oper} {sp : List Sa} {i d : Nat} {l0 l1 : Fr} {ds : List Nat} {r : Rp} {p : List Rp × TypeId} {lt : Option (Nat × List Rp)} {so : Option Nat} {op : Op} {ty : TypeId} {pos : String} {af : Array Edge} {g : Option (Nat × Bool)}
theorem AkB (h:ks.contains d=true)(t:Kza ks β os sp (i+1) l0 l1):Kza ks β ({ dst:=some d,op:=op,type:=ty,pos:=pos,after:=af,guard:=g }::os) ({ deps:=ds,r:=r,sto:=so }::sp) i l0 ((d,r)::l1):=⟨Pf h t.go⟩
theorem AkC (h:ks.contains d=true)(t:Kza ks β os sp (i+1) l0 l1):Kza ks β ({ dst:=some d,op:=op,type:=ty,pos:=pos,after:=af,guard:=g }::os) ({ deps:=ds,r:=r,al:=some p,late:=lt,sto:=so }::sp) i l0 ((d,rv (.pointer (some ⟨β i,0,none⟩)))::l1):=⟨Pf h t.go⟩
theorem AkD (t:Kp ks l0 l1):Kza ks β [] [] i l0 l1:=⟨t⟩
theorem AkR {P:Program}{n:Nat}{c:Cx}{opsA:Array Oper}{H H1:List Ent}(ks:List Nat)(h:WL P n c opsA Q rest l1 H1)
  (hz:Kza ks β os sp i l0 l1:=by repeat (first | (apply AkB;rfl) | (apply AkC;rfl) | (apply kza_d;rfl) | apply kza_u | apply AkD | exact RX | (apply Pf;rfl) | (apply QY;rfl))) (hH:H=H1:=by rfl) :
  WL P n c opsA Q rest (PD β os sp i l0) H:=λa w Z ha hw=>h a w Z (ha.subL hz.go.one) (hH▸hw)
end
section
variable {P : Program} {n : Nat} {c : Cx} {opsA : Array Oper} {Q : Exit → Act → World → Prop} {l l0 : Fr} {H : List Ent} {sp : List Sa}
theorem oac (hr:∀{E},EV P n c opsA Q (CT all (spq sp) (JM sp i).deps l0) (H++E) o (JM sp i).r (H++E))(h:Qx P n c opsA Q all sp l0 H (i+1) rest)(ha:(JM sp i).al=none:=by rfl)(hs:(JM sp i).sto=none:=by rfl):Qx P n c opsA Q all sp l0 H i (o::rest):=by
 refine⟨?_,h⟩;unfold ObA;rw[hs,ha];exact λ_=>hr
end
def rBx (p:Bool→Prop):Rp:=⟨λ_ v=>∃b,v = .bool b∧p b,λ_ h=>h,true,λ_ Z v ⟨b,e,_⟩=>by rw[e];rfl⟩
section
variable {P : Program} {n : Nat} {c : Cx} {ops : Array Oper} {Q : Exit → Act → World → Prop} {rest : List Oper} {l : Fr} {H : List Ent} {d : Option Nat} {ty rty t e : TypeId} {pos : String} {af : Array Edge} {g : Option (Nat × Bool)} {r : Rp} {x : Operand} {cx cy : Code} {sz : Nat} {xs : List (List Rp)}
theorem N1 {o:Operand}{p:Bool→Prop}(ho:ev l o=some (rBx p))(h1:p true→WC P n c cx Q l H)(h2:p false→WC P n c cy Q l H):WC P n c (.cond o cx cy) Q l H:=λa w Z ha hw=>by
 obtain⟨b,e,hp⟩:=ha.ev ho;exact wp_cond_split e (λe=>h1 (e▸hp) a w Z ha hw) (λe=>h2 (e▸hp) a w Z ha hw)
theorem OC (ht:P.underlying t=some (.slice e))(h:ev l x=some (B4 sz xs)):Cd P n c l H { dst:=d,op:=.binOp .eql t x (.const (.slice none 0 0)) rty,type:=ty,pos:=pos,after:=af,guard:=g } (rBx (λb=>b=true→xs=[])):=λa w Z ha hw=>by
 obtain⟨A,cap,e1,h1,h2,h3,h4⟩:=ha.ev h;refine⟨.bool A.isNone,⟨_,rfl,λhb=>?_⟩,?_⟩
 ·cases A with
  | some a=>cases hb
  | none=>
   have:=h3 rfl;exact List.length_eq_zero_iff.1 (by omega)
 ·have:=run_equal_slice_nil (P:=P) w t e A xs.length cap ht;have e2:a.eval (.const (.slice none 0 0)) = .slice none 0 0:=rfl;simp[execOp,e1,e2,binOp,this,eqGuard]
end
section
variable {P : Program} {n : Nat} {c : Cx} {l : Fr} {H : List Ent} {d : Option Nat} {ty rty t e : TypeId} {pos : String} {af : Array Edge} {g : Option (Nat × Bool)} {x : Operand} {sz : Nat}
end
theorem K2 (s:ByteArray):MapKept.IsKey .string (.string s):=by simp[MapKept.IsKey]
theorem SC.keys {Z:Fz}:∀{f:List (List UInt8×Rp)} {es:List MapEntry},SC Z f es→∀x∈es,MapKept.IsKey .string x.key
 | [],[],_,x,hx=>by cases hx
 | p::f,e::es,⟨⟨h1,h2⟩,h3⟩,x,hx=>by
  rcases List.mem_cons.1 hx with rfl | hx
  ·rw[h1];exact K2 _
  ·exact SC.keys h3 x hx
theorem SC.at {Z:Fz}:∀{f:List (List UInt8×Rp)} {es:List MapEntry},SC Z f es→f.length=es.length∧∀(j:Nat) (e:MapEntry),es[j]? =some e→∃k r,f[j]? =some (k,r)∧e.key = .string (B k)∧r.p Z e.val
 | [],[],_=>⟨rfl,λj e h=>by simp at h⟩
 | p::f,e::es,⟨⟨h1,h2⟩,h3⟩=>by
  obtain⟨hl,ha⟩:=SC.at h3;refine⟨by simp[hl],λj e' hj=>?_⟩
  cases j with
  | zero=>simp at hj;subst hj;exact⟨p.1,p.2,rfl,h1,h2⟩
  | succ j=>simp at hj;simpa using ha j e' hj
theorem SC.of {Z:Fz}:∀{f:List (List UInt8×Rp)} {es:List MapEntry},f.length=es.length→(∀(j:Nat) (e:MapEntry),es[j]? =some e→∃k r,f[j]? =some (k,r)∧e.key = .string (B k)∧r.p Z e.val)→SC Z f es
 | [],[],_,_=>trivial
 | p::f,e::es,hl,h=>by
  obtain⟨k,r,h1,h2,h3⟩:=h 0 e rfl;simp at h1;subst h1;exact⟨⟨h2,h3⟩,SC.of (by simpa using hl) λj e' hj=>by simpa using h (j+1) e' (by simpa using hj)⟩
 | [],_::_,hl,_=>by simp at hl
 | _::_,[],hl,_=>by simp at hl
theorem SC.snoc {Z:Fz}{k:List UInt8}{r:Rp}{e:MapEntry}(h1:e.key = .string (B k))(h2:r.p Z e.val):∀{f:List (List UInt8×Rp)} {es:List MapEntry},SC Z f es→SC Z (f++[(k,r)]) (es++[e])
 | [],[],_=>⟨⟨h1,h2⟩,trivial⟩
 | p::f,e'::es,⟨h,h3⟩=>⟨h,SC.snoc h1 h2 h3⟩
theorem NS {T:Type}:∀{m:List (Ac×T)} {k:Ac} {r:T},(m.map (·.1)).Nodup→(k,r)∈m→DB m k=some r
 | p::m,k,r,hn,h=>by
  rw[Aqj,List.nodup_cons] at hn;rw[DB];rcases List.mem_cons.1 h with h | h
  ·subst h;rw[Apr rfl];rfl
  ·have hne : ¬ p.1=k:=λe=>hn.1 (by rw[e];exact List.mem_map.2 ⟨(k,r),h,rfl⟩);rw[Apq hne];exact NS hn.2 h
theorem WJ {T:Type}:∀{m:List (Ac×T)} {k:Ac},(∀p∈m,p.1≠k)→DB m k=none
 | [],_,_=>rfl
 | p::m,k,h=>by
  rw[DB,Apq (h p (by simp))];exact WJ λq hq=>h q (by simp[hq])
theorem Ans {a b:List UInt8}(h:B a=B b):a=b:=by
 have:=congrArg ByteArray.toList h
 rwa [La,La] at this
theorem Zf {a b:List UInt8}(h:Value.string (B a) = .string (B b)):a=b:=Ans (by cases h;rfl)
variable{Z:Fz}{ck:Nat}{m:List (List UInt8×Rp)}{es:List MapEntry}
theorem Ad3 (h:JK Z m es ck)(k:List UInt8) :
  (Instr.findNow .string (.string (B k)) es 0=some none∧DB m k=none∧∀p∈m,p.1≠k)∨∃j e r,Instr.findNow .string (.string (B k)) es 0=some (some (j,e.val))∧es[j]? =some e∧e.key = .string (B k)∧DB m k=some r∧r.p Z e.val:=by
 obtain⟨h1,h2,h3,f,h4,h5⟩:=h;obtain⟨hl,ha⟩:=h5.at;rcases MapKept.findNow_spec (K2 (B k)) es 0 h5.keys with⟨q1,q2⟩ | ⟨j,e,q1,q2,q3⟩
 ·have hne:∀p∈m,p.1≠k:=λp hp e=>by
   obtain⟨j,hj⟩:=List.mem_iff_getElem?.1 (h4.symm.subset hp);have hjl:j<es.length:=by rw[← hl];exact(List.getElem?_eq_some_iff.1 hj).1
   obtain⟨k',r',e1,e2,_⟩:=ha j es[j] (Apw hjl);rw[hj] at e1;cases e1;exact q2 es[j] (List.getElem_mem hjl) (by rw[e2,← e])
  exact .inl ⟨q1,WJ hne,hne⟩
 ·obtain⟨k',r,e1,e2,e3⟩:=ha j e q2;rw[q3] at e2;obtain rfl:=Zf e2;exact .inr ⟨j,e,r,by simpa using q1,q2,q3,NS h1 (h4.subset (Ap4 e1)),e3⟩
variable{r:Rp}{w:World}
section
variable {P : Program} {n : Nat} {c : Cx} {ops : Array Oper} {Q : Exit → Act → World → Prop} {rest : List Oper} {l : Fr} {H : List Ent} {d : Nat} {d' : Option Nat} {ty t kt et rty : TypeId} {pos : String} {af : Array Edge} {g : Option (Nat × Bool)} {x y u : Operand} {K : Act → World → Prop} {cx : Code}
variable {T : Type} {enc : T → Rp} {xs : List (Ac × T)} {z : T} {k : Ac} {zv : Value} {i b : Nat}
theorem Pu {rz:Rp}(ht:P.underlying t=some (.map kt et))(hk:P.underlying kt=some .string)(hz:∀w,(zeroValue et).run P w = .ok zv w)(hzr:rz.p Z zv)(hm:(Ent.map b m).holds Z w)(ok:Bool) :
  ∃v,((DB m k).getD rz).p Z v∧(Instr.lookup t (.map (some b)) (.string (B k)) ok).run P w = .ok (if ok then .tuple #[v,.bool (DB m k).isSome] else v) w:=by
 obtain⟨es,ck,h1,h2⟩:=hm;rcases Ad3 h2 k with⟨q1,q2,_⟩ | ⟨j,e,r,q1,_,_,q2,q3⟩
 ·exact⟨zv,by rw[q2];exact hzr,by simp[Instr.lookup,run_underlying ht,MapKept.run_getObj_map h1,MapKept.run_checkKey hk (K2 _),MapKept.run_findKey hk q1,hz,q2]⟩
 ·exact⟨e.val,by rw[q2];exact q3,by simp[Instr.lookup,run_underlying ht,MapKept.run_getObj_map h1,MapKept.run_checkKey hk (K2 _),MapKept.run_findKey hk q1,q2]⟩
theorem Aa4 (enc:T→Rp)(xs:List (Ac×T))(k:Ac)(z:T):(DB (BC enc xs) k).getD (enc z)=enc (Gc xs k z):=by
 rw[QU];unfold Gc;cases DB xs k<;>rfl
theorem AbO (enc:T→Rp)(xs:List (Ac×T))(k:Ac):(DB (BC enc xs) k).isSome=Du xs k:=by
 rw[QU];unfold Du;cases DB xs k<;>rfl
theorem Ada (ht:P.underlying t=some (.map kt et))(hk:P.underlying kt=some .string)(hz:∀w,(zeroValue et).run P w = .ok zv w)(hzr:∀Z,(enc z).p Z zv)(hx:ev l x=some (rv (.map (some b))))(hi:H[i]? =some (.map b (BC enc xs)))(hy:ev l y=some (rS k)) :
  Cd P n c l H { dst:=d',op:=.lookup t x y true,type:=ty,pos:=pos,after:=af,guard:=g } (DW [enc (Gc xs k z),rB (Du xs k)]):=λa w Z ha hw=>by
 obtain⟨v,h1,h2⟩:=Pu (k:=k) ht hk hz (hzr Z) (hw.ent hi) true;rw[Aa4] at h1;refine⟨.tuple #[v,.bool (Du xs k)],⟨[v,.bool (Du xs k)],rfl,h1,rfl,trivial⟩,?_⟩;rw[AbO] at h2;simp[execOp,ha.eval hx,ha.eval hy,h2]
theorem Ahi (ht:P.underlying t=some (.map kt et))(hk:P.underlying kt=some .string)(hz:∀w,(zeroValue et).run P w = .ok zv w)(hzr:∀Z,(enc z).p Z zv)(hx:ev l x=some (rv (.map (some b))))(hi:H[i]? =some (.map b (BC enc xs)))(hy:ev l y=some (rS k)) :
  Cd P n c l H { dst:=d',op:=.lookup t x y false,type:=ty,pos:=pos,after:=af,guard:=g } (enc (Gc xs k z)):=λa w Z ha hw=>by
 obtain⟨v,h1,h2⟩:=Pu (k:=k) ht hk hz (hzr Z) (hw.ent hi) false;rw[Aa4] at h1;simp only[ApL,Aqe] at h2;exact⟨v,h1,by simp[execOp,ha.eval hx,ha.eval hy,h2]⟩
theorem JK.length (h:JK Z m es ck):es.length=m.length:=by
 obtain⟨_,_,_,f,h4,h5⟩:=h;rw[← h5.at.1,h4.length_eq]
theorem Ahh {N:Nat}(ht:P.underlying t=some (.map kt et))(hx:ev l x=some (rv (.map (some b))))(hi:H[i]? =some (.map b m))(hN:m.length=N) :
  Cd P n c l H { dst:=d',op:=.call { callee:=.builtin .len,args:=#[x],argTypes:=#[t] },type:=ty,pos:=pos,after:=af,guard:=g } (rI .i64 N):=λa w Z ha hw=>Ev<|by
 obtain⟨es,ck,h1,h2⟩:=hw.ent hi;have hl:es.size=N:=by rw[← hN,← h2.length];simp
 simp[execOp,resolve,invoke,builtin,ha.eval hx,Builtin.len_,run_underlying ht,goInt,MapKept.run_getObj_map h1,hl]
theorem Ahg {v:Option Nat}(ht:P.underlying t=some (.map kt et))(hx:ev l x=some (rv (.map v))):Cd P n c l H { dst:=d',op:=.binOp .eql t x (.const (.map none)) rty,type:=ty,pos:=pos,after:=af,guard:=g } (rB v.isNone):=λa w Z ha hw=>Ev<|by
 have e2:a.eval (.const (.map none)) = .map none:=rfl;have h:=run_equal_map_nil (P:=P) w t kt et v ht;simp[execOp,ha.eval hx,e2,eqGuard,binOp,h]
theorem R3 (hn:Nat.blt d n=true)(h:∀b,WL P n c ops Q rest ((d,rv (.map (some b)))::l) (.map b []::H)) :
  WL P n c ops Q ({ dst:=some d,op:=.makeMap t none,type:=ty,pos:=pos,after:=af,guard:=none }::rest) l H:=
 Pd (λa w Z ha hw=>⟨_,w.alloc (.map #[] 0),_,_,Z,by simp[execOp,run_makeMap],Fz.le.refl _,rfl,
  hw.alloc _ (e:=.map w.heap.size []) ⟨#[],0,by simpa using heap_alloc_new w _,by simp,by simp,by simp,[],Ap3 _,trivial⟩ rfl,h w.heap.size⟩) hn
theorem AgU {m f:List (Ac×Rp)}(h:f.Perm m)(k:Ac)(r:Rp):(mput f k r).Perm (mput m k r):=h.map _
theorem Adf {T:Type}:∀{f:List (Ac×T)} {j:Nat} {k:Ac} {r0:T} (r:T),(f.map (·.1)).Nodup→f[j]? =some (k,r0)→mput f k r=f.set j (k,r)
 | p::f,0,k,r0,r,hn,h=>by
  simp at h;subst h;rw[Aqj,List.nodup_cons] at hn;have:mput f k r=f:=by
   unfold mput;rw[List.map_congr_left (g:=id) (λq hq=>?_),List.map_id];have hne : ¬ q.1=k:=λe=>hn.1 (by rw[← e];exact List.mem_map.2 ⟨q,hq,rfl⟩);rw[Apq hne];rfl
  show(bif decide (k=k) then(k,r) else(k,r0))::mput f k r=_;rw[Apr rfl,this];rfl
 | p::f,j+1,k,r0,r,hn,h=>by
  rw[Aqj,List.nodup_cons] at hn;simp at h;have hne : ¬ p.1=k:=λe=>hn.1 (by rw[e];exact List.mem_map.2 ⟨(k,r0),Ap4 h,rfl⟩);show(bif decide (p.1=k) then(k,r) else p)::mput f k r=_;rw[Apq hne,Adf r hn.2 h];rfl
theorem AeY {T:Type}(m:List (Ac×T))(k:Ac)(r:T):(mput m k r).map (·.1)=m.map (·.1):=by
 unfold mput;rw[Aqo];refine List.map_congr_left λp _=>?_;simp only[Function.comp]
 by_cases h:p.1=k
 ·rw[Apr h];exact h.symm
 ·rw[Apq h];rfl
theorem AeZ {T:Type}{m:List (Ac×T)}{k:Ac}{r:T}(h:DB m k=some r):Du m k=true:=by unfold Du;rw[h];rfl
theorem Afa {T:Type}{m:List (Ac×T)}{k:Ac}(h:DB m k=none):Du m k=false:=by unfold Du;rw[h];rfl
theorem JK.put {m:List (Ac×Rp)}{j:Nat}{e:MapEntry}{k:Ac}{r0:Rp}{v:Value}(h:JK Z m es ck)(he:es[j]? =some e)(hk:e.key = .string (B k))(hm:DB m k=some r0)(hr:r.p Z v) :
  JK Z (mset m k r) (es.set j { e with key:=.string (B k),val:=v }) ck:=by
 obtain⟨h1,h2,h3,f,h4,h5⟩:=h;obtain⟨hl,ha⟩:=h5.at;have hjl:=(List.getElem?_eq_some_iff.1 he).1;unfold mset;rw[AeZ hm,Ap1];obtain⟨k',r',e1,e2,_⟩:=ha j e he;rw[hk] at e2;obtain rfl:=Zf e2;have hfn:(f.map (·.1)).Nodup:=(h4.map (·.1)).nodup_iff.2 h1;refine⟨by rw[AeY];exact h1,?_,?_,f.set j (k,r),?_,SC.of (by simp[hl]) λi x hx=>?_⟩
 ·rw[List.map_set];have:(es.map (·.born)).set j e.born=es.map (·.born):=by
   apply List.ext_getElem?;intro i;rw[Aqs]
   split
   ·rename_i hij;subst hij
    simp[hjl,List.getElem?_eq_some_iff.1 he |>.2]
   ·rfl
  show((es.map (·.born)).set j e.born).Nodup;rw[this];exact h2
 ·intro x hx;rcases List.mem_or_eq_of_mem_set hx with hx | rfl
  ·exact h3 x hx
  ·exact h3 e (Ap4 he)
 ·have:=AgU h4 k r
  rwa [Adf r hfn e1] at this
 ·rw[Aqs] at hx ⊢
  split at hx
  ·rename_i hij;subst hij
   cases hx
   exact⟨k,r,by rw[ApW rfl,ApW (by rw[hl];exact hjl)],rfl,hr⟩
  ·rename_i hij
   rw[ApP hij];exact ha i x hx
theorem JK.ins {m:List (Ac×Rp)}{k:Ac}{v:Value}(h:JK Z m es ck)(hm:DB m k=none)(hk:∀p∈m,p.1≠k)(hr:r.p Z v) :
  JK Z (mset m k r) (es++[{ key:=.string (B k),val:=v,born:=ck }]) (ck+1):=by
 obtain⟨h1,h2,h3,f,h4,h5⟩:=h;unfold mset;rw[Afa hm,Apv];have hp:=OK k r m;refine⟨?_,?_,?_,f++[(k,r)],?_,SC.snoc rfl hr h5⟩
 ·rw[(hp.map (·.1)).nodup_iff,Aqj,List.nodup_cons];exact⟨λhx=>by obtain⟨p,hp,e⟩:=List.mem_map.1 hx;exact hk p hp e,h1⟩
 ·rw[List.map_append,List.nodup_append];refine⟨h2,by simp,λa ha b hb e=>?_⟩;simp at hb;subst hb;obtain⟨x,hx,e'⟩:=List.mem_map.1 ha;have:=h3 x hx;omega
 ·intro x hx;rcases List.mem_append.1 hx with hx | hx
  ·have:=h3 x hx;omega
  ·simp at hx;subst hx;exact Apu _
 ·exact(List.perm_append_comm (l₁:=f) (l₂:=[(k,r)])).trans ((h4.cons (k,r)).trans hp.symm)
theorem St.mapset (h:St c H Z w){m m':List (Ac×Rp)}(hi:H[i]? =some (.map b m)){es es':Array MapEntry}{ck':Nat}(h1:w.heap[b]? =some (.map es ck))(h2:JK Z m' es'.toList ck') :
  St c (H.set i (.map b m')) Z { w with heap:=w.heap.setIfInBounds b (.map es' ck') }:=by
 obtain⟨q1,q2⟩:=MapKept.heap_set (o':=.map es' ck') h1;exact h.set hi rfl rfl rfl (by simp) (λk _ hk=>q2 k (by simpa[Ent.foot] using hk)) ⟨es',ck',q1,h2⟩ (by simp[Ent.foot])
theorem X5 (s:ByteArray):Instr.sameBits 10000 (.string s) (.string s)=true:=by
 show(s ==s)=true;exact(MapKept.bytes_beq s s).2 rfl |> λh=>by simpa using h
theorem AkX {m:List (Ac×Rp)}(ht:P.underlying t=some (.map kt et))(hk:P.underlying kt=some .string)(hx:ev l x=some (rv (.map (some b))))(hi:H[i]? =some (.map b m))(hy:ev l y=some (rS k))(hu:ev l u=some r){H':List Ent}(hH:H.set i (.map b (mset m k r))=H')(h:WL P n c ops Q rest l H') :
  WL P n c ops Q ({ dst:=none,op:=.mapUpdate t x y u,type:=ty,pos:=pos,after:=af,guard:=none }::rest) l H:=
 AiF λa w Z ha hw=>by
  obtain⟨es,ck,h1,h2⟩:=hw.ent hi;have hv:=ha.ev hu;subst hH;rcases Ad3 h2 k with⟨q1,q2,q3⟩ | ⟨j,e,r0,q1,q2,q3,q4,_⟩
  ·refine⟨_,_,?_,hw.mapset hi h1 (es':=es.push { key:=.string (B k),val:=a.eval u,born:=ck }) (by simpa using h2.ins q2 q3 hv),h⟩;simp[execOp,ha.eval hx,ha.eval hy,Instr.mapUpdate,run_underlying ht,MapKept.run_getObj_map h1,MapKept.run_checkKey hk (K2 _),MapKept.run_findKey hk q1,MapKept.run_setObj_map _ h1]
  ·have hje:es[j]? =some e:=by simpa using q2
   refine⟨_,_,?_,hw.mapset hi h1 (es':=es.modify j λe=>{ e with key:=.string (B k),val:=a.eval u }) (ck':=ck) (by
    have:=h2.put q2 q3 q4 hv;have e1:(es.modify j λe=>{ e with key:=.string (B k),val:=a.eval u }).toList=es.toList.set j { e with key:=.string (B k),val:=a.eval u }:=by
     rw[Array.toList_modify];rw[List.modify_eq_set,q2];rfl
    rw[e1];exact this),h⟩
   have hkey:((es[j]?).map (·.key)).getD (.string (B k)) = .string (B k):=by rw[hje];exact q3
   simp[execOp,ha.eval hx,ha.eval hy,Instr.mapUpdate,run_underlying ht,MapKept.run_getObj_map h1,MapKept.run_checkKey hk (K2 _),MapKept.run_findKey hk q1,MapKept.run_setObj_map _ h1,hkey,Instr.keyThatStays,X5]
theorem T4 {v:T}(ht:P.underlying t=some (.map kt et))(hk:P.underlying kt=some .string)(hx:ev l x=some (rv (.map (some b))))(hi:H[i]? =some (.map b (BC enc xs)))(hy:ev l y=some (rS k))(hu:ev l u=some (enc v)){H':List Ent}(hH:H.set i (.map b (BC enc (mset xs k v)))=H')(h:WL P n c ops Q rest l H') :
  WL P n c ops Q ({ dst:=none,op:=.mapUpdate t x y u,type:=ty,pos:=pos,after:=af,guard:=none }::rest) l H:=AkX ht hk hx hi hy hu (by rw[← Ahr];exact hH) h
end
theorem Rq {q:MapEntry→Bool}:∀{l:List MapEntry} {j:Nat} {e:MapEntry},(l.map (·.born)).Nodup→l[j]? =some e→l.filter (λx=>!(x.born ==e.born))=l.eraseIdx j
 | x::l,0,e,hn,h=>by
  simp at h;subst h;rw[Aqj,List.nodup_cons] at hn;rw[List.filter_cons_of_neg (by simp),List.filter_eq_self.2 λy hy=>?_];rfl;have:y.born≠x.born:=λe=>hn.1 (by rw[← e];exact List.mem_map.2 ⟨y,hy,rfl⟩);simp[this]
 | x::l,j+1,e,hn,h=>by
  rw[Aqj,List.nodup_cons] at hn;simp at h;have hne:x.born≠e.born:=λe'=>hn.1 (by rw[e'];exact List.mem_map.2 ⟨e,Ap4 h,rfl⟩);rw[List.filter_cons_of_pos (by simp[hne]),Rq (q:=q) hn.2 h];rfl
theorem SC.erase {Z:Fz}:∀{f:List (List UInt8×Rp)} {es:List MapEntry} (j:Nat),SC Z f es→SC Z (f.eraseIdx j) (es.eraseIdx j)
 | [],[],j,_=>by simp[SC]
 | p::f,e::es,0,⟨_,h⟩=>h
 | p::f,e::es,j+1,⟨h,h3⟩=>⟨h,SC.erase j h3⟩
theorem AcS {α:Type}:∀{l:List α} {j:Nat} {a:α},l[j]? =some a→l.Perm (a::l.eraseIdx j)
 | x::l,0,a,h=>by simp at h;subst h;exact Ap3 _
 | x::l,j+1,a,h=>by
  simp at h;exact((AcS h).cons x).trans (List.Perm.swap a x _)
theorem AgV {T:Type}{enc:T→Rp}{ys:List (Ac×T)}{f:List (Ac×Rp)}{j:Nat}{k:Ac}(h:f.Perm (BC enc ys))(hj:f[j]? =some (k,r)):∃ (p:Ac×T) (ys':List (Ac×T)),ys.Perm (p::ys')∧p.1=k∧enc p.2=r∧(f.eraseIdx j).Perm (BC enc ys'):=by
 have hm:(k,r)∈BC enc ys:=h.subset (Ap4 hj);obtain⟨p,hp,e⟩:=List.mem_map.1 hm;simp only[Prod.mk.injEq] at e;obtain⟨a,b,rfl⟩:=List.append_of_mem hp;refine⟨p,a++b,List.perm_middle,e.1,e.2,?_⟩;have h1:f.Perm ((k,r)::f.eraseIdx j):=by
  exact AcS hj
 have h2:(BC enc (a++p::b)).Perm ((k,r)::BC enc (a++b)):=by
  have:(BC enc (a++p::b)).Perm (BC enc (p::(a++b))):=List.perm_middle.map _;refine this.trans ?_;show((p.1,enc p.2)::BC enc (a++b)).Perm _;rw[e.1,e.2]
 exact((h1.symm.trans h).trans h2).cons_inv
section
variable {P : Program} {n : Nat} {c : Cx} {ops : Array Oper} {Q : Exit → Act → World → Prop} {rest : List Oper} {l : Fr} {H : List Ent} {d : Nat} {ty t kt et rty : TypeId} {pos : String} {af : Array Edge} {x y u : Operand} {K : Act → World → Prop} {cx : Code}
variable {T : Type} {enc : T → Rp} {xs ys : List (Ac × T)} {i b it : Nat} {m lf : List (List UInt8 × Rp)} {cur : Option (List UInt8 × Rp)} {k : Ac} {r : Rp}
theorem AiK (ht:P.underlying t=some (.map kt et))(hx:ev l x=some (rv (.map (some b))))(hi:H[i]? =some (.map b m))(hn:Nat.blt d n=true)(h:∀it,WL P n c ops Q rest ((d,rv (.pointer (some ⟨it,0,none⟩)))::l) (H.set i (.mit b it m m none))) :
  WL P n c ops Q ({ dst:=some d,op:=.range t x,type:=ty,pos:=pos,after:=af,guard:=none }::rest) l H:=
 Pd (λa w Z ha hw=>by
  obtain⟨es,ck,h1,h2⟩:=hw.ent hi;have hb:b<w.heap.size:=(Array.getElem?_eq_some_iff.1 h1).1;have hf:es.toList.filter (λe=>!(#[]:Array Nat).contains e.born)=es.toList:=List.filter_eq_self.2 λ_ _=>by simp
  obtain⟨f,h4,h5⟩:=h2.2.2.2;refine⟨.pointer (some ⟨w.heap.size,0,none⟩),w.alloc (.mapIter (some b) ck #[] ck),_,_,Z,?_,Fz.le.refl _,rfl,hw.set hi rfl rfl rfl (by simp) (λk hk _=>Below.heap_alloc w _ k hk) ?_ ?_,h w.heap.size⟩
  ·simp[execOp,ha.eval hx,run_range_map w t kt et b es ck ht h1]
  ·exact⟨es,ck,#[],ck,ck,(Below.heap_alloc w _ b hb).trans h1,by simpa using heap_alloc_new w _,h2,h2.2.2.1,Ap8 _,Ap8 _,Nat.ne_of_lt hb,⟨f,h4,by rw[hf];exact h5⟩,trivial⟩
  ·intro k hk;simp only[Ent.foot,Aqb,List.not_mem_nil,or_false] at hk;rcases hk with rfl | rfl
   ·exact .inl (by simp[Ent.foot])
   ·exact .inr (Ap8 _)) hn
theorem AkU (hx:ev l x=some (rv (.pointer (some ⟨it,0,none⟩))))(hi:H[i]? =some (.mit b it m (BC enc ys) cur))(hn:Nat.blt d n=true)
  (h0:ys=[]→WL P n c ops Q rest ((d,DW [rB false])::l) H)
  (h1:∀p ys',ys.Perm (p::ys')→WL P n c ops Q rest ((d,DW [rB true,rS p.1,enc p.2])::l) (H.set i (.mit b it m (BC enc ys') (some (p.1,enc p.2))))) :
  WL P n c ops Q ({ dst:=some d,op:=.next x false,type:=ty,pos:=pos,after:=af,guard:=none }::rest) l H:=
 Pd (λa w Z ha hw=>by
  obtain⟨es,ck,seen,since,c0,q1,q2,q3,q4,q5,q6,q7,⟨f,q8,q9⟩,_⟩:=hw.ent hi;have hlf:(leftOf es seen).toList=es.toList.filter λe=>!seen.contains e.born:=by simp[leftOf]
  rcases run_next_at (P:=P) w ty it b since c0 seen es ck q2 q1 q4 q5 with⟨r1,r2⟩ | ⟨e,r1,w1,r2,r3⟩
  ·have he:es.toList.filter (λe=>!seen.contains e.born)=[]:=by rw[← hlf];exact ApK (by simpa using r1)
   rw[he] at q9;have hf:f=[]:=by cases f with
    | nil=>rfl
    | cons _ _=>exact absurd q9 id
   subst hf;have hy:ys=[]:=by
    have:=q8.length_eq;rw[NU] at this;exact ApK this.symm
   exact⟨.tuple #[.bool false],w,DW [rB false],H,Z,by simp[execOp,ha.eval hx,r2],Fz.le.refl _,⟨[.bool false],rfl,rfl,trivial⟩,hw,h0 hy⟩
  ·rw[hlf] at r1;obtain⟨j,hj⟩:=List.mem_iff_getElem?.1 r1;obtain⟨k,r,e1,e2,e3⟩:=q9.at.2 j e hj;obtain⟨p,ys',s1,s2,s3,s4⟩:=AgV q8 e1;have hnl:((es.toList.filter λe=>!seen.contains e.born).map (·.born)).Nodup:=q3.2.1.sublist ((List.filter_sublist ..).map _);have hleft:es.toList.filter (λx=>!(seen.push e.born).contains x.born)=(es.toList.filter λe=>!seen.contains e.born).eraseIdx j:=by
    rw[← Rq (q:=λ_=>true) hnl hj,List.filter_filter];refine List.filter_congr λx _=>?_;simp only[Array.contains_push,Bool.not_or];rw[Bool.and_comm]
   have hd:St c H Z w1:=by
    rcases r2 with rfl | rfl
    ·exact hw
    ·exact hw.drawn _
   have q2':w1.heap[it]? =some (.mapIter (some b) since seen c0):=by rcases r2 with rfl | rfl<;>exact q2
   have q1':w1.heap[b]? =some (.map es ck):=by rcases r2 with rfl | rfl<;>exact q1
   obtain⟨t1,t2⟩:=MapKept.heap_set (o':=.mapIter (some b) since (seen.push e.born) ck) q2';refine⟨.tuple #[.bool true,e.key,e.val],ChangeMaps.setBlock w1 it (.mapIter (some b) since (seen.push e.born) ck),DW [rB true,rS p.1,enc p.2],H.set i (.mit b it m (BC enc ys') (some (p.1,enc p.2))),Z,by simp[execOp,ha.eval hx,r3],Fz.le.refl _,⟨[.bool true,e.key,e.val],rfl,rfl,?_,?_,trivial⟩,hd.set hi rfl rfl rfl (by simp[ChangeMaps.setBlock]) (λk' _ hk'=>t2 k' (λe'=>hk' (by simp[Ent.foot,e']))) ?_ (λk' hk'=>.inl (by simpa[Ent.foot] using hk')),h1 p ys' s1⟩
   ·show e.key = .string (B p.1);rw[s2];exact e2
   ·rw[s3];exact e3
   ·exact⟨es,ck,seen.push e.born,since,ck,(t2 b q7).trans q1',t1,q3,q4,Nat.le_trans q5 q6,Ap8 _,q7,⟨f.eraseIdx j,s4,by rw[hleft];exact q9.erase j⟩,rfl,seen,e,rfl,(List.mem_filter.1 r1).1,by rw[s2];exact e2,by rw[s3];exact e3⟩) hn
theorem St.unmit (h:St c H Z w)(hi:H[i]? =some (.mit b it m lf cur)):St c (H.set i (.map b m)) Z w:=by
 obtain⟨es,ck,seen,since,c0,q1,q2,q3,_⟩:=h.ent hi;exact h.set hi rfl rfl rfl (Ap8 _) (λ_ _ _=>rfl) ⟨es,ck,q1,q3⟩ (by simp[Ent.foot])
theorem WK.unmit (hi:H[i]? =some (.mit b it m lf cur))(h:WK n c K l (H.set i (.map b m))):WK n c K l H:=λa w Z ha hw=>h a w Z ha (hw.unmit hi)
theorem WC.unmit (hi:H[i]? =some (.mit b it m lf cur))(h:WC P n c cx Q l (H.set i (.map b m))):WC P n c cx Q l H:=λa w Z ha hw=>h a w Z ha (hw.unmit hi)
theorem WL.unmit (hi:H[i]? =some (.mit b it m lf cur))(h:WL P n c ops Q rest l (H.set i (.map b m))):WL P n c ops Q rest l H:=λa w Z ha hw=>h a w Z ha (hw.unmit hi)
theorem St.uncur (h:St c H Z w)(hi:H[i]? =some (.mit b it m lf cur)):St c (H.set i (.mit b it m lf none)) Z w:=by
 obtain⟨es,ck,seen,since,c0,q1,q2,q3,q4,q5,q6,q7,q8,_⟩:=h.ent hi;exact h.set hi rfl rfl rfl (Ap8 _) (λ_ _ _=>rfl) ⟨es,ck,seen,since,c0,q1,q2,q3,q4,q5,q6,q7,q8,trivial⟩ (λk hk=>.inl (by simpa[Ent.foot] using hk))
theorem WK.uncur (hi:H[i]? =some (.mit b it m lf cur))(h:WK n c K l (H.set i (.mit b it m lf none))):WK n c K l H:=λa w Z ha hw=>h a w Z ha (hw.uncur hi)
theorem Ajz {dd:Option Nat}{g:Option (Nat×Bool)}(hx:ev l x=some (rv (.pointer (some ⟨it,0,none⟩))))(hi:H[i]? =some (.mit b it m lf (some (k,r)))) :
  Cd P n c l H { dst:=dd,op:=.entry x,type:=ty,pos:=pos,after:=af,guard:=g } (DW [rS k,r]):=λa w Z ha hw=>by
 obtain⟨es,ck,seen,since,c0,q1,q2,q3,q4,q5,q6,q7,q8,rfl,s0,e,rfl,h1,h2,h3⟩:=hw.ent hi;exact⟨.tuple #[e.key,e.val],⟨[e.key,e.val],rfl,h2,h3,trivial⟩,by simp[execOp,ha.eval hx,run_entry_at w it b since s0 es c0 e q2 q1 h1 q3.2.1]⟩
end
variable{Hr:List Ent}{rs:List Rp}{args:List Operand}{Hin:List Ent}{ats:Array TypeId}
section
variable {P : Program} {n : Nat} {c : Cx} {opsA : Array Oper} {Q : Exit → Act → World → Prop} {l : Fr} {H : List Ent} {d : Nat} {ty : TypeId} {pos : String} {af : Array Edge}
theorem Aha {f:FuncId}{Hout:List Ent}(hcall:∀(as1:Array Value) (w:World),(callFunc f as1).run P w = .ok (.enter f as1) w)(hv:Ph l args=some rs)
  (hp:H.Perm (Hin++Hr)) (hc:Fn P c.E f rs Hin (λr' H'=>r'=r∧H'=Hout)) {H':List Ent} (hH:Hout++Hr=H'):EV P n c opsA Q l H { dst:=some d,op:=.call { callee:=.value (.func f),args:=args.toArray,argTypes:=ats },type:=ty,pos:=pos,after:=af,guard:=none } r H':=λa w Z K ha hw hK=>
 ⟨λ_=>by
  subst hH;unfold Oper.wp;rw[Ha rfl hcall w];refine(hc w Z _ (H6 ha hv) (hw.perm hp).enter).mono ?_;rintro e w' ⟨r2,v,Ho,Z',rfl,⟨rfl,rfl⟩,hr2,hs⟩;exact hK v w' Z' hs.le hr2 ((hw.perm hp).call hs),λh=>by simp[Region.wanted] at h⟩
theorem QO {f:FuncId}(hcall:∀(as1:Array Value) (w:World),(callFunc f as1).run P w = .ok (.enter f as1) w)(hv:Ph l args=some rs)
  (hp:H.Perm (Hin++Hr)) (hc:Fn P c.E f rs Hin (λr' H'=>r'=r∧H'=Hin)):EV P n c opsA Q l H { dst:=some d,op:=.call { callee:=.value (.func f),args:=args.toArray,argTypes:=ats },type:=ty,pos:=pos,after:=af,guard:=none } r H:=λa w Z K ha hw hK=>
 Aha (Hout:=Hin) hcall hv hp hc rfl a w Z K ha hw (λv w' Z' hz hr hs=>hK v w' Z' hz hr (hs.perm hp.symm))
end
variable{enc:α→List Rp}
section
variable {P : Program} {n : Nat} {c : Cx} {ops : Array Oper} {Q : Exit → Act → World → Prop} {rest : List Oper} {l : Fr} {H H' : List Ent} {d : Nat} {d' : Option Nat} {x y z3 : Operand} {ty t t' e : TypeId} {pos : String} {af : Array Edge} {g : Option (Nat × Bool)} {v u : Value} {r : Rp} {sz : Nat}
theorem PZ {k':IntKind}{j:Int}(ht:P.underlying t=some (.slice e))(hz:∀w,(sizeOf e).run P w = .ok sz w)(h:ev l x=some (B4 sz (ys.map enc)))(hj:ev l z3=some (rI k' j))(hg2:IG j (ys.length:Int)=true) :
  Cd P n c l H { dst:=d',op:=.slice t x none (some z3) none,type:=ty,pos:=pos,after:=af,guard:=g } (B4 sz ((ys.take j.toNat).map enc)):=λa w Z ha hw=>by
 obtain⟨A,cap,e1,hc1,hc2,hA,hc⟩:=ha.ev h;have h2:=(Gg hg2).2;have hj0:0≤j:=(Gg hg2).1;simp only[Ap9] at e1 hc1;have h3:j≤(cap:Int):=by omega
 refine⟨.slice (if cap=0 then A else A.map (·.add (0*sz))) j.toNat cap,⟨if cap=0 then A else A.map (·.add (0*sz)),cap,?_,?_,by omega,?_,λq cl hq=>?_⟩,by simp[execOp,e1,ha.eval hj,Instr.sliceAt,Instr.slice,run_underlying ht,Instr.sliceBounds,Ds (m:=cap) _ _ hj0 h3,hz]⟩
 ·congr 1
  simp;omega
 ·simp;omega
 ·intro hn
  split at hn
  ·have:=hA hn;omega
  ·have:=hA (by simpa using hn);omega
 ·rw[ApI] at hq
  cases hq':(List.take j.toNat ys)[q]? with
  | none=>rw[hq'] at hq;cases hq
  | some yy=>
   rw[hq'] at hq;simp only[Option.map_some,Option.some.injEq] at hq;subst hq;rw[ApS] at hq'
   split at hq'
   ·rename_i hlt
    obtain⟨hl,ad,rfl,hs,hcs⟩:=hc q (enc yy) (by simp[hq']);obtain⟨b,off,spot⟩:=ad;simp only at hs;subst hs;have hne : ¬ cap=0:=by omega
    refine⟨hl,⟨b,off+0*sz,none⟩,by simp[hne,Pi],rfl,λq' r' hr'=>?_⟩;obtain⟨u,hu,hp⟩:=hcs q' r' hr';refine⟨u,?_,hp⟩;have:off+0*sz+(q*sz+q')=off+(q*sz+q'):=by omega
    simp only;rw[this];exact hu
   ·cases hq'
end
theorem B9.d6 {r0 r1 r2 r3 r4 r5:Rp}{us:List Value}(h:B9 Z [r0,r1,r2,r3,r4,r5] us):∃y0 y1 y2 y3 y4 y5,us=[y0,y1,y2,y3,y4,y5]∧B9 Z [r0,r1,r2,r3,r4,r5] [y0,y1,y2,y3,y4,y5]:=by
 match us,h.length with
 | [y0,y1,y2,y3,y4,y5],_=>exact⟨_,_,_,_,_,_,rfl,h⟩
theorem Aa8 {α:Type}{sz:Nat}:∀{xs:List (List α)} (hs:∀c∈xs,c.length=sz) {k:Nat} {cl:List α},xs[k]? =some cl→∀(off m:Nat),off+m≤sz→((xs.flatten).drop (k*sz+off)).take m=(cl.drop off).take m
 | [],_,k,cl,h,_,_,_=>by simp at h
 | x::r,hs,0,cl,h,off,m,hm=>by
  simp at h;subst h;have hx:=hs x (by simp);simp only[List.flatten_cons,Nat.zero_mul,ApQ];rw[List.drop_append_of_le_length (by omega),List.take_append_of_le_length (by simp;omega)]
 | x::r,hs,k+1,cl,h,off,m,hm=>by
  have hx:=hs x (by simp);simp only[List.flatten_cons];have e:(k+1)*sz+off=x.length+(k*sz+off):=by rw[hx,Nat.succ_mul];omega
  rw[e,List.drop_length_add_append];exact Aa8 (λc hc=>hs c (by simp[hc])) (by simpa using h) off m hm
section
variable {P : Program} {n : Nat} {c : Cx} {ops : Array Oper} {Q : Exit → Act → World → Prop} {rest : List Oper} {l : Fr} {H H' : List Ent} {d : Nat} {d' : Option Nat} {ty t e rty : TypeId} {pos : String} {af : Array Edge} {g : Option (Nat × Bool)} {x y u : Operand} {v : Value} {sz m : Nat}
theorem OE [Inhabited α]{off:Nat}{j:Int}(hag:∀w,(isAgg t).run P w = .ok true w)(hsz:∀w,(sizeOf t).run P w = .ok m w)(hx:ev l x=some (rv (Nr sz v j.toNat off)))(hi:H[i]? =some (.row v e sz (ys.map enc)))(hg:Cn j (ys.length:Int)=true)
  (hle:Nat.ble (off+m) sz=true) (hr:((enc (Af ys j)).drop off).take m=rs) :
  Cd P n c l H { dst:=d',op:=.load t x,type:=ty,pos:=pos,after:=af,guard:=g } (Cz rs):=λa w Z ha hw=>by
 obtain⟨hs,us,⟨h1,h2⟩,h3⟩:=hw.ent hi;have h0:=(Da hg).1;have hlt:j.toNat<ys.length:=by have:=(Da hg).2;omega
 have eat:Af ys j=ys[j.toNat]:=by simp[Af,hlt]
 have hle':off+m≤sz:=by simpa using hle
 have hcl:(ys.map enc)[j.toNat]? =some (enc ys[j.toNat]):=by simp[hlt]
 have hcz:(enc ys[j.toNat]).length=sz:=hs _ (Ap4 hcl);have hseg:=Aa8 hs hcl off m hle';rw[← eat,hr] at hseg;have h4:=(h3.drop (j.toNat*sz+off)).take m;rw[hseg] at h4;have hrl:rs.length=m:=by rw[← hr,eat];simp;omega
 rcases h2 with⟨rfl,hz⟩ | ⟨b,cap,cur,rfl,_,hg',hcap,hm,hcs,htk⟩
 ·simp at hz;subst hz;simp at hlt
 ·have h5:=run_loadCells_list (P:=P) w ⟨b,j.toNat*sz+off,none⟩ ((us.drop (j.toNat*sz+off)).take m) (λq w' hq=>by
   rw[Pi,cell_of_row w b _ cur e (0,0) hg'];rw[ApS] at hq
   split at hq
   ·rw[List.getElem?_drop,← htk,ApS] at hq
    split at hq
    ·simpa using hq
    ·cases hq
   ·cases hq)
  rw[h4.length,hrl] at h5;exact⟨.agg ((us.drop (j.toNat*sz+off)).take m).toArray,⟨_,rfl,h4⟩,by simp[execOp,ha.eval hx,Nr,Instr.loadAt,Instr.sureAddr,loadVar,hag,hsz,h5]⟩
end
section
variable {P : Program} {n : Nat} {c : Cx} {Q : Exit → Act → World → Prop} {l : Fr} {H : List Ent} {x rest' : Code} {K : Act → World → Prop}
end
section
variable {P : Program} {n : Nat} {c : Cx} {ops : Array Oper} {Q : Exit → Act → World → Prop} {rest : List Oper} {l : Fr} {H H' : List Ent} {d : Nat} {d' : Option Nat} {x y z3 z4 : Operand} {ty t t' e : TypeId} {pos : String} {af : Array Edge} {g : Option (Nat × Bool)} {v u : Value} {r : Rp} {sz : Nat}
theorem TH {fs:Array Field}{f:Field}(hu:P.underlying t=some (.struct fs))(hf:fs[i]? =some f)(hag:∀w,(isAgg f.type).run P w = .ok false w)(hx:ev l x=some (Cz rs))(hr:rs[f.offset]? =some r) :
  Cd P n c l H { dst:=d',op:=.field t x i,type:=ty,pos:=pos,after:=af,guard:=g } r:=λa w Z ha hw=>by
 obtain⟨us,e1,hus⟩:=ha.ev hx;obtain⟨v,hv,hp⟩:=hus.at hr;exact⟨v,hp,by simp[execOp,e1,Instr.field,run_underlying hu,hf,asAgg,part,hag,hv]⟩
theorem AkV {inf:TypeInfo}{z:Value}{zα:α}{rz:Rp}{kl kc:IntKind}{m bytes:Nat}(ht:P.underlying t=some (.slice e))(hinf:P.info? e=some inf)(hz:inf.zero=some z)(hsize:inf.size=1)(hby:inf.bytes=bytes)(hbp:Nat.blt 0 bytes=true)
  (hzc:z.cells = #[z]) (henc:enc zα=[rz]) (hrz:∀Z,rz.p Z z)
  (hx:ev l x=some (rI kl m)) (hy:ev l y=some (rI kc m)) (hg:Dl bytes m=true) (hn:Nat.blt d n=true)
  (h:∀v',WL P n c ops Q rest ((d,rv v')::l) (.row v' e 1 ((List.replicate m zα).map enc)::H)) :
  WL P n c ops Q ({ dst:=some d,op:=.makeSlice t x y,type:=ty,pos:=pos,after:=af,guard:=none }::rest) l H:=
 Pd (λa w Z ha hw=>by
  have hb:m*bytes≤140737488355328:=by simpa[Dl] using hg
  have hbp':0<bytes:=by simpa using hbp
  have hle:m≤m*bytes:=Nat.le_mul_of_pos_right _ hbp';obtain⟨w',e1,e2,e3⟩:=run_make_full (P:=P) w 0 t e inf z 1 ht hinf hz hsize kl kc m (by rw[hby,Nat.mul_comm];omega) (by simp only[maxLen];omega) (ApY _);rw[hzc,toList_madeCells_one,Nat.mul_one] at e2;have hall:B9 Z ((List.replicate m zα).map enc).flatten (List.replicate m z):=by
   clear e2 hle hb hg hx hy h e1
   induction m with
   | zero=>trivial
   | succ m ih=>rw[List.replicate_succ,List.replicate_succ,Aqj,List.flatten_cons,henc];exact⟨hrz Z,ih⟩
  have hlen:∀cl∈(List.replicate m zα).map enc,cl.length=1:=λcl hcl=>by
   obtain⟨q,hq,rfl⟩:=List.mem_map.1 hcl;rw[(List.mem_replicate.1 hq).2,henc];rfl
  have hent:(Ent.row (.slice (some ⟨w.heap.size,0,none⟩) m m) e 1 ((List.replicate m zα).map enc)).holds Z w':=⟨hlen,List.replicate m z,by simpa using e2,hall⟩
  exact⟨.slice (some ⟨w.heap.size,0,none⟩) m m,w',rv (.slice (some ⟨w.heap.size,0,none⟩) m m),_,Z,by simp[execOp,ha.eval hx,ha.eval hy,e1],Fz.le.refl _,rfl,hw.add e3.os e3.tape e3.output e3.size (λk hk=>e3.block k hk (by simp)) hent (by simp[Ent.foot,Value.ownBlock]),h _⟩) hn
end
structure Sx (U:Type) where
 deps:List Nat
 r:U→Rp
 dyn:Bool:=false
 old:List Nat:=[]
def Kk {U:Type}(sp:List (Sx U))(i:Nat):Sx U:=sp.getD i { deps:=[],r:=λ_=>rv undef }
def sxu {U:Type}(sp:List (Sx U))(u:U):List Sp:=sp.map λs=>⟨s.deps,s.r u,0⟩
def saU {U:Type}(sp:List (Sx U))(u:U):List Sa:=sp.map λs=>{ deps:=s.deps,r:=s.r u }
def V5 {U:Type}:List (Sx U)→Prop
 | []=>True
 | s::r=>(s.dyn=false→∀u u',s.r u=s.r u')∧V5 r
theorem V5.at {U:Type}:∀{sp:List (Sx U)},V5 sp→∀{i:Nat} {s:Sx U},sp[i]? =some s→s.dyn=false→∀u u',s.r u=s.r u'
 | [],_,i,s,h=>by simp at h
 | x::sp,⟨h1,h2⟩,0,s,h=>by simp at h;subst h;exact h1
 | x::sp,⟨h1,h2⟩,i+1,s,h=>V5.at h2 (by simpa using h)
variable{U:Type}{sp:List (Sx U)}
theorem An8 {ds os:List Nat}(h:V5 sp):V5 ({ deps:=ds,r:=λ_=>r,old:=os }::sp):=⟨λ_ _ _=>rfl,h⟩
theorem An7 {ds os:List Nat}{r:U→Rp}(h:V5 sp):V5 ({ deps:=ds,r:=r,dyn:=true,old:=os }::sp):=⟨λh'=>(by cases h'),h⟩
def HH (lw:Fr):List Nat→Fr→Fr
 | [],l=>l
 | d::r,l=>match look lw d with
  | some q=>(d,q)::HH lw r l
  | none=>HH lw r l
theorem Y4 {n:Nat}{lw l:Fr}{a:Act}{Z:Fz}(h0:EB n l a Z):∀{ds:List Nat},(∀d∈ds,∀q,look lw d=some q→∃v,a.tmps[d]? =some v∧q.p Z v)→EB n (HH lw ds l) a Z
 | [],_=>h0
 | d::ds,h=>by
  have ih:=Y4 h0 (ds:=ds) (λd' hd'=>h d' (by simp[hd']));unfold HH
  cases hd:look lw d with
  | none=>exact ih
  | some q=>
   refine⟨ih.size,ih.defers,λi r hi=>?_⟩;rw[Dp] at hi
   split at hi
   ·rename_i e;subst e;simp at hi;subst hi;exact h d (by simp) q hd
   ·exact ih.tm i r hi
theorem An6:V5 ([]:List (Sx U)):=trivial
def okX (n:Nat)(ops:List Oper)(N i0:Nat)(keys:List Nat)(deps:List (List Nat))(dyns:List Bool)(olds:List (List Nat)):Bool:=
 Vz ops N&&decide (N≤ops.length)&&decide (i0<N)&&
 (List.range N).all (λi=>match Di ops i with
  | some d=>decide (d<n)&&!keys.contains d&&(List.range N).all (λj=>j ==i||Di ops j !=some d)
  | none=>true)&&
 (List.range N).all (λi=>(deps.getD i []).all (λj=>decide (j<N)&&(Ei (ops.getD i default)).contains j))&&
 (List.range N).all (λi=>!dyns.getD i false||i ==i0||(Ei (ops.getD i default)).any (λe=>decide (e<N)&&(e ==i0||dyns.getD e false)))&&
 (List.range N).all (λi=>(olds.getD i []).all (λd=>(List.range N).all (λw=>Di ops w !=some d||(Ei (ops.getD w default)).contains i)))
section
variable (P : Program) (n : Nat) (c : Cx) (opsA : Array Oper) (Q : Exit → Act → World → Prop)
def OpX {U:Type}(l:Fr)(H:List Ent)(o:Oper)(r:U→Rp)(H1:U→List Ent):Prop:=
 ∀a w Z (K:Act→World→Prop),EB n l a Z→St c H Z w→(∀u v w' Z',Fz.le Z Z'→(r u).p Z' v→St c (H1 u) Z' w'→K (a.put o.dst v) w')→
  Region.wanted o (yielded opsA a.tmps)=true∧o.wp P a w K Q
def Qw {U:Type}(ops:List Oper)(sp:List (Sx U))(l0 lw:Fr)(i0:Nat)(H:List Ent)(H1:U→List Ent):Nat→List Oper→Prop
 | i,o::rest=>(if i=i0 then(∀u,OpX P n c opsA Q (HH lw (Kk sp i).old (CT ops (sxu sp u) (Kk sp i).deps l0)) H o (Kk sp i).r H1) else ∀u H',(H'=H∨H'=H1 u)→EV P n c opsA Q (HH lw (Kk sp i).old (CT ops (sxu sp u) (Kk sp i).deps l0)) H' o ((Kk sp i).r u) H')∧Qw ops sp l0 lw i0 H H1 (i+1) rest
 | _,[]=>True
end
section
variable {P : Program} {n : Nat} {c : Cx} {opsA : Array Oper} {Q : Exit → Act → World → Prop} {l l0 lw : Fr} {U : Type} {H : List Ent} {H1 : U → List Ent} {sp : List (Sx U)} {i0 : Nat}
theorem Qw.at {ops:List Oper}:∀{k:Nat} {rest:List Oper},Qw P n c opsA Q ops sp l0 lw i0 H H1 k rest→∀(t:Nat) o,rest[t]? =some o→
  (if k+t=i0 then(∀u,OpX P n c opsA Q (HH lw (Kk sp (k+t)).old (CT ops (sxu sp u) (Kk sp (k+t)).deps l0)) H o (Kk sp (k+t)).r H1) else ∀u H',(H'=H∨H'=H1 u)→EV P n c opsA Q (HH lw (Kk sp (k+t)).old (CT ops (sxu sp u) (Kk sp (k+t)).deps l0)) H' o ((Kk sp (k+t)).r u) H')
 | k,o::rest,⟨h1,h2⟩,t,o',ht=>by
  cases t with
  | zero=>simp at ht;subst ht;exact h1
  | succ t=>
   have:=Qw.at h2 t o' (by simpa using ht);rw[show k+(t+1)=k+1+t from by omega];exact this
 | _,[],_,t,o,h=>by simp at h
theorem AiI [Inhabited U](N i0:Nat)(sp:List (Sx U))(hm:P.follows .mixedOrders=true)(hB:okX n ops N i0 (Hp l0) (sp.map (·.deps)) (sp.map (·.dyn)) (sp.map (·.old))=true)(hl0:AaO l0 l)(hlw:AaO lw l)(hsp:sp.length=N)(hst:V5 sp)
  (hob:Qw P n c ops.toArray Q ops sp l0 lw i0 H H1 0 (ops.take N)) (h:∀u,WL P n c ops.toArray Q (ops.drop N) (PD (λ_=>0) (ops.take N) (saU sp u) 0 l0) (H1 u)):WC P n c (.region id ops.toArray true) Q l H:=by
 intro a w Z ha hw;simp only[okX,Aps,ApV,List.mem_range,Apt] at hB;obtain⟨⟨⟨⟨⟨⟨b1,bN⟩,b0⟩,b2⟩,b3⟩,b4⟩,b5⟩:=hB;have hget:∀i,i<N→(ops.take N)[i]? =ops[i]?:=λi hi=>by rw[ApS,ApW hi]
 have hsa:∀i,i<N→sp[i]? =some (Kk sp i):=λi hi=>by
  simp[Kk,Apy,Apw (show i<sp.length by omega)]
 have hspq:∀u i,i<N→(GB (sxu sp u) i)=⟨(Kk sp i).deps,(Kk sp i).r u,0⟩:=λu i hi=>by
  simp[GB,sxu,Apy,ApI,hsa i hi]
 have hdyn:∀j,j<N→(sp.map (·.dyn)).getD j false=(Kk sp j).dyn:=λj hj=>by simp[Apy,ApI,hsa j hj]
 have hdep:∀j,j<N→(sp.map (·.deps)).getD j []=(Kk sp j).deps:=λj hj=>by simp[Apy,ApI,hsa j hj]
 have hops:∀j,j<N→∃o,ops[j]? =some o:=λj hj=>⟨ops[j]'(by omega),Apw (by omega)⟩
 have hdst:∀i o d,i<N→ops[i]? =some o→o.dst=some d→(d<n∧d ∉ Hp l0)∧∀j,j<N→j≠i→Di ops j≠some d:=λi o d hi ho hd=>by
  have h3:=b2 i hi;have:Di ops i=some d:=by simp[Di,ho,hd]
  rw[this] at h3;simp only[Aps,Ap6,ApV,List.mem_range,Apt] at h3;refine⟨⟨h3.1.1,λhmem=>by rw[← List.contains_iff_mem] at hmem;rw[hmem] at h3;cases h3.1.2⟩,λj hj hne he=>?_⟩;have:=h3.2 j hj;simp[hne,he] at this
 refine AaY (N:=N) hm b1 bN (λS a w=>∃ (u:U) (Z:Fz),St c (if S i0=true then H1 u else H) Z w∧EB n l0 a Z∧(∀j o d,j<N→S j=true→ops[j]? =some o→o.dst=some d→∃v,a.tmps[d]? =some v∧((Kk sp j).r u).p Z v)∧
   (∀j,j<N→(Kk sp j).dyn=true→S j=true→S i0=true)∧
   (∀d q,look lw d=some q→(∀wr,wr<N→Di ops wr=some d→S wr=false)→∃v,a.tmps[d]? =some v∧q.p Z v)∧
   ∀wr i d,wr<N→i<N→Di ops wr=some d→d∈(Kk sp i).old→S wr=true→S i=true)
  (λS S' a w hS hI=>?_) ⟨default,Z,?_,ha.subL hl0,λj o d _ hS=>(by cases hS),λj _ _ hS=>(by cases hS),λd q hd _=>(ha.subL hlw).tm d q hd,λwr i d _ _ _ _ hS=>(by cases hS)⟩ (λS i o a w hi hun ho hb hI K hK=>?_) (λa w hI=>?_)
 ·obtain⟨u,Z,h1,h2,h3,h4,h5,h6⟩:=hI;refine⟨u,Z,?_,h2,λj o d hj hS'=>h3 j o d hj (by rw[hS j hj];exact hS'),λj hj hd hSj=>?_,λd q hd hw'=>h5 d q hd (λwr hwr hdw=>by rw[hS wr hwr];exact hw' wr hwr hdw),λwr i d hwr hi hdw hold hSw=>by rw[← hS i hi];exact h6 wr i d hwr hi hdw hold (by rw[hS wr hwr];exact hSw)⟩
  ·rw[← hS i0 b0];exact h1
  ·rw[← hS i0 b0];exact h4 j hj hd (by rw[hS j hj];exact hSj)
 ·exact hw.drawn _
 ·obtain⟨u,Z,h1,h2,h3,hx,ho5,ho6⟩:=hI;have hput:∀k u v,a.tmps[k]? =some u→o.dst≠some k→(a.put o.dst v).tmps[k]? =some u:=λk u v hk hne=>by
   cases hd:o.dst with
   | none=>simpa[Act.put] using hk
   | some d=>
    simp only[Act.put,Array.getElem?_setIfInBounds];rw[ApP (λe=>hne (by rw[hd,e]))];exact hk
  have hagr:∀v Z',Fz.le Z Z'→EB n l0 (a.put o.dst v) Z':=λv Z' hz=>by
   refine⟨?_,?_,λk r hk=>?_⟩
   ·cases o.dst<;>simp[Act.put,h2.size]
   ·cases o.dst<;>simp[Act.put,h2.defers]
   ·obtain⟨u,hu,hpu⟩:=h2.tm k r hk;exact⟨u,hput k u v hu (λe=>((hdst i o k hi ho e).1).2 (NV hk)),r.mono hz hpu⟩
  have hvals:∀(v:Value) (Z':Fz) (u':U),Fz.le Z Z'→(∀j,j<N→j≠i→S j=true→(Kk sp j).r u'=(Kk sp j).r u)→(o.dst≠none→((Kk sp i).r u').p Z' v)→∀j o' d,j<N→(j ==i||S j)=true→ops[j]? =some o'→o'.dst=some d→∃q,(a.put o.dst v).tmps[d]? =some q∧((Kk sp j).r u').p Z' q:=by
   intro v Z' u' hz hβ hp j o' d hj hS' ho' hd
   by_cases hji:j=i
   ·subst hji;rw[ho] at ho';simp at ho';subst ho';refine⟨v,?_,hp (by simp[hd])⟩;have hdn:d<a.tmps.size:=by rw[h2.size];exact(hdst j o d hi ho hd).1.1
    simp[Act.put,hd,hdn]
   ·have hSj:S j=true:=by simpa[hji] using hS'
    obtain⟨q,hu,hpu⟩:=h3 j o' d hj hSj ho' hd;refine⟨q,hput d q v hu (λe=>(hdst i o d hi ho e).2 j hj hji (by simp[Di,ho',hd])),?_⟩;rw[hβ j hj hji hSj];exact((Kk sp j).r u).mono hz hpu
  have hat:=hob.at i o (by rw[hget i hi];exact ho);rw[ApQ] at hat;have hold':∀Z',Fz.le Z Z'→∀v d q,look lw d=some q→(∀wr,wr<N→Di ops wr=some d→(wr ==i||S wr)=false)→∃v',(a.put o.dst v).tmps[d]? =some v'∧q.p Z' v':=λZ' hz v d q hd hw'=>by
   obtain⟨v',e1,e2⟩:=ho5 d q hd (λwr hwr hdw=>by have:=hw' wr hwr hdw;simp only[ApB] at this;exact this.2);refine⟨v',hput d v' v e1 (λe=>?_),q.mono hz e2⟩;have:=hw' i hi (by simp[Di,ho,e]);simp at this
  have hord:∀wr k d,wr<N→k<N→Di ops wr=some d→d∈(Kk sp k).old→(wr ==i||S wr)=true→(k ==i||S k)=true:=λwr k d hwr hk hdw hmem hSw=>by
   by_cases hwi:wr=i
   ·subst hwi;have h7:=b5 k hk d (by simpa[Apy,ApI,hsa k hk] using hmem) wr hwr;simp only[ApD,bne_iff_ne,ne_eq,hdw,not_true_eq_false,false_or] at h7;rw[Apy,ho,ApE,List.contains_iff_mem] at h7;simp[(hb k h7).2]
   ·have:S k=true:=ho6 wr k d hwr hk hdw hmem (by simpa[hwi] using hSw);simp[this]
  have hag':EB n (HH lw (Kk sp i).old (CT ops (sxu sp u) (Kk sp i).deps l0)) a Z:=Y4 (OY h2 (λj hj d hd=>by
    obtain⟨h5,h6⟩:=b3 i hi j (by rw[hdep i hi];exact hj);rw[Apy,ho,ApE,List.contains_iff_mem] at h6;obtain⟨o2,ho2⟩:=hops j h5;obtain⟨v,hv1,hv2⟩:=h3 j o2 d h5 (hb j h6).2 ho2 (by simpa[Di,ho2] using hd);refine⟨v,hv1,?_⟩;rw[hspq u j h5];exact hv2)) (λd hd q hq=>ho5 d q hq (λwr hwr hdw=>by
     cases hS:S wr with
     | false=>rfl
     | true=>have:=ho6 wr i d hwr hi hdw hd hS;rw[this] at hun;cases hun))
  by_cases hi0:i=i0
  ·subst hi0;rw[ApW rfl] at hat;rw[hun] at h1;have h1':St c H Z w:=by simpa using h1
   have key:=λK' hK'=>hat u a w Z K' hag' h1' hK';have h5:∀u' v w' Z',Fz.le Z Z'→((Kk sp i).r u').p Z' v→St c (H1 u') Z' w'→K (a.put o.dst v) w':=λu' v w' Z' hz hpv hs'=>by
    refine hK _ _ ⟨u',Z',by simpa using hs',hagr v Z' hz,hvals v Z' u' hz (λj hj hji hSj=>?_) (λ_=>hpv),λj _ _ _=>by simp,hold' Z' hz v,hord⟩;refine hst.at (hsa j hj) ?_ u' u
    cases hd:(Kk sp j).dyn with
    | false=>rfl
    | true=>have:=hx j hj hd hSj;rw[this] at hun;cases hun
   refine⟨λ_=>(key K h5).2,λhw'=>?_⟩;rw[(key K h5).1] at hw';cases hw'
  ·rw[ApP hi0] at hat;refine hat u _ (by split;exact .inr rfl;exact .inl rfl) a w Z K hag' h1 (λv w' Z' hz hp hst'=>hK _ _ ⟨u,Z',?_,hagr v Z' hz,hvals v Z' u hz (λ_ _ _ _=>rfl) (λ_=>hp),λj hj hd hSj=>?_,hold' Z' hz v,hord⟩)
   ·have hiS:(i0 ==i||S i0)=S i0:=by
     have:(i0 ==i)=false:=by simpa using λe=>hi0 e.symm
     rw[this];rfl
    show St c (if (i0 ==i||S i0)=true then H1 u else H) Z' w';rw[hiS];exact hst'
   ·have hii:(i0 ==i)=false:=by simpa using λe=>hi0 e.symm
    show(i0 ==i||S i0)=true;rw[hii,ApJ]
    by_cases hji:j=i
    ·subst hji;have h7:=b4 j hj;rw[hdyn j hj,hd] at h7;simp only[Ap0,ApJ,ApD,beq_iff_eq,hi0,false_or,List.any_eq_true,Aps,Apt] at h7;obtain⟨e,he,heN,h8⟩:=h7;rw[Apy,ho,ApE] at he;have hSe:=(hb e he).2;rcases h8 with h8 | h8
     ·subst h8;exact hSe
     ·rw[hdyn e heN] at h8;exact hx e heN h8 hSe
    ·exact hx j hj hd (by simpa[hji] using hSj)
 ·obtain⟨u,Z,h1,h2,h3,_,_,_⟩:=hI;have hsl:(saU sp u).length=N:=by simp[saU,hsp]
  refine h u a w Z (TQ h2 _ _ 0 (λt o s d ht hs hd=>?_)) (by simpa using h1);have htN:t<N:=by have:=(List.getElem?_eq_some_iff.1 hs).1;omega
  have hs':s = { deps:=(Kk sp t).deps,r:=(Kk sp t).r u }:=by
   simp only[saU,ApI,hsa t htN,Option.map_some,Option.some.injEq] at hs;exact hs.symm
  subst hs';rw[ApQ];exact h3 t o d htN rfl (by rw[← hget t htN];exact ht) hd
theorem Iy [Inhabited U](N i0:Nat)(ks0 ksw:List Nat)(sp:List (Sx U))(H1:U→List Ent)(hob:Qw P n c ops.toArray Q ops sp l0 lw i0 H H1 0 (ops.take N))(h:∀u,WL P n c ops.toArray Q (ops.drop N) (PD (λ_=>0) (ops.take N) (saU sp u) 0 l0) (H1 u))
  (h0:Kp ks0 l l0:=by repeat (first | exact RX | (apply Pf;rfl) | (apply QY;rfl))) (hw:Kp ksw l lw:=by repeat (first | exact RX | (apply Pf;rfl) | (apply QY;rfl))) (hm:P.follows .mixedOrders=true:=by kernel_rfl) (hB:okX n ops N i0 (Hp l0) (sp.map (·.deps)) (sp.map (·.dyn)) (sp.map (·.old))=true:=by kernel_rfl)
  (hsp:sp.length=N:=by rfl) (hst:V5 sp:=by repeat (first | exact An6 | apply An8 | apply An7)):WC P n c (.region id ops.toArray true) Q l H:=AiI N i0 sp hm hB h0.one hw.one hsp hst hob h
theorem GW {d:Nat}{op:Op}(hr:∀{u H},Cd P n c (HH lw (Kk sp i).old (CT all (sxu sp u) (Kk sp i).deps l0)) H { dst:=some d,op:=op,type:=ty,pos:=pos,after:=af,guard:=none } ((Kk sp i).r u))(h:Qw P n c opsA Q all sp l0 lw i0 H H1 (i+1) rest)(hne:Nat.beq i i0=false:=by rfl) :
  Qw P n c opsA Q all sp l0 lw i0 H H1 i ({ dst:=some d,op:=op,type:=ty,pos:=pos,after:=af,guard:=none }::rest):=by
 refine⟨?_,h⟩;rw[ApP (λe=>by subst e;simp at hne)];exact λu H _=>CP hr
theorem oxc (hr:∀{u H},EV P n c opsA Q (HH lw (Kk sp i).old (CT all (sxu sp u) (Kk sp i).deps l0)) H o ((Kk sp i).r u) H)(h:Qw P n c opsA Q all sp l0 lw i0 H H1 (i+1) rest)(hne:Nat.beq i i0=false:=by rfl):Qw P n c opsA Q all sp l0 lw i0 H H1 i (o::rest):=by
 refine⟨?_,h⟩;rw[ApP (λe=>by subst e;simp at hne)];exact λu H _=>hr
theorem Qz (hr:∀{u},EV P n c opsA Q (HH lw (Kk sp i).old (CT all (sxu sp u) (Kk sp i).deps l0)) H o ((Kk sp i).r u) H)(hr1:∀{u},EV P n c opsA Q (HH lw (Kk sp i).old (CT all (sxu sp u) (Kk sp i).deps l0)) (H1 u) o ((Kk sp i).r u) (H1 u))(h:Qw P n c opsA Q all sp l0 lw i0 H H1 (i+1) rest)(hne:Nat.beq i i0=false:=by rfl):Qw P n c opsA Q all sp l0 lw i0 H H1 i (o::rest):=by
 refine⟨?_,h⟩;rw[ApP (λe=>by subst e;simp at hne)];intro u H' hH';rcases hH' with e | e
 ·subst e;exact hr
 ·subst e;exact hr1
theorem oxx (hr:∀{u},OpX P n c opsA Q (HH lw (Kk sp i0).old (CT all (sxu sp u) (Kk sp i0).deps l0)) H o (Kk sp i0).r H1)(h:Qw P n c opsA Q all sp l0 lw i0 H H1 (i0+1) rest):Qw P n c opsA Q all sp l0 lw i0 H H1 i0 (o::rest):=by
 refine⟨?_,h⟩;rw[ApW rfl];exact λu=>hr
theorem oxe:Qw P n c opsA Q all sp l0 lw i0 H H1 i []:=trivial
end
section
variable {P : Program} {n : Nat} {c : Cx} {opsA : Array Oper} {Q : Exit → Act → World → Prop} {l : Fr} {H : List Ent} {d : Nat} {x y : Operand} {ty t e : TypeId} {pos : String} {af : Array Edge} {v : Value} {sz : Nat}
theorem EK {xs:List α}{inf:TypeInfo}{z:Value}{bytes:Nat}(ht:P.underlying t=some (.slice e))(hinf:P.info? e=some inf)(hz:inf.zero=some z)(hsize:inf.size=sz)(hby:inf.bytes=bytes)(hzs:z.cells.size=sz)(hsz:Nat.blt 0 sz=true)(hbp:Nat.blt 0 bytes=true)
  (hx:ev l x=some (rv v)) (hi:H[i]? =some (.row v e sz (xs.map enc))) (hy:K8 P n c l H y sz ys.length (ys.map enc).flatten) (henc:∀z,(enc z).length=sz) (hone:∀z,(enc z).all (·.one)=true) (hg:Dl bytes (xs.length+ys.length)=true) :
  OpX P n c opsA Q l H { dst:=some d,op:=.call { callee:=.builtin .append,args:=#[x,y],argTypes:=#[t,t] },type:=ty,pos:=pos,after:=af,guard:=none } (λv'=>rv v') (λv'=>.row v' e sz ((xs++ys).map enc)::H.eraseIdx i):=λa w Z K ha hw hK=>by
  obtain⟨h0,us,h1,h2⟩:=hw.ent hi;obtain⟨ws,h3,h4⟩:=hy a w Z ha hw;have hsz':0<sz:=by simpa using hsz
  have hbp':0<bytes:=by simpa using hbp
  have hb:(xs.length+ys.length)*bytes≤140737488355328:=by simpa[Dl] using hg
  have hle:xs.length+ys.length≤(xs.length+ys.length)*bytes:=Nat.le_mul_of_pos_right _ hbp';have hws:∀y∈ws,y.oneCell'=true:=B9.one (rs:=(ys.map enc).flatten) (by
   rw[ApV];intro r hr;obtain⟨cl,hcl,hrc⟩:=List.mem_flatten.1 hr;obtain⟨z',_,rfl⟩:=List.mem_map.1 hcl;exact List.all_eq_true.1 (hone z') r hrc) h3
  have hxl:(xs.map enc).length=xs.length:=Ap9 ..;rw[hxl] at h1;obtain⟨v',w',e1,e2,e3,e4⟩:=Pv (P:=P) ty ht hinf hz hsize hby hzs hsz' h1 h4 hws hb (by simp only[maxLen];omega);have hent:(Ent.row v' e sz ((xs++ys).map enc)).holds Z w':=⟨λcl hcl=>by obtain⟨z',_,rfl⟩:=List.mem_map.1 hcl;exact henc z',us++ws,by simpa using e2,by rw[List.map_append,List.flatten_append];exact h2.append h3⟩
  have hst:=hw.callF hi (St.one (e':=.row v' e sz ((xs++ys).map enc)) (M:=(Ent.row v e sz (xs.map enc)).foot) hw.frz hw.env hw.emono e3.os e3.tape e3.output e3.size (λk hk hne=>e3.block k hk (λe1=>hne (by simp[Ent.foot,← e1])))
   (hw.zdis _ (Ap4 hi)) hent (λk hk=>by
    simp only[Ent.foot,Option.mem_toList] at hk ⊢;rcases e4 with e4 | e4
    ·exact .inl (e4▸hk)
    ·exact .inr (e4 k hk)))
  refine⟨by simp[Region.wanted],?_⟩;unfold Oper.wp;rw[show(execOp a.eval { dst:=some d,op:=.call { callee:=.builtin .append,args:=#[x,y],argTypes:=#[t,t] },type:=ty,pos:=pos,after:=af,guard:=none }).run P w = .ok (.value v') w' from by simp[execOp,resolve,invoke,builtin,ha.eval hx,e1]];exact hK v' v' w' Z (Fz.le.refl _) rfl hst
end
abbrev Ux:=Nat→Nat→Value×Nat
def Ag (k:Nat)(u u':Ux):Prop:=∀j,j<k→u j=u' j
def ux (u:Ux)(k:Nat)(f:List (Value×Nat)):Ux:=λj=>bif Nat.beq j k then λq=>f.getD q (undef,0) else u j
theorem Anm {u:Ux}{k:Nat}{f:List (Value×Nat)}:Ag k u (ux u k f):=λj hj=>by
 unfold ux;have:Nat.beq j k=false:=by
  cases h:Nat.beq j k with
  | false=>rfl
  | true=>have:=Nat.eq_of_beq_eq_true h;omega
 rw[this];rfl
structure Sy where
 deps:List Nat
 r:Ux→Rp
 lv:Nat:=0
 fx:Bool:=false
 old:List Nat:=[]
def Js (sp:List Sy)(i:Nat):Sy:=sp.getD i { deps:=[],r:=λ_=>rv undef }
def syu (sp:List Sy)(u:Ux):List Sp:=sp.map λs=>⟨s.deps,s.r u,0⟩
def saY (sp:List Sy)(u:Ux):List Sa:=sp.map λs=>{ deps:=s.deps,r:=s.r u }
def Xl:List Sy→Prop
 | []=>True
 | s::r=>(∀u u',Ag s.lv u u'→s.r u=s.r u')∧Xl r
theorem Xl.at:∀{sp:List Sy},Xl sp→∀{i:Nat} {s:Sy},sp[i]? =some s→∀u u',Ag s.lv u u'→s.r u=s.r u'
 | [],_,i,s,h=>by simp at h
 | x::sp,⟨h1,h2⟩,0,s,h=>by simp at h;subst h;exact h1
 | x::sp,⟨h1,h2⟩,i+1,s,h=>Xl.at h2 (by simpa using h)
theorem syc {m:Nat}:∀u u':Ux,Ag m u u'→(λ_:Ux=>r) u=(λ_:Ux=>r) u':=λ_ _ _=>rfl
def okY (n:Nat)(ops:List Oper)(N:Nat)(is keys:List Nat)(deps:List (List Nat))(lvs:List Nat)(fxs:List Bool)(olds:List (List Nat)):Bool:=
 let cl:=Qt ops []
 Vz ops N&&decide (N≤ops.length)&&is.all (λi=>decide (i<N))&&decide is.Nodup&&
 (List.range is.length).all (λk=>k ==0||(cl.getD (is.getD k 0) 0).testBit (is.getD (k-1) 0))&&
 (List.range N).all (λi=>match Di ops i with
  | some d=>decide (d<n)&&!keys.contains d&&(List.range N).all (λj=>j ==i||Di ops j !=some d)
  | none=>true)&&
 (List.range N).all (λi=>(deps.getD i []).all (λj=>decide (j<N)&&(Ei (ops.getD i default)).contains j))&&
 (List.range N).all (λi=>decide (lvs.getD i 0≤is.length)&&(lvs.getD i 0 ==0||i ==is.getD (lvs.getD i 0-1) 0||(cl.getD i 0).testBit (is.getD (lvs.getD i 0-1) 0)))&&
 (List.range N).all (λi=>!fxs.getD i false||lvs.getD i 0 ==is.length||(cl.getD (is.getD (lvs.getD i 0) 0) 0).testBit i)&&
 (List.range N).all (λi=>(olds.getD i []).all (λd=>(List.range N).all (λw=>Di ops w !=some d||(Ei (ops.getD w default)).contains i)))
def cnt (S:Nat→Bool)(is:List Nat):Nat:=(is.filter S).length
theorem Vw {is:List Nat}{k:Nat}(hk:k≤is.length)(h1:∀j (h:j<is.length),j<k→S is[j]=true)(h2:∀j (h:j<is.length),k≤j→S is[j]=false):cnt S is=k:=by
 unfold cnt;rw[← Aqk k is,List.filter_append,List.filter_eq_self.2 (λx hx=>?_),List.filter_eq_nil_iff.2 (λx hx=>?_)]
 ·simp;omega
 ·obtain⟨j,hj⟩:=List.mem_iff_getElem?.1 hx;rw[List.getElem?_drop] at hj;obtain⟨h3,h4⟩:=List.getElem?_eq_some_iff.1 hj;have:=h2 (k+j) h3 (by omega);rw[h4] at this;simp[this]
 ·obtain⟨j,hj⟩:=List.mem_iff_getElem?.1 hx;rw[ApS] at hj
  split at hj
  ·rename_i hjk
   obtain⟨h3,h4⟩:=List.getElem?_eq_some_iff.1 hj;have:=h1 j h3 hjk;rw[h4] at this;exact this
  ·cases hj
theorem Xh {S':Nat→Bool}{is:List Nat}(h:∀i∈is,S i=S' i):cnt S is=cnt S' is:=by
 unfold cnt;rw[List.filter_congr h]
section
variable (P : Program) (n : Nat) (c : Cx) (opsA : Array Oper) (Q : Exit → Act → World → Prop)
def OpY (l:Fr)(H:List Ent)(o:Oper)(k:Nat)(u:Ux)(r:Ux→Rp)(H1:Ux→List Ent):Prop:=
 ∀a w Z (K:Act→World→Prop),EB n l a Z→St c H Z w→(∀u' v w' Z',Ag k u u'→Fz.le Z Z'→(r u').p Z' v→St c (H1 u') Z' w'→K (a.put o.dst v) w')→
  Region.wanted o (yielded opsA a.tmps)=true∧o.wp P a w K Q
def ObY (ops:List Oper)(sp:List Sy)(l0 lw:Fr)(is:List Nat)(hs:List (Ux→List Ent))(i:Nat)(o:Oper):Prop:=
 match is.findIdx? (λx=>Nat.beq x i) with
 | some k=>∀u,OpY P n c opsA Q (HH lw (Js sp i).old (CT ops (syu sp u) (Js sp i).deps l0)) (hs.getD k (λ_=>[]) u) o k u (Js sp i).r (hs.getD (k+1) (λ_=>[]))
 | none=>if (Js sp i).fx=true then ∀u,EV P n c opsA Q (HH lw (Js sp i).old (CT ops (syu sp u) (Js sp i).deps l0)) (hs.getD (Js sp i).lv (λ_=>[]) u) o ((Js sp i).r u) (hs.getD (Js sp i).lv (λ_=>[]) u)
  else ∀u k,k≤is.length→EV P n c opsA Q (HH lw (Js sp i).old (CT ops (syu sp u) (Js sp i).deps l0)) (hs.getD k (λ_=>[]) u) o ((Js sp i).r u) (hs.getD k (λ_=>[]) u)
def SA (ops:List Oper)(sp:List Sy)(l0 lw:Fr)(is:List Nat)(hs:List (Ux→List Ent)):Nat→List Oper→Prop
 | i,o::rest=>ObY P n c opsA Q ops sp l0 lw is hs i o∧SA ops sp l0 lw is hs (i+1) rest
 | _,[]=>True
end
section
variable {P : Program} {n : Nat} {c : Cx} {opsA : Array Oper} {Q : Exit → Act → World → Prop} {l l0 lw : Fr} {H : List Ent} {hs : List (Ux → List Ent)} {sp : List Sy} {is : List Nat}
theorem SA.at {ops:List Oper}:∀{k:Nat} {rest:List Oper},SA P n c opsA Q ops sp l0 lw is hs k rest→∀(t:Nat) o,rest[t]? =some o→ObY P n c opsA Q ops sp l0 lw is hs (k+t) o
 | k,o::rest,⟨h1,h2⟩,t,o',ht=>by
  cases t with
  | zero=>simp at ht;subst ht;exact h1
  | succ t=>
   have:=SA.at h2 t o' (by simpa using ht);rw[show k+(t+1)=k+1+t from by omega];exact this
 | _,[],_,t,o,h=>by simp at h
theorem AiH (N:Nat)(is:List Nat)(sp:List Sy)(hs:List (Ux→List Ent))(hm:P.follows .mixedOrders=true)(hB:okY n ops N is (Hp l0) (sp.map (·.deps)) (sp.map (·.lv)) (sp.map (·.fx)) (sp.map (·.old))=true)(hl0:AaO l0 l)(hlw:AaO lw l)(hsp:sp.length=N)(hst:Xl sp)
    (hH:∀u,hs.getD 0 (λ_=>[]) u=H) (hob:SA P n c ops.toArray Q ops sp l0 lw is hs 0 (ops.take N)) (h:∀u,WL P n c ops.toArray Q (ops.drop N) (PD (λ_=>0) (ops.take N) (saY sp u) 0 l0) (hs.getD is.length (λ_=>[]) u)):WC P n c (.region id ops.toArray true) Q l H:=by
  intro a w Z ha hw;simp only[okY,Aps,ApV,List.mem_range,Apt] at hB;obtain⟨⟨⟨⟨⟨⟨⟨⟨⟨b1,bN⟩,bis⟩,Nu⟩,bch⟩,b2⟩,b3⟩,b4⟩,b6⟩,b5⟩:=hB;have hget:∀i,i<N→(ops.take N)[i]? =ops[i]?:=λi hi=>by rw[ApS,ApW hi]
  have hsa:∀i,i<N→sp[i]? =some (Js sp i):=λi hi=>by
    simp[Js,Apy,Apw (show i<sp.length by omega)]
  have hspq:∀u i,i<N→(GB (syu sp u) i)=⟨(Js sp i).deps,(Js sp i).r u,0⟩:=λu i hi=>by
    simp[GB,syu,Apy,ApI,hsa i hi]
  have hlv:∀j,j<N→(sp.map (·.lv)).getD j 0=(Js sp j).lv:=λj hj=>by simp[Apy,ApI,hsa j hj]
  have hfx:∀j,j<N→(sp.map (·.fx)).getD j false=(Js sp j).fx:=λj hj=>by simp[Apy,ApI,hsa j hj]
  have hdep:∀j,j<N→(sp.map (·.deps)).getD j []=(Js sp j).deps:=λj hj=>by simp[Apy,ApI,hsa j hj]
  have hops:∀j,j<N→∃o,ops[j]? =some o:=λj hj=>⟨ops[j]'(by omega),Apw (by omega)⟩
  have hisN:∀k (hk:k<is.length),is[k]<N:=λk hk=>bis _ (List.getElem_mem hk);have hisD:∀k (hk:k<is.length),is.getD k 0=is[k]:=λk hk=>by rw[Apy,Apw hk];rfl
  have hdst:∀i o d,i<N→ops[i]? =some o→o.dst=some d→(d<n∧d ∉ Hp l0)∧∀j,j<N→j≠i→Di ops j≠some d:=λi o d hi ho hd=>by
    have h3:=b2 i hi;have:Di ops i=some d:=by simp[Di,ho,hd]
    rw[this] at h3;simp only[Aps,Ap6,ApV,List.mem_range,Apt] at h3;refine⟨⟨h3.1.1,λhmem=>by rw[← List.contains_iff_mem] at hmem;rw[hmem] at h3;cases h3.1.2⟩,λj hj hne he=>?_⟩;have:=h3.2 j hj;simp[hne,he] at this
  have clo:∀S:Nat→Bool,(∀t o,ops[t]? =some o→S t=true→∀e∈Ei o,S e=true)→∀j i,((Qt ops []).getD j 0).testBit i=true→S j=true→S i=true:=λS hc j i hb hj=>
    Jm ops (λk=>S k=true) ops [] (λt o ht e he hF=>hc t o ht (by simpa using hF) e he) (λj i hb=>by simp at hb) j i hb hj
  have pre1:∀S:Nat→Bool,(∀t o,ops[t]? =some o→S t=true→∀e∈Ei o,S e=true)→∀k (hk:k<is.length),S is[k]=true→∀j (hj:j<is.length),j≤k→S is[j]=true:=by
    intro S hc k
    induction k with
    | zero=>
              intro hk h0 j hj hle;have:j=0:=by omega
              subst this;exact h0
    | succ k ih=>
      intro hk h0 j hj hle
      by_cases e:j=k+1
      · subst e;exact h0
      · have h3:=bch (k+1) hk
        rw[hisD (k+1) hk] at h3;simp only[ApD,beq_iff_eq,Nat.succ_ne_zero,false_or,Nat.add_sub_cancel] at h3;rw[hisD k (by omega)] at h3;exact ih (by omega) (clo S hc _ _ h3 h0) j hj (by omega)
  refine AaY (N:=N) hm b1 bN (λS a w=>∃ (u:Ux) (Z:Fz),St c (hs.getD (cnt S is) (λ_=>[]) u) Z w∧EB n l0 a Z∧(∀j o d,j<N→S j=true→ops[j]? =some o→o.dst=some d→∃v,a.tmps[d]? =some v∧((Js sp j).r u).p Z v)∧
      (∀t o,t<N→ops[t]? =some o→S t=true→∀e∈Ei o,e<t∧S e=true)∧
      (∀d q,look lw d=some q→(∀wr,wr<N→Di ops wr=some d→S wr=false)→∃v,a.tmps[d]? =some v∧q.p Z v)∧
      ∀wr i d,wr<N→i<N→Di ops wr=some d→d∈(Js sp i).old→S wr=true→S i=true)
    (λS S' a w hS hI=>?_) ⟨default,Z,?_,ha.subL hl0,λj o d _ hS=>(by cases hS),λt o _ _ hS=>(by cases hS),λd q hd _=>(ha.subL hlw).tm d q hd,λwr i d _ _ _ _ hS=>(by cases hS)⟩ (λS i o a w hi hun ho hb hI K hK=>?_) (λa w hI=>?_)
  · obtain⟨u,Z,h1,h2,h3,h4,h5,h6⟩:=hI
    refine⟨u,Z,?_,h2,λj o d hj hS'=>h3 j o d hj (by rw[hS j hj];exact hS'),λt o ht hto hSt e he=>?_,λd q hd hw'=>h5 d q hd (λwr hwr hdw=>by rw[hS wr hwr];exact hw' wr hwr hdw),λwr i d hwr hi hdw hold hSw=>by rw[← hS i hi];exact h6 wr i d hwr hi hdw hold (by rw[hS wr hwr];exact hSw)⟩
    · rw[← Xh (S:=S) (S':=S') λi hi=>hS i (bis i hi)];exact h1
    · obtain⟨h7,h8⟩:=h4 t o ht hto (by rw[hS t ht];exact hSt) e he
      exact⟨h7,by rw[← hS e (by omega)];exact h8⟩
  · have:cnt (λ_=>false) is=0:=Vw (ApY _) (λj _ h=>absurd h (Nat.not_lt_zero _)) (λ_ _ _=>rfl)
    rw[this,hH];exact hw.drawn _
  · obtain⟨u,Z,h1,h2,h3,hc,ho5,ho6⟩:=hI
    have hcl:∀t o,ops[t]? =some o→(decide (t<N)&&S t)=true→∀e∈Ei o,(decide (e<N)&&S e)=true:=λt o hto hSt e he=>by
      simp only[Aps,Apt] at hSt ⊢;obtain⟨h7,h8⟩:=hc t o hSt.1 hto hSt.2 e he;exact⟨by omega,h8⟩
    have hcl2:∀k q,((Qt ops []).getD k 0).testBit q=true→(k=i∨(decide (k<N)&&S k)=true)→(q=i∨(decide (q<N)&&S q)=true):=
      Jm ops (λk=>k=i∨(decide (k<N)&&S k)=true) ops [] (λt o' ht e he hF=>by
        rcases hF with hF | hF
        · simp at hF;subst hF
          rw[ho] at ht;simp at ht;subst ht;obtain⟨h7,h8⟩:=hb e he;exact .inr (by simp only[Aps,Apt];exact⟨by omega,h8⟩)
        · exact .inr (hcl t o' ht (by simpa using hF) e he)) (λj i hb=>by simp at hb)
    have hanc:∀q,((Qt ops []).getD i 0).testBit q=true→q≠i→S q=true:=λq hq hne=>by
      rcases hcl2 i q hq (.inl rfl) with h7 | h7
      · exact absurd h7 hne
      · simp only[Aps] at h7;exact h7.2
    have hSis:∀k (hk:k<is.length),(decide (is[k]<N)&&S is[k])=S is[k]:=λk hk=>by simp[hisN k hk]
    have hpre:∀k (hk:k<is.length),S is[k]=true→∀j (hj:j<is.length),j≤k→S is[j]=true:=λk hk hSk j hj hle=>by
      have:=pre1 (λk=>decide (k<N)&&S k) hcl k hk (by show(decide (is[k]<N)&&S is[k])=true;rw[hSis k hk];exact hSk) j hj hle
      rwa [show(decide (is[j]<N)&&S is[j])=S is[j] from hSis j hj] at this
    have hput:∀k u v,a.tmps[k]? =some u→o.dst≠some k→(a.put o.dst v).tmps[k]? =some u:=λk u v hk hne=>by
      cases hd:o.dst with
      | none=>simpa[Act.put] using hk
      | some d=>
        simp only[Act.put,Array.getElem?_setIfInBounds];rw[ApP (λe=>hne (by rw[hd,e]))];exact hk
    have hagr:∀v Z',Fz.le Z Z'→EB n l0 (a.put o.dst v) Z':=λv Z' hz=>by
      refine⟨?_,?_,λk r hk=>?_⟩
      · cases o.dst<;>simp[Act.put,h2.size]
      · cases o.dst<;>simp[Act.put,h2.defers]
      · obtain⟨u,hu,hpu⟩:=h2.tm k r hk
        exact⟨u,hput k u v hu (λe=>((hdst i o k hi ho e).1).2 (NV hk)),r.mono hz hpu⟩
    have hvals:∀(v:Value) (Z':Fz) (u':Ux),Fz.le Z Z'→(∀j,j<N→j≠i→S j=true→(Js sp j).r u'=(Js sp j).r u)→(o.dst≠none→((Js sp i).r u').p Z' v)→∀j o' d,j<N→(j ==i||S j)=true→ops[j]? =some o'→o'.dst=some d→∃q,(a.put o.dst v).tmps[d]? =some q∧((Js sp j).r u').p Z' q:=by
      intro v Z' u' hz hβ hp j o' d hj hS' ho' hd
      by_cases hji:j=i
      · subst hji
        rw[ho] at ho';simp at ho';subst ho';refine⟨v,?_,hp (by simp[hd])⟩;have hdn:d<a.tmps.size:=by rw[h2.size];exact(hdst j o d hi ho hd).1.1
        simp[Act.put,hd,hdn]
      · have hSj:S j=true:=by simpa[hji] using hS'
        obtain⟨q,hu,hpu⟩:=h3 j o' d hj hSj ho' hd;refine⟨q,hput d q v hu (λe=>(hdst i o d hi ho e).2 j hj hji (by simp[Di,ho',hd])),?_⟩;rw[hβ j hj hji hSj];exact((Js sp j).r u).mono hz hpu
    have hat:=hob.at i o (by rw[hget i hi];exact ho);rw[ApQ] at hat;have hold':∀Z',Fz.le Z Z'→∀v d q,look lw d=some q→(∀wr,wr<N→Di ops wr=some d→(wr ==i||S wr)=false)→∃v',(a.put o.dst v).tmps[d]? =some v'∧q.p Z' v':=λZ' hz v d q hd hw'=>by
      obtain⟨v',e1,e2⟩:=ho5 d q hd (λwr hwr hdw=>by have:=hw' wr hwr hdw;simp only[ApB] at this;exact this.2);refine⟨v',hput d v' v e1 (λe=>?_),q.mono hz e2⟩;have:=hw' i hi (by simp[Di,ho,e]);simp at this
    have hord:∀wr k d,wr<N→k<N→Di ops wr=some d→d∈(Js sp k).old→(wr ==i||S wr)=true→(k ==i||S k)=true:=λwr k d hwr hk hdw hmem hSw=>by
      by_cases hwi:wr=i
      · subst hwi
        have h7:=b5 k hk d (by simpa[Apy,ApI,hsa k hk] using hmem) wr hwr;simp only[ApD,bne_iff_ne,ne_eq,hdw,not_true_eq_false,false_or] at h7;rw[Apy,ho,ApE,List.contains_iff_mem] at h7;simp[(hb k h7).2]
      · have:S k=true:=ho6 wr k d hwr hk hdw hmem (by simpa[hwi] using hSw)
        simp[this]
    have hcl':∀t o',t<N→ops[t]? =some o'→(t ==i||S t)=true→∀e∈Ei o',e<t∧(e ==i||S e)=true:=λt o' ht hto hSt e he=>by
      by_cases hti:t=i
      · subst hti
        rw[ho] at hto;simp at hto;subst hto;obtain⟨h7,h8⟩:=hb e he;exact⟨h7,by simp[h8]⟩
      · obtain⟨h7,h8⟩:=hc t o' ht hto (by simpa[hti] using hSt) e he
        exact⟨h7,by simp[h8]⟩
    have hag':EB n (HH lw (Js sp i).old (CT ops (syu sp u) (Js sp i).deps l0)) a Z:=Y4 (OY h2 (λj hj d hd=>by
        obtain⟨h5,h6⟩:=b3 i hi j (by rw[hdep i hi];exact hj);rw[Apy,ho,ApE,List.contains_iff_mem] at h6;obtain⟨o2,ho2⟩:=hops j h5;obtain⟨v,hv1,hv2⟩:=h3 j o2 d h5 (hb j h6).2 ho2 (by simpa[Di,ho2] using hd);refine⟨v,hv1,?_⟩;rw[hspq u j h5];exact hv2)) (λd hd q hq=>ho5 d q hq (λwr hwr hdw=>by
          cases hS:S wr with
          | false=>rfl
          | true=>have:=ho6 wr i d hwr hi hdw hd hS;rw[this] at hun;cases hun))
    have hlev:∀j,j<N→S j=true→∀m (hm:m<is.length),m<(Js sp j).lv→S is[m]=true:=λj hj hSj m hm hlt=>by
      have h7:=b4 j hj;rw[hlv j hj] at h7;have h8:=h7.1;have hm1:(Js sp j).lv-1<is.length:=by omega
      rw[hisD _ hm1] at h7;have h9:S is[(Js sp j).lv-1]=true:=by
        have hg:=h7.2;simp only[ApD,beq_iff_eq] at hg;rcases hg with(hg | hg) | hg
        · omega
        · rw[← hg];exact hSj
        · have:=clo (λk=>decide (k<N)&&S k) hcl j _ hg (by simp[hj,hSj])
          simp only[Aps] at this;exact this.2
      exact hpre _ hm1 h9 m hm (by omega)
    unfold ObY at hat
    cases hf:is.findIdx? (λx=>Nat.beq x i) with
    | some k=>
      rw[hf] at hat;obtain⟨hk,hki,_⟩:=List.findIdx?_eq_some_iff_getElem.1 hf;have hik:is[k]=i:=Nat.eq_of_beq_eq_true hki;have hlow:∀j (hj:j<is.length),j<k→S is[j]=true:=λj hj hjk=>by
        obtain⟨k',rfl⟩:∃k',k=k'+1:=⟨k-1,by omega⟩
        have h7:=bch (k'+1) hk;rw[hisD _ hk] at h7;simp only[ApD,beq_iff_eq,Nat.succ_ne_zero,false_or,Nat.add_sub_cancel] at h7;have hk':k'<is.length:=by omega
        rw[hisD k' hk',hik] at h7;have hne:is[k']≠i:=λe=>by
          have:=(List.getElem_inj Nu).1 (e.trans hik.symm);omega
        exact hpre k' hk' (hanc _ h7 hne) j hj (by omega)
      have hhigh:∀j (hj:j<is.length),k≤j→S is[j]=false:=λj hj hle=>by
        cases hS:S is[j] with
        | false=>rfl
        | true=>have:=hpre j hj hS k hk hle;rw[hik,hun] at this;cases this
      have hcnt:cnt S is=k:=Vw (by omega) (λj hj h=>hlow j hj h) (λj hj h=>hhigh j hj h);have hcnt':cnt (λj=>j ==i||S j) is=k+1:=Vw (by omega) (λj hj h=>by
        by_cases e:j=k
        · subst e;simp[hik]
        · simp[hlow j hj (by omega)]) (λj hj h=>by
        have hne:is[j]≠i:=λe=>by have:=(List.getElem_inj Nu).1 (e.trans hik.symm);omega
        simp[hne,hhigh j hj (by omega)])
      rw[hcnt] at h1;have key:=λK' hK'=>hat u a w Z K' hag' h1 hK';have h5:∀u' v w' Z',Ag k u u'→Fz.le Z Z'→((Js sp i).r u').p Z' v→St c (hs.getD (k+1) (λ_=>[]) u') Z' w'→K (a.put o.dst v) w':=λu' v w' Z' hag hz hpv hs'=>by
        refine hK _ _ ⟨u',Z',by rw[hcnt'];exact hs',hagr v Z' hz,hvals v Z' u' hz (λj hj hji hSj=>?_) (λ_=>hpv),hcl',hold' Z' hz v,hord⟩;refine(hst.at (hsa j hj) u u' (λm hm=>hag m ?_)).symm;have hlj:=(b4 j hj).1;rw[hlv j hj] at hlj;have hml:m<is.length:=by omega
        cases Nat.lt_or_ge m k with
        | inl h7=>exact h7
        | inr h7=>have:=hlev j hj hSj m hml hm;rw[hhigh m hml h7] at this;cases this
      refine⟨λ_=>(key K h5).2,λhw'=>?_⟩;rw[(key K h5).1] at hw';cases hw'
    | none=>
      rw[hf] at hat;have hni:∀x∈is,x≠i:=λx hx e=>by
        have:=List.findIdx?_eq_none_iff.1 hf x hx;subst e;simp at this
      have hcnt':cnt (λj=>j ==i||S j) is=cnt S is:=Xh λx hx=>by simp[hni x hx]
      by_cases hfi:(Js sp i).fx=true
      · simp only[hfi,Aqp] at hat
        have hli:=b4 i hi;rw[hlv i hi] at hli;have hcnt:cnt S is=(Js sp i).lv:=Vw hli.1 (λj hj h=>?_) (λj hj h=>?_)
        · rw[hcnt] at h1
          refine hat u a w Z K hag' h1 (λv w' Z' hz hp hst'=>hK _ _ ⟨u,Z',?_,hagr v Z' hz,hvals v Z' u hz (λ_ _ _ _=>rfl) (λ_=>hp),hcl',hold' Z' hz v,hord⟩);rw[hcnt',hcnt];exact hst'
        · have h7:=hli.2
          have hm1:(Js sp i).lv-1<is.length:=by omega
          rw[hisD _ hm1] at h7;simp only[ApD,beq_iff_eq] at h7;rcases h7 with(h7 | h7) | h7
          · omega
          · exact absurd h7.symm (hni _ (List.getElem_mem hm1))
          · exact hpre _ hm1 (hanc _ h7 (hni _ (List.getElem_mem hm1))) j hj (by omega)
        · have h7:=b6 i hi
          rw[hfx i hi,hfi,hlv i hi] at h7;simp only[Ap0,ApJ,ApD,beq_iff_eq] at h7;rcases h7 with h7 | h7
          · omega
          · have hm1:(Js sp i).lv<is.length:=by omega
            rw[hisD _ hm1] at h7
            cases hS:S is[j] with
            | false=>rfl
            | true=>
              have h8:=hpre j hj hS _ hm1 h;have:=clo (λk=>decide (k<N)&&S k) hcl _ _ h7 (by show(decide (is[(Js sp i).lv]<N)&&S is[(Js sp i).lv])=true;rw[hSis _ hm1];exact h8);simp only[Aps,hun] at this;exact absurd this.2 (by simp)
      · simp only[hfi,Aqe] at hat
        refine hat u (cnt S is) (List.length_filter_le _ _) a w Z K hag' h1 (λv w' Z' hz hp hst'=>hK _ _ ⟨u,Z',?_,hagr v Z' hz,hvals v Z' u hz (λ_ _ _ _=>rfl) (λ_=>hp),hcl',hold' Z' hz v,hord⟩);rw[hcnt'];exact hst'
  · obtain⟨u,Z,h1,h2,h3,_,_,_⟩:=hI
    have hsl:(saY sp u).length=N:=by simp[saY,hsp]
    have hcnt:cnt (λ_=>true) is=is.length:=Vw (Ap8 _) (λ_ _ _=>rfl) (λj hj h=>by omega);rw[hcnt] at h1;refine h u a w Z (TQ h2 _ _ 0 (λt o s d ht hs hd=>?_)) h1;have htN:t<N:=by have:=(List.getElem?_eq_some_iff.1 hs).1;omega
    have hs':s = { deps:=(Js sp t).deps,r:=(Js sp t).r u }:=by
      simp only[saY,ApI,hsa t htN,Option.map_some,Option.some.injEq] at hs;exact hs.symm
    subst hs';rw[ApQ];exact h3 t o d htN rfl (by rw[← hget t htN];exact ht) hd
theorem AkS (N:Nat)(is ks0 ksw:List Nat)(sp:List Sy)(hs:List (Ux→List Ent))(hst:Xl sp)(hob:SA P n c ops.toArray Q ops sp l0 lw is hs 0 (ops.take N))(h:∀u,WL P n c ops.toArray Q (ops.drop N) (PD (λ_=>0) (ops.take N) (saY sp u) 0 l0) (hs.getD is.length (λ_=>[]) u))
  (h0:Kp ks0 l l0:=by repeat (first | exact RX | (apply Pf;rfl) | (apply QY;rfl))) (hw:Kp ksw l lw:=by repeat (first | exact RX | (apply Pf;rfl) | (apply QY;rfl))) (hm:P.follows .mixedOrders=true:=by kernel_rfl) (hB:okY n ops N is (Hp l0) (sp.map (·.deps)) (sp.map (·.lv)) (sp.map (·.fx)) (sp.map (·.old))=true:=by kernel_rfl)
  (hsp:sp.length=N:=by rfl) (hH:∀u,hs.getD 0 (λ_=>[]) u=H:=by exact λ_=>rfl):WC P n c (.region id ops.toArray true) Q l H:=AiH N is sp hs hm hB h0.one hw.one hsp hst hH hob h
theorem oyc (hr:∀{u H},EV P n c opsA Q (HH lw (Js sp i).old (CT all (syu sp u) (Js sp i).deps l0)) H o ((Js sp i).r u) H)(h:SA P n c opsA Q all sp l0 lw is hs (i+1) rest)(hne:is.findIdx? (λx=>Nat.beq x i)=none:=by rfl)(hf:(Js sp i).fx=false:=by rfl):SA P n c opsA Q all sp l0 lw is hs i (o::rest):=by
 refine⟨?_,h⟩;unfold ObY;rw[hne];simp only[hf,ApL,Aqe];exact λu _ _=>hr
def Akw (p:List Ent→Prop)(u:Ux):List (Ux→List Ent)→Prop
 | []=>True
 | f::r=>p (f u)∧Akw p u r
theorem Akw.at {p:List Ent→Prop}{u:Ux}:∀{hs:List (Ux→List Ent)},Akw p u hs→∀k,k<hs.length→p (hs.getD k (λ_=>[]) u)
 | [],_,k,h=>absurd h (Nat.not_lt_zero _)
 | f::r,⟨h1,h2⟩,0,_=>h1
 | f::r,⟨h1,h2⟩,k+1,h=>Akw.at h2 k (by simpa using h)
theorem oyf (hr:∀{u},EV P n c opsA Q (HH lw (Js sp i).old (CT all (syu sp u) (Js sp i).deps l0)) (hs.getD (Js sp i).lv (λ_=>[]) u) o ((Js sp i).r u) (hs.getD (Js sp i).lv (λ_=>[]) u))(h:SA P n c opsA Q all sp l0 lw is hs (i+1) rest)(hne:is.findIdx? (λx=>Nat.beq x i)=none:=by rfl)(hf:(Js sp i).fx=true:=by rfl):SA P n c opsA Q all sp l0 lw is hs i (o::rest):=by
 refine⟨?_,h⟩;unfold ObY;rw[hne];simp only[hf,Aqp];exact λu=>hr
theorem oyx (k:Nat)(hr:∀{u},OpY P n c opsA Q (HH lw (Js sp i).old (CT all (syu sp u) (Js sp i).deps l0)) (hs.getD k (λ_=>[]) u) o k u (Js sp i).r (hs.getD (k+1) (λ_=>[])))(h:SA P n c opsA Q all sp l0 lw is hs (i+1) rest)(hne:is.findIdx? (λx=>Nat.beq x i)=some k:=by rfl):SA P n c opsA Q all sp l0 lw is hs i (o::rest):=by
 refine⟨?_,h⟩;unfold ObY;rw[hne];exact λu=>hr
theorem oye:SA P n c opsA Q all sp l0 lw is hs i []:=trivial
end
section
variable {P : Program} {n : Nat} {c : Cx} {opsA : Array Oper} {Q : Exit → Act → World → Prop} {l : Fr} {H : List Ent} {d : Nat} {x y : Operand} {ty t e : TypeId} {pos : String} {af : Array Edge} {v : Value} {sz : Nat}
theorem AkQ {k:Nat}{u:Ux}{f:FuncId}{r:Ux→Rp}{H1:Ux→List Ent}{Φ:Rp→List Ent→Prop}(hcall:∀(as1:Array Value) (w:World),(callFunc f as1).run P w = .ok (.enter f as1) w)(hv:Ph l args=some rs)
  (hp:H.Perm (Hin++Hr)) (hc:Fn P c.E f rs Hin Φ) (hΦ:∀r' H',Φ r' H'→∃u',Ag k u u'∧r'=r u'∧H'++Hr=H1 u'):OpY P n c opsA Q l H { dst:=some d,op:=.call { callee:=.value (.func f),args:=args.toArray,argTypes:=ats },type:=ty,pos:=pos,after:=af,guard:=none } k u r H1:=λa w Z K ha hw hK=>by
 refine⟨by simp[Region.wanted],?_⟩;unfold Oper.wp;rw[Ha rfl hcall w];refine(hc w Z _ (H6 ha hv) (hw.perm hp).enter).mono ?_;rintro e w' ⟨r',v,H',Z',rfl,hΦ',hr,hs⟩;obtain⟨u',h1,h2,h3⟩:=hΦ r' H' hΦ';subst h2;exact hK u' v w' Z' h1 hs.le hr (h3▸(hw.perm hp).call hs)
end
end Go.Proofs.YtphnhpcjnmmhiaaGreatDoor.Q
namespace Go.Proofs.YtphnhpcjnmmhiaaGreatDoor
open Go
end Go.Proofs.YtphnhpcjnmmhiaaGreatDoor
namespace Go.Proofs.YtphnhpcjnmmhiaaGreatDoor.Q
open Go Go.RowKit
set_option linter.unusedVariables false
section
variable {P : Program} {n : Nat} {c : Cx} {ops : Array Oper} {Q : Exit → Act → World → Prop} {rest : List Oper} {l : Fr} {H : List Ent} {d : Nat} {d' : Option Nat} {t kt et ty : TypeId} {pos : String} {af : Array Edge} {g : Option (Nat × Bool)} {x y u : Operand} {b i : Nat} {T : Type} {enc : T → Rp} {xs : List (Int × T)} {z : T} {zv : Value}
end
set_option linter.unusedSimpArgs false
def PtZ (k:Nat)(i:Int)(off:Nat)(Z:Fz)(v:Value):Prop:=if i<0 then v = .pointer none else ∃b,Z.nm k i.toNat=some b∧v = .pointer (some ⟨b,off,none⟩)
def rPt (k:Nat)(i:Int)(off:Nat):Rp:=⟨PtZ k i off,fun {Z Z' v} h hp=>by
 unfold PtZ at *
 split
 ·rename_i h0;rwa [ApW h0] at hp
 ·rename_i h0;rw[ApP h0] at hp;obtain⟨b,h1,h2⟩:=hp;exact⟨b,h.nm k _ b h1,h2⟩,true,λ_ Z v hp=>by
 change PtZ k i off Z v at hp
 unfold PtZ at hp
 split at hp
 ·rw[hp];rfl
 ·obtain⟨b,_,h2⟩:=hp;rw[h2];rfl⟩
@[reducible] def mP (k:Nat)(i:Int):Rp:=rPt k i 0
theorem AnK (k:Nat)(Z:Fz):(mP k (-1)).p Z (.pointer none):=rfl
theorem Hx.pnil (k:Nat):Hx (rv (.pointer none)) (rPt k (-1) 0):=λZ v h=>h
section
variable {P : Program} {n : Nat} {c : Cx} {ops : Array Oper} {Q : Exit → Act → World → Prop} {rest : List Oper} {l : Fr} {H H' : List Ent} {d : Nat} {d' : Option Nat} {x y : Operand} {ty t t' e : TypeId} {pos : String} {af : Array Edge} {g : Option (Nat × Bool)} {v u : Value} {r : Rp} {sz k : Nat} {pv : Value} {α : Type} [Inhabited α] {xs : List α} {enc : α → List Rp}
theorem PtZ.of {Z:Fz}{b N:Nat}(h:Z.nm k N=some b):∀v,(rv (.pointer (some ⟨b,0,none⟩))).p Z v→(rPt k (N:Int) 0).p Z v:=λv hv=>by
 show PtZ k N 0 Z v;unfold PtZ;rw[ApP (by omega)];exact⟨b,by simpa using h,hv⟩
def V6 (l:Fr)(b:Nat):List Nat→Prop
 | []=>True
 | d::ds=>look l d=some (rv (.pointer (some ⟨b,0,none⟩)))∧V6 l b ds
def asP (k N:Nat):List Nat→Fr→Fr
 | [],l=>l
 | d::ds,l=>(d,rPt k (N:Int) 0)::asP k N ds l
theorem Acn {Z:Fz}{a:Act}{b N:Nat}{l:Fr}(ha:EB n l a Z)(hn:Z.nm k N=some b):∀{ds:List Nat},V6 l b ds→EB n (asP k N ds l) a Z
 | [],_=>ha
 | d::ds,⟨h1,h2⟩=>by
  have h3:=Acn ha hn h2;refine⟨h3.size,h3.defers,λi u hi=>?_⟩;rw[asP,Dp] at hi
  split at hi
  ·rename_i e;subst e;simp at hi;subst hi
   obtain⟨v,h4,h5⟩:=ha.tm d _ h1;exact⟨v,h4,PtZ.of hn v h5⟩
  ·exact h3.tm i u hi
end
section
variable {P : Program} {n : Nat} {c : Cx} {ops opsA : Array Oper} {Q : Exit → Act → World → Prop} {rest : List Oper} {l : Fr} {H : List Ent} {d : Nat} {d' : Option Nat} {ty t kt et rty : TypeId} {pos : String} {af : Array Edge} {g : Option (Nat × Bool)} {x y u : Operand} {K : Act → World → Prop} {cx : Code} {r : Rp}
variable {T : Type} {enc : T → Rp} {xs : List (Ac × T)} {z : T} {k : Ac} {zv : Value} {i b : Nat}
end
def fnv:Nat→Value
 | 0=>.nilFunc
 | k+1=>.func (.func (k+1)) #[] #[]
def mFo (k:Nat):Rp:=⟨λ_ v=>v=fnv k,λ_ h=>h,true,λ_ Z v h=>by rw[h];cases k<;>rfl⟩
@[reducible] def S0 (k:Nat):List Rp:=[mFo k]
theorem Jy (k:Nat):(S0 k).length=1:=rfl
def Pe {α:Type}(t:TypeId)(f:α→Rp):Option α→Rp
 | none=>rv .nilIface
 | some a=>rIf t (f a)
def Am7:TypeDesc→Bool
 | .interface _=>false
 | _=>true
variable{α:Type}{args:List Operand}{f:FuncId}{o:Option α}{name:String}{ats:Array TypeId}{rs:List Rp}
section
variable {P : Program} {n : Nat} {c : Cx} {ops opsA : Array Oper} {Q : Exit → Act → World → Prop} {rest : List Oper} {l : Fr} {H Hr : List Ent} {d : Nat} {d' : Option Nat} {ty t kt et rty : TypeId} {pos : String} {af : Array Edge} {g : Option (Nat × Bool)} {x y : Operand} {r q : Rp}
theorem Am3 {k:Nat}(hu:∃a b e,P.underlying t=some (.func a b e))(hx:ev l x=some (mFo k)):Cd P n c l H { dst:=d',op:=.binOp .neq t x (.const .nilFunc) rty,type:=ty,pos:=pos,after:=af,guard:=g } (rB (!decide (k=0))):=λa w Z ha hw=>by
 obtain⟨a1,a2,a3,hu⟩:=hu;have h:a.eval x=fnv k:=ha.ev hx;have hy:a.eval (.const .nilFunc) = .nilFunc:=rfl;refine⟨_,rfl,?_⟩
 cases k with
 | zero=>
  have h1:∀dd:Nat,(Op.equalIn (dd+1) t .nilFunc .nilFunc).run P w = .ok true w:=λdd=>by simp[Op.equalIn,run_underlying hu]
  have h2:(Op.equal t .nilFunc .nilFunc).run P w = .ok true w:=h1 9999;simp[execOp,h,hy,fnv,eqGuard,binOp,h2]
 | succ k=>
  have h1:∀dd:Nat,(Op.equalIn (dd+1) t (.func (.func (k+1)) #[] #[]) .nilFunc).run P w = .ok false w:=λdd=>by simp[Op.equalIn,run_underlying hu]
  have h2:(Op.equal t (.func (.func (k+1)) #[] #[]) .nilFunc).run P w = .ok false w:=h1 9999;simp[execOp,h,hy,fnv,eqGuard,binOp,h2]
theorem JQ {u:TypeDesc}(hu:P.underlying t=some u)(hni:Am7 u=true)(hx:ev l x=some r):Cd P n c l H { dst:=d',op:=.makeInterface t x,type:=ty,pos:=pos,after:=af,guard:=g } (rIf t r):=λa w Z ha hw=>⟨.iface t (a.eval x),⟨_,rfl,ha.ev hx⟩,by
 cases u<;>first | (cases hni;done) | simp[execOp,Instr.makeInterface,run_underlying hu]⟩
theorem Up.ifo {f:α→Rp}{a:α}(h:Up H r (f a)):Up H (rIf t r) (Pe t f (some a)):=λc Z w v hw ⟨u,e,hu⟩=>⟨u,e,h c Z w u hw hu⟩
theorem Adb {f:α→Rp}(hu:∃ms,P.underlying kt=some (.interface ms))(hx:ev l x=some (Pe t f o)):Cd P n c l H { dst:=d',op:=.binOp .eql kt x (.const .nilIface) rty,type:=ty,pos:=pos,after:=af,guard:=g } (rB o.isNone):=λa w Z ha hw=>by
 obtain⟨ms,hu⟩:=hu;have h:=ha.ev hx;have hy:a.eval (.const .nilIface) = .nilIface:=rfl;refine⟨_,rfl,?_⟩
 cases o with
 | none=>
  have h:a.eval x = .nilIface:=h;have h1:∀dd:Nat,(Op.equalIn (dd+1) kt .nilIface .nilIface).run P w = .ok true w:=λdd=>by simp[Op.equalIn,run_underlying hu]
  have h2:(Op.equal kt .nilIface .nilIface).run P w = .ok true w:=h1 9999;have h3:(eqGuard .eql kt x (.const .nilIface) .nilIface .nilIface).run P w = .ok () w:=by unfold eqGuard;simp
  simp[execOp,h,hy,h3,binOp,h2]
 | some b=>
  obtain⟨u,e,_⟩:=h;have h1:∀dd:Nat,(Op.equalIn (dd+1) kt (.iface t u) .nilIface).run P w = .ok false w:=λdd=>by simp[Op.equalIn,run_underlying hu]
  have h2:(Op.equal kt (.iface t u) .nilIface).run P w = .ok false w:=h1 9999;have h3:(eqGuard .eql kt x (.const .nilIface) (.iface t u) .nilIface).run P w = .ok () w:=by unfold eqGuard;simp
  simp[execOp,e,hy,h3,binOp,h2]
theorem Ae8 {f:α→Rp}{d0:α}(h:o.isSome=true):Hx (Pe t f o) (rIf t (f (Option.getD o d0))):=λZ v hv=>by
 cases o with
 | none=>cases h
 | some b=>exact hv
theorem X8 {o:Oper}{a:Act}{u:Value}(ho:o.op = .call { callee:=.invoke x name,args:=args.toArray,argTypes:=ats })(hx:a.eval x = .iface t u)
  (hm:∀v w,(method (P.types.size+Made.depth) t v name).run P w = .ok (f,v) w) (hcall:∀(as1:Array Value) (w:World),(callFunc f as1).run P w = .ok (.enter f as1) w) (w:World):(execOp a.eval o).run P w = .ok (.enter f (u::args.map a.eval).toArray) w:=by
 have h2:=hm u w;simp only[execOp,ho,resolve,hx];simp[invoke,callMethod,h2,hcall,List.take_of_length_le]
theorem AcX (hm:∀v w,(method (P.types.size+Made.depth) t v name).run P w = .ok (f,v) w)(hcall:∀(as1:Array Value) (w:World),(callFunc f as1).run P w = .ok (.enter f as1) w)
  (hx:ev l x=some (rIf t q)) (hc:Fn0 P c.E f (q::rs) r) (hv:Ph l args=some rs) :
  EV P n c opsA Q l H { dst:=some d,op:=.call { callee:=.invoke x name,args:=args.toArray,argTypes:=ats },type:=ty,pos:=pos,after:=af,guard:=none } r H:=λa w Z K ha hw hK=>
 ⟨λ_=>by
  obtain⟨u,e,hu⟩:=ha.ev hx;unfold Oper.wp;rw[X8 rfl e hm hcall w];refine(hc w Z (u::args.map a.eval) ⟨hu,H6 ha hv⟩ (St.enter (Hin:=[]) (Hr:=H) hw)).mono ?_;rintro e w' ⟨r2,v,Ho,Z',rfl,⟨rfl,rfl⟩,hr2,hs⟩;exact hK v w' Z' hs.le hr2 (by simpa using hw.call0 hs),λh=>by simp[Region.wanted] at h⟩
theorem XU {Hin Hr:List Ent}(hm:∀v w,(method (P.types.size+Made.depth) t v name).run P w = .ok (f,v) w)(hcall:∀(as1:Array Value) (w:World),(callFunc f as1).run P w = .ok (.enter f as1) w)
  (hx:ev l x=some (rIf t q)) (hp:H.Perm (Hin++Hr)) (hc:Fn P c.E f (q::rs) Hin (λr' H'=>r'=r∧H'=Hin)) (hv:Ph l args=some rs) :
  EV P n c opsA Q l H { dst:=some d,op:=.call { callee:=.invoke x name,args:=args.toArray,argTypes:=ats },type:=ty,pos:=pos,after:=af,guard:=none } r H:=λa w Z K ha hw hK=>
 ⟨λ_=>by
  obtain⟨u,e,hu⟩:=ha.ev hx;unfold Oper.wp;rw[X8 rfl e hm hcall w];have hw2:=hw.perm hp;refine(hc w Z (u::args.map a.eval) ⟨hu,H6 ha hv⟩ hw2.enter).mono ?_;rintro e w' ⟨r2,v,Ho,Z',rfl,⟨rfl,rfl⟩,hr2,hs⟩;exact hK v w' Z' hs.le hr2 ((hw2.call hs).perm hp.symm),λh=>by simp[Region.wanted] at h⟩
theorem TG {ff:α→Rp}{d0:α}(hm:∀v w,(method (P.types.size+Made.depth) t v name).run P w = .ok (f,v) w)(hcall:∀(as1:Array Value) (w:World),(callFunc f as1).run P w = .ok (.enter f as1) w)
  (hx:ev l x=some (Pe t ff o)) (hs:o.isSome=true) (hc:Fn0 P c.E f (ff (Option.getD o d0)::rs) r) (hv:Ph l args=some rs) :
  EV P n c opsA Q l H { dst:=some d,op:=.call { callee:=.invoke x name,args:=args.toArray,argTypes:=ats },type:=ty,pos:=pos,after:=af,guard:=none } r H:=λa w Z K ha hw hK=>
 ⟨λ_=>by
  obtain⟨u,e,hu⟩:=Ae8 (d0:=d0) hs Z _ (ha.ev hx);unfold Oper.wp;rw[X8 rfl e hm hcall w];refine(hc w Z (u::args.map a.eval) ⟨hu,H6 ha hv⟩ (St.enter (Hin:=[]) (Hr:=H) hw)).mono ?_;rintro e w' ⟨r2,v,Ho,Z',rfl,⟨rfl,rfl⟩,hr2,hs⟩;exact hK v w' Z' hs.le hr2 (by simpa using hw.call0 hs),λh=>by simp[Region.wanted] at h⟩
theorem An5 {k:Nat}(hk:(!decide (k=0))=true)(hc:(∀(as1:Array Value) (w:World),(callFunc k as1).run P w = .ok (.enter k as1) w)∧Fn0 P c.E k rs r)(hx:ev l x=some (mFo k))(hv:Ph l args=some rs)(h:WL P n c ops Q rest ((d,r)::l) H)(hn:Nat.blt d n=true:=by rfl) :
  WL P n c ops Q ({ dst:=some d,op:=.call { callee:=.value x,args:=args.toArray,argTypes:=ats },type:=ty,pos:=pos,after:=af,guard:=none }::rest) l H:=by
 cases k with
 | zero=>cases hk
 | succ k=>
  have hk':(if k+1=0 then Value.nilFunc else .func (.func (k+1)) #[] #[]) = .func (.func (k+1)) #[] #[]:=by simp
  exact Jr (caps:=[]) (Hin:=[]) (Hr:=H) hc.1 (show ev l x=some (rv (.func (.func (k+1)) #[] ([]:List Value).toArray)) from hx) hv (Ap3 _) (by simpa using hc.2) hn (by rintro _ _ ⟨rfl,rfl⟩;exact h)
theorem AiL {enc:α→List Rp}{inf:TypeInfo}{z:Value}{zα:α}{rz:Rp}{kl kc:IntKind}{m:Int}{bytes:Nat}{e:TypeId}(ht:P.underlying t=some (.slice e))(hinf:P.info? e=some inf)(hz:inf.zero=some z)(hsize:inf.size=1)(hby:inf.bytes=bytes)(hbp:Nat.blt 0 bytes=true)
  (hzc:z.cells = #[z]) (henc:enc zα=[rz]) (hrz:∀Z,rz.p Z z)
  (hx:ev l x=some (rI kl m)) (hy:ev l y=some (rI kc m)) (hg:Dl bytes m.toNat=true) (hg0:decide (0≤m)=true) (hn:Nat.blt d n=true)
  (h:∀v',WL P n c ops Q rest ((d,rv v')::l) (.row v' e 1 ((List.replicate m.toNat zα).map enc)::H)) :
  WL P n c ops Q ({ dst:=some d,op:=.makeSlice t x y,type:=ty,pos:=pos,after:=af,guard:=none }::rest) l H:=by
 have em:((m.toNat:Nat):Int)=m:=Int.toNat_of_nonneg (ApH hg0);exact AkV (m:=m.toNat) ht hinf hz hsize hby hbp hzc henc hrz (by rw[em];exact hx) (by rw[em];exact hy) hg hn h
theorem P2 {r:Rp}(hx:ev l x=some (rIf t r)):Cd P n c l H { dst:=d',op:=.nilCheck x,type:=ty,pos:=pos,after:=af,guard:=g } (rIf t r):=λa w Z ha hw=>by
 have h:=ha.ev hx;obtain⟨u,e1,hu⟩:=h;exact⟨a.eval x,⟨u,e1,hu⟩,by simp[execOp,e1]⟩
theorem AiR (s:List UInt8)(i:Nat){c:List Rp}(h:((GL s).map D5)[i]? =some c):∃u,s[i]? =some u∧c=[rI .u8 (u.toNat:Int)]:=by
 simp only[GL,Aqo,ApI,Option.map_eq_some_iff] at h;obtain⟨u,h1,h2⟩:=h;exact⟨u,h1,h2.symm⟩
theorem St.s2b {Z:Fz}{w:World}(hw:St c H Z w)(s:List UInt8)(e:TypeId)(cap:Nat)(h1:s.length≤cap)(h2:cap≤maxLen)(mk:Nat×Nat) :
  ∃Z',Fz.le Z Z'∧St c H Z' (w.drew.alloc (.cells (bytesRow (B s) cap) e mk))∧(B4 1 ((GL s).map D5)).p Z' (.slice (some ⟨w.heap.size,0,none⟩) s.length cap):=by
 let o:Obj:=.cells (bytesRow (B s) cap) e mk
 let w':World:=w.drew.alloc o
 let Z':Fz:=⟨λb=>if b=w.heap.size then some o else Z b,Z.nm⟩
 have hs:St c H Z w':=(hw.add (w':=w') (e':=.fact (.bool true) (rv (.bool true))) rfl rfl rfl (by show w.heap.size≤(w.heap.push o).size;simp) (λk hk=>Below.heap_alloc w.drew o k hk) rfl (by simp[Ent.foot])).sub (List.sublist_cons_self _ _);have ho:w'.heap[w.heap.size]? =some o:=by show(w.heap.push o)[w.heap.size]? =some o;simp
 have hgz:Z w.heap.size=none:=by
  cases hz:Z w.heap.size with
  | none=>rfl
  | some q=>have:=hw.frz.lt hz;omega
 have hle:Fz.le Z Z':=⟨λb q hb=>by
  have:b≠w.heap.size:=λe=>by subst e;rw[hgz] at hb;cases hb
  simpa[Z',this] using hb,λ_ _ _ h=>h⟩
 refine⟨Z',hle,?_,?_⟩
 ·refine { hs with has:=λen he=>Ent.keep (hs.has en he) hle λ_ _=>rfl,frz:=⟨λb q hb=>?_,hs.frz.nm⟩,gst:=hs.gst.names rfl,le:=hs.le.trans hle,new:=λb q hb=>?_,zdis:=λen he k hk=>?_,env:=hs.emono hle hs.env }
  ·by_cases hbg:b=w.heap.size
   ·subst hbg;simp[Z'] at hb;rw[← hb];exact ho
   ·simp[Z',hbg] at hb;exact hs.frz b q hb
  ·by_cases hbg:b=w.heap.size
   ·subst hbg;exact .inr (.inl hw.size)
   ·simp[Z',hbg] at hb;exact hs.new b q hb
  ·have:=hw.mem_lt he hk;have hkg:k≠w.heap.size:=by omega
   simp only[Z',hkg,Aqe];exact hs.zdis en he k hk
 ·refine⟨some ⟨w.heap.size,0,none⟩,cap,by simp[GL],by simpa[GL] using h1,h2,(λh=>by cases h),λi cl hi=>?_⟩;obtain⟨u,hu,rfl⟩:=AiR s i hi;refine⟨rfl,⟨w.heap.size,0,none⟩,rfl,rfl,λj r hj=>?_⟩
  cases j with
  | succ j=>simp at hj
  | zero=>
   simp at hj;subst hj;refine⟨.int .u8 (u.toNat:Int),?_,rfl⟩;have hi':i<s.length:=(List.getElem?_eq_some_iff.1 hu).1;have he:s[i]=u:=(List.getElem?_eq_some_iff.1 hu).2;simp only[LB,Z',Aqp,o,bytesRow,B];rw[Array.getElem?_append_left (by simpa using hi')];simp[hi',he]
theorem Amj {s:List UInt8}{e t':TypeId}(hs:P.underlying t=some .string)(hd:P.underlying t'=some (.slice e))(he:P.underlying e=some (.int .u8))(hx:ev l x=some (rS s))(hg:Dl 1 s.length=true)(hn:Nat.blt d n=true)
  (h:WL P n c ops Q rest ((d,B4 1 ((GL s).map D5))::l) H) :
  WL P n c ops Q ({ dst:=some d,op:=.convert t t' x,type:=ty,pos:=pos,after:=af,guard:=none }::rest) l H:=
 Pd (λa w Z ha hw=>by
  have hb:s.length≤140737488355328:=by simpa[Dl] using hg
  have e1:=run_bytes_of_string (P:=P) w t t' e (B s) hs hd he;have hsz:(B s).size=s.length:=rfl;rw[hsz] at e1;obtain⟨Z',hz,h1,h2⟩:=St.s2b hw s e (grownCap w s.length 0 e) (grownCap_ge w s.length 0 e) (grownCap_le_maxLen w s.length 0 e (by have:maxLen=9223372036854775807:=rfl;omega)) ((bytesRow (B s) (grownCap w s.length 0 e)).size,(bytesRow (B s) (grownCap w s.length 0 e)).size+1);exact⟨_,_,_,_,Z',by simp[execOp,ha.eval hx,e1],hz,h2,h1,h⟩) hn
end
set_option maxRecDepth 100000
set_option maxHeartbeats 4000000
@[reducible] def Sz (x:(List Ac)):List Rp:=[B4 1 (Bu eS x)]
theorem Acd (x:(List Ac)):(Sz x).length=1:=rfl
@[reducible] def AK (x:Ad):List Rp:=[rB x.fAllow,B4 1 (Bu eS x.fActions),B4 1 (Bu eS x.fResources)]
theorem G2 (x:Ad):(AK x).length=3:=rfl
theorem Qr (x:Ad):(AK x).all (·.one)=true:=rfl
@[reducible] def HL (x:Ch):List Rp:=[rB x.fAllowed,AZ x.fIndex]
@[reducible] def B1 (x:A1):List Rp:=[rB x.fAllow,AZ x.fAddr,AZ x.fBits,AZ x.fLow,AZ x.fHigh]
theorem Jl (x:A1):(B1 x).length=5:=rfl
theorem Sw (x:A1):(B1 x).all (·.one)=true:=rfl
theorem Ir:ifI 9 (.string ⟨#[]⟩) 1 16:=Ra (by kernel_rfl)
theorem JJ (parts:List (Nat×Value)):Tryz.prog.built 140 parts=Instr.fill (λi=>(#[(0,1),(1,1)]:Array (Nat×Nat))[i]?) #[(.bool false),(.int .i64 0)] parts:=by kernel_rfl
theorem Pt (s x:Ac)(r:Bool)(h:J2 s x=some r):FN 206 [rS s,rS x] [] (PO (rB r)):=en Tryz.func206 Tryz.ntmps206 Aa λw Z=>AA Aa<|AJ<|ck h λg1 h2=>ck h2 λg3 h4=>Ar [(4,rB ((Bm ((x.length:Int)≤(s.length:Int)))&&(Bm ((List.drop (D3 ((s.length:Int)-(x.length:Int))) s)=x))))] [] (B7 Aa<|wv Bo<|ms Aa<|wv Bo<|wv DK<|ms Aa<|AF (Bm ((x.length:Int)≤(s.length:Int))) (λc5=>wo c5<|ms Aa<|wo c5<|ms Aa<|Bq c5 Bo<|wo c5<|ms Aa<|Bq c5 Bo<|Bq c5 (DV (BL g1 c5))<|Bq c5 (Gy Lb Aa Aa (BL g3 c5))<|wo c5<|ms Aa<|Bq c5 BA<|Ej Aa c5 Aa<|Bg Aa<|BR c5) λc5=>CB c5 Aa<|wv (Am c5)<|Bg Aa<|BR c5)<|BO<|cs h4▸CY Tryz.results206 ⟨Aa,Aa⟩
theorem Un (s x r:Ac)(h:M4 s x=some r):FN 205 [rS s,rS x] [] (PO (rS r)):=en Tryz.func205 Tryz.ntmps205 Aa λw Z=>Ay<|wv (r:=rS ([]:Ac)) AT<|BD Aa<|ob h λr1 e3 h2=>BV Tryz.call206 (Pt s x r1 e3)<|AJ<|B2 h2 (λc4 h5=>AA Aa<|wv Bo<|ms Aa<|wv Bo<|ck h5 λg6 h7=>wv (DV g6)<|ck h7 λg8 h9=>wv (HZ Lb Aa Aa g8)<|By Aa<|Ao<|cs h9▸CY Tryz.results205 ⟨Aa,Aa⟩) λc4 hb=>BW<|B6 Aa<|cs hb▸CY Tryz.results205 ⟨Aa,Aa⟩
theorem Aat (s x:Ac)(r:Bool)(h:Sm s x=some r):FN 187 [rS s,rS x] [] (PO (rB r)):=en Tryz.func187 Tryz.ntmps187 Aa λw Z=>AA Aa<|BM Aa<|ob h λr1 e3 h2=>BV Tryz.call206 (Pt s x r1 e3)<|By Aa<|cs h2▸CY Tryz.results187 ⟨Aa,Aa⟩
theorem Xx (s x r:Ac)(h:PJ s x=some r):FN 186 [rS s,rS x] [] (PO (rS r)):=en Tryz.func186 Tryz.ntmps186 Aa λw Z=>Ay<|wv (r:=rS ([]:Ac)) AT<|BM Aa<|ob h λr1 e3 h2=>BV Tryz.call205 (Un s x r1 e3)<|By Aa<|cs h2▸CY Tryz.results186 ⟨Aa,Aa⟩
theorem WS (s r:Ac)(h:I7 s=some r):FN 152 [rS s] [] (PO (rS r)):=en Tryz.func152 Tryz.ntmps152 Aa λw Z=>Ay<|wv (r:=rS ([]:Ac)) AT<|BM Aa<|ob h λr1 e3 h2=>BV Tryz.call186 (Xx s ([42]:Ac) r1 e3)<|By Aa<|cs h2▸CY Tryz.results152 ⟨Aa,Aa⟩
theorem Adt (s:Ac)(r:Bool)(h:Rb s=some r):FN 153 [rS s] [] (PO (rB r)):=en Tryz.func153 Tryz.ntmps153 Aa λw Z=>AA Aa<|BM Aa<|ob h λr1 e3 h2=>BV Tryz.call187 (Aat s ([42]:Ac) r1 e3)<|By Aa<|cs h2▸CY Tryz.results153 ⟨Aa,Aa⟩
theorem Vc (s:Ac)(r:Bool)(h:Oc s=some r):FN 110 [rS s] [] (PO (rB r)):=en Tryz.func110 Tryz.ntmps110 Aa λw Z=>AA Aa<|AJ<|ck h λg1 h2=>ck h2 λg3 h4=>Ar [(2,rB ((Mf s)||((Bm (s=([42]:Ac)))||((Mf (ov (I7 s)))&&((ov (Rb s))&&(Bm ((s.length:Int)≤64)))))))] [] (B7 Aa<|CC Tryz.call67 Aa (AjO s) Aa Aa<|ms Aa<|AF (Mf s) (λc5=>CB c5 Aa<|wv (Aj c5)<|ms Aa<|Dx Aa<|wu<|wu<|Dx Aa<|wu<|wu<|wu<|vz Aa<|wv (Aj Aa)<|Bg Aa<|BR c5) λc5=>wo c5<|ms Aa<|Bq c5 BA<|Ep Aa c5 Aa<|ms Aa<|AF (Bm (s=([42]:Ac))) (λc6=>CB c6 Aa<|wu<|wu<|CB c6 Aa<|wu<|wu<|wu<|wf c6<|wv (Aj c6)<|Bg Aa<|BR (Db c5 c6)) λc6=>wo c6<|ms Aa<|wo c6<|BV Tryz.call152 (WS s (ov (I7 s)) (Dr (CM (CM g1 c5) c6)))<|wo c6<|CC Tryz.call67 Aa (AjO (ov (I7 s))) Aa Aa<|wo c6<|ms Aa<|AF (Mf (ov (I7 s))) (λc7=>wo c7<|ms Aa<|wo c7<|BV Tryz.call153 (Adt s (ov (Rb s)) (Dr (BL (CM (CM g3 c5) c6) c7)))<|wo c6<|Ej Aa c7 Aa<|wo c6<|ms Aa<|AF ((ov (Rb s))) (λc8=>wo c8<|ms Aa<|Bq c8 Bo<|Bq c8 Iu<|wo c6<|Ej Aa c8 Aa<|Ep Aa c6 Aa<|Bg Aa<|by exact BR (Db c5 (Db c6 (Db c7 c8)))) λc8=>CB c8 Aa<|Bq c6 (Am c8)<|Ep Aa c6 Aa<|Bg Aa<|by exact BR (Db c5 (Db c6 (Db c7 c8)))) λc7=>CB c7 Aa<|Bq c6 (Am c7)<|wo c6<|ms Aa<|Dx Aa<|Bq c6 (Am Aa)<|Ep Aa c6 Aa<|Bg Aa<|BR (Db c5 (Db c6 c7)))<|BO<|cs h4▸CY Tryz.results110 ⟨Aa,Aa⟩
theorem AbQ (q s:Ac)(r:Bool)(h:Rc q s=some r):FN 161 [rS q,rS s] [] (PO (rB r)):=en Tryz.func161 Tryz.ntmps161 Aa λw Z=>AA Aa<|BD Aa<|ob h λr1 e3 h2=>BV Tryz.call110 (Vc q r1 e3)<|wv BQ<|AJ<|B2 h2 (λc4 h5=>Bw Aa<|cs h5▸CY Tryz.results161 ⟨Aa,Aa⟩) λc4 h6=>Bt<|AA Aa<|ob h6 λr7 e9 h8=>BV Tryz.call153 (Adt q r7 e9)<|AJ<|B2 h8 (λhd he=>AA Aa<|ob he λhb hf hg=>BV Tryz.call152 (WS q hb hf)<|ob hg λhh hi hj=>BV Tryz.call190 (Tf s hb hh hi)<|By Aa<|Ao<|cs hj▸CY Tryz.results161 ⟨Aa,Aa⟩) λhd hk=>BW<|AA Aa<|wv BA<|By Aa<|cs hk▸CY Tryz.results161 ⟨Aa,Aa⟩
theorem AhL (s:Ac)(r:Bool)(h:AbT s=some r):FN 233 [rS s] [] (PO (rB r)):=en Tryz.func233 Tryz.ntmps233 Aa λw Z=>AA Aa<|BM Aa<|wv Bo<|ck h λg1 h2=>wv (DV g1)<|ck h2 λg3 h4=>wv (BH g3)<|wv Bx<|By Aa<|cs h4▸CY Tryz.results233 ⟨Aa,Aa⟩
theorem AbV (s q:Ac)(r:Bool)(h:Ve s q=some r):FN 234 [rS s,rS q] [] (PO (rB r)):=en Tryz.func234 Tryz.ntmps234 Aa λw Z=>AA Aa<|AJ<|ck h λg1 h2=>Ar [(4,rB ((Bm ((q.length:Int)≤(s.length:Int)))&&(Bm ((List.take (D3 (q.length:Int)) s)=q))))] [] (B7 Aa<|wv Bo<|ms Aa<|wv Bo<|wv DK<|ms Aa<|AF (Bm ((q.length:Int)≤(s.length:Int))) (λc3=>wo c3<|ms Aa<|wo c3<|ms Aa<|Bq c3 Bo<|Bq c3 (HZ Lb Aa Aa (BL g1 c3))<|wo c3<|ms Aa<|Bq c3 BA<|Ej Aa c3 Aa<|Bg Aa<|BR c3) λc3=>CB c3 Aa<|wv (Am c3)<|Bg Aa<|BR c3)<|BO<|cs h2▸CY Tryz.results234 ⟨Aa,Aa⟩
theorem Te (F:Nat)(s:Ac)(r:Bool)(h:K4 F s=some r):FN 159 [rS s] [] (PO (rB r)):=en Tryz.func159 Tryz.ntmps159 Aa λw Z=>by unfold K4 at h;exact AA Aa<|BU<|Ar [(0,rS s),(11,rB ((Bm ((s.length:Int)<1))||(Bm (64<(s.length:Int)))))] [] (B7 Aa<|wv Bo<|wv BI<|ms Aa<|AF (Bm ((s.length:Int)<1)) (λc1=>CB c1 Aa<|wv (Aj c1)<|Az<|BR c1) λc1=>wo c1<|ms Aa<|Bq c1 Bo<|Bq c1 C9<|Ep Aa c1 Aa<|Az<|BR c1)<|B2 h (λc2 h3=>Bw Aa<|cs h3▸CY Tryz.results159 ⟨Aa,Aa⟩) λc2 h4=>Bt<|AA Aa<|AJ<|Au<|ob h4 λhk hl hh=>Bk (V:=(Unit)×(Unit)) 0 (λσ=>Cg (λσ=>H5 s σ) σ.1 σ.2.1=some hk) (λσ=>[(0,rS s),(3,AZ σ.2.1)]) (λσ=>[]) (λσ=>σ.1) (F,0,()) hl (A7 Aa) sN (λσ=>Ki s =some r) (λσ=>[(0,rS s)]) (λσ=>[]) (by rintro⟨hE,hd,⟨⟩⟩ hm;refine EG ?_;obtain⟨hn,rfl,t53,he,hf⟩:=Cq hm;have he:H5 s hd=some t53:=he;exact AV<|AA Aa<|wv Bo<|ck he λhp hq=>wv (DV hp)<|wv BI<|AJ<|B2 hq (λhr hs=>Bt<|Au<|AA Aa<|ck hs λht hu=>wv (BH ht)<|ob hu λhw hx hy=>BV Tryz.call119 (Vd (C0 s hd) hw hx)<|wv BQ<|AJ<|B2 hy (λhz h0=>B6 Aa<|B8<|Ao<|Bf<|have h1:=BE h0 hf hh;B8<|cs h1▸CY Tryz.results159 ⟨Aa,Aa⟩) λhz h2=>B3<|CR<|B7 Aa<|ck h2 λh5 h6=>wv (Bh h5)<|Bg Aa<|have h7:=Bd h6 hf;Ax (As (hn,hd+1,()) ⟨h7,Apu _⟩ (A7 Aa) sN)) λhr h8=>Bs<|Ah<|have h9:=BG h8 hf hh;Ah (AN (As ((),()) h9 (A7 Aa) sN)))<|by rintro⟨⟨⟩,⟨⟩⟩ hg;refine Gw ?_;exact have hg:Ki s =some r:=hg;AR<|Cy<|ck hg λhi hA=>ck hA λhj hB=>ck hB λhC hD=>Ar [(2,rB ((ov (KS (C0 s ((s.length:Int)-1))))||(Bm ((C0 s ((s.length:Int)-1))=42))))] [] (B7 Aa<|wv Bo<|wv (DV hi)<|wv (BH hj)<|BV Tryz.call119 (Vd (C0 s ((s.length:Int)-1)) (ov (KS (C0 s ((s.length:Int)-1)))) (Dr hC))<|ms Aa<|AF ((ov (KS (C0 s ((s.length:Int)-1))))) (λhb=>CB hb Aa<|wv (Aj hb)<|Bg Aa<|BR hb) λhb=>wo hb<|ms Aa<|wo hb<|ms Aa<|Bq hb Bo<|Bq hb (DV hi)<|Bq hb (BH hj)<|Bq hb Bx<|Ep Aa hb Aa<|Bg Aa<|BR hb)<|BO<|cs hD▸CY Tryz.results159 ⟨Aa,Aa⟩
theorem Aar (F:Nat)(q s:Ac)(r:Bool)(h:OQ F q s=some r):FN 221 [rS q,rS s] [] (PO (rB r)):=en Tryz.func221 Tryz.ntmps221 Aa λw Z=>AA Aa<|BD Aa<|ob h λr1 e3 h2=>BV Tryz.call159 (Te F q r1 e3)<|wv BQ<|AJ<|B2 h2 (λc4 h5=>Bw Aa<|cs h5▸CY Tryz.results221 ⟨Aa,Aa⟩) λc4 h6=>Bt<|AA Aa<|ob h6 λr7 e9 h8=>BV Tryz.call233 (AhL q r7 e9)<|AJ<|B2 h8 (λhb hd=>AA Aa<|wv Bo<|ck hd λhe hf=>wv (DV he)<|ck hf λhg hh=>wv (HZ Lb Aa Aa hg)<|ob hh λhi hj hk=>BV Tryz.call234 (AbV s (List.take (D3 ((q.length:Int)-1)) q) hi hj)<|By Aa<|Ao<|cs hk▸CY Tryz.results221 ⟨Aa,Aa⟩) λhb hl=>BW<|AA Aa<|wv BA<|By Aa<|cs hl▸CY Tryz.results221 ⟨Aa,Aa⟩
theorem Adu (F:Nat)(l:(List Ac))(s:Ac)(r:Bool)(h:Aas F l s=some r):FN 83 [B4 1 (Bu eS l),rS s] [] (PO (rB r)):=en Tryz.func83 Tryz.ntmps83 Aa λw Z=>AA Aa<|BD Aa<|AJ<|Au<|ob h λhh hi hf=>Bk (V:=(Unit)×(Unit)) 0 (λσ=>Cg (λσ=>Mj l s σ) σ.1 σ.2.1=some hh) (λσ=>[(0,B4 1 (Bu eS l)),(1,rS s),(5,AZ σ.2.1)]) (λσ=>[]) (λσ=>σ.1) (F,0,()) hi (A7 Aa) sN (λσ=>Oe =some r) (λσ=>[]) (λσ=>[]) (by rintro⟨h1,hg,⟨⟩⟩ hj;refine EG ?_;obtain⟨hk,rfl,hl,hd,he⟩:=Cq hj;have hd:Mj l s hg=some hl:=hd;exact AV<|AA Aa<|wv AU<|wv BI<|AJ<|B2 hd (λhm hn=>Bt<|Au<|AA Aa<|ck hn λhp hq=>wv (AX hp)<|wv AS<|ms Aa<|wv BA<|AJ<|B2 hq (λhr hs=>B6 Aa<|B8<|Ao<|Bf<|have ht:=BE hs he hf;B8<|cs ht▸CY Tryz.results83 ⟨Aa,Aa⟩) λhr hu=>B3<|CR<|B7 Aa<|ck hu λhw hx=>wv (Bh hw)<|Bg Aa<|have hy:=Bd hx he;Ax (As (hk,hg+1,()) ⟨hy,Apu _⟩ (A7 Aa) sN)) λhm hz=>Bs<|Ah<|have h0:=BG hz he hf;Ah (AN (As ((),()) h0 Hw.nil sN)))<|by rintro⟨⟨⟩,⟨⟩⟩ hb;refine Gw ?_;exact have hb:Oe =some r:=hb;by unfold Oe at hb;exact AR<|Cy<|B6 Aa<|cs hb▸CY Tryz.results83 ⟨Aa,Aa⟩
theorem Od (F:Nat)(a b:(List Ac))(r:Bool)(h:L4 F a b=some r):FN 14 [B4 1 (Bu eS a),B4 1 (Bu eS b)] [] (PO (rB r)):=en Tryz.func14 Tryz.ntmps14 Aa λw Z=>AA Aa<|BD Aa<|wv AU<|ms Aa<|wv AU<|wv Ci<|AJ<|B2 h (λc1 h2=>Bw Aa<|cs h2▸CY Tryz.results14 ⟨Aa,Aa⟩) λc1 h3=>Bt<|AA Aa<|AJ<|Au<|ob h3 λhh hi hf=>Bk (V:=(Unit)×(Unit)) 0 (λσ=>Cg (λσ=>K3 a b σ) σ.1 σ.2.1=some hh) (λσ=>[(0,B4 1 (Bu eS a)),(1,B4 1 (Bu eS b)),(5,AZ σ.2.1)]) (λσ=>[]) (λσ=>σ.1) (F,0,()) hi (A7 Aa) sN (λσ=>Mh =some r) (λσ=>[]) (λσ=>[]) (by rintro⟨h5,hg,⟨⟩⟩ hj;refine EG ?_;obtain⟨hk,rfl,hl,hd,he⟩:=Cq hj;have hd:K3 a b hg=some hl:=hd;exact AV<|AA Aa<|wv AU<|wv BI<|AJ<|B2 hd (λhm hn=>by refine Bt<|Au<|AV<|ck hn λhp hq=>ck hq λhr hs=>Dn [0,1,5] ?_;refine rq AD<|rq AD<|rq (AX hp)<|rq AS<|rq AD<|rq AD<|rq (AX hr)<|rq AS<|rq (JB Aa Aa)<|re [25,0,1,5] ?_;exact Cy<|B2 hs (λht hu=>B6 Aa<|B8<|Ao<|Bf<|have hw:=BE hu he hf;B8<|cs hw▸CY Tryz.results14 ⟨Aa,Aa⟩) λht hx=>B3<|CR<|B7 Aa<|ck hx λhy hz=>wv (Bh hy)<|Bg Aa<|have h0:=Bd hz he;Ax (As (hk,hg+1,()) ⟨h0,Apu _⟩ (A7 Aa) sN)) λhm h1=>Bs<|Ah<|have h4:=BG h1 he hf;Ah (AN (As ((),()) h4 Hw.nil sN)))<|by rintro⟨⟨⟩,⟨⟩⟩ hb;refine Gw ?_;exact have hb:Mh =some r:=hb;by unfold Mh at hb;exact AR<|Cy<|B6 Aa<|cs hb▸CY Tryz.results14 ⟨Aa,Aa⟩
theorem Ab6 (x:Ac)(r:Bool)(h:UF x=some r):FN 109 [rS x] [] (PO (rB r)):=en Tryz.func109 Tryz.ntmps109 Aa λw Z=>AA Aa<|BM Aa<|ob h λr1 e3 h2=>BV Tryz.call110 (Vc x r1 e3)<|wv BQ<|By Aa<|cs h2▸CY Tryz.results109 ⟨Aa,Aa⟩
theorem AeJ (hb:Nat)(x s:Ac)(r:Bool)(h:XS x s=some r):FN 160 [rS x,rP hb 0] [.blk hb [rS s] 9] (λR H=>R=rB r∧H=[.blk hb [rS s] 9]):=en Tryz.func160 Tryz.ntmps160 Aa λw Z=>AA Aa<|BM Aa<|wv (Ae 0)<|ob h λr1 e3 h2=>BV Tryz.call161 (AbQ x s r1 e3)<|By Aa<|cs h2▸Ap (Ct Tryz.results160 AW) (sC sN) ⟨Aa,Aa⟩
theorem AjJ (F:Nat)(ys:(List Ac))(r:Int)(h:Ah8 F ys=some r):FN 151 [B4 1 (Bu eS ys),rv (.func (.func 109) #[] #[])] [] (PO (AZ r)):=en Tryz.func151 Tryz.ntmps151 Aa λw Z=>AA Aa<|BD Aa<|wv AU<|Cs Aa<|Au<|ob h λhh hi hg=>Bk (V:=(Unit)×(Unit)) 0 (λσ=>Cg (λσ=>Mb ys σ) σ.1 σ.2.1=some hh) (λσ=>[(0,B4 1 (Bu eS ys)),(1,rv (.func (.func 109) #[] #[])),(7,AZ (ys.length:Int)),(8,AZ σ.2.1)]) (λσ=>[]) (λσ=>σ.1) (F,0,()) hi (A7 Aa) sN (λσ=>Oa =some r) (λσ=>[]) (λσ=>[]) (by rintro⟨h4,hd,⟨⟩⟩ hj;refine EG ?_;obtain⟨hk,rfl,hl,he,hf⟩:=Cq hj;have he:Mb ys hd=some hl:=he;exact Ay<|wv BI<|BU<|B2 he (λhm hn=>Bt<|Au<|AA Aa<|BM Aa<|ck hn λhp hq=>wv (AX hp)<|wv AS<|ob hq λhr hs ht=>Jr (Hr:=[]) Tryz.call109 Aa Aa (Ap3 _) (Ab6 (Af ys hd) hr hs) Aa<|by rintro _ _ ⟨rfl,rfl⟩;exact AJ<|B2 ht (λhu hw=>B6 Aa<|B8<|Ao<|Bf<|have hx:=BE hw hf hg;B8<|cs hx▸CY Ac1 ⟨Aa,Aa⟩) λhu hy=>B3<|CR<|A4<|ck hy λhz h0=>wv (Bh hz)<|Bg Aa<|have h1:=Bd h0 hf;Ax (As (hk,hd+1,()) ⟨h1,Apu _⟩ (A7 Aa) sN)) λhm h2=>Bs<|Ah<|have h3:=BG h2 hf hg;Ah (AN (As ((),()) h3 Hw.nil sN)))<|by rintro⟨⟨⟩,⟨⟩⟩ hb;refine Gw ?_;exact have hb:Oa =some r:=hb;by unfold Oa at hb;exact AR<|Cy<|B6 Aa<|cs hb▸CY Ac1 ⟨Aa,Aa⟩
theorem AhP (F:Nat)(ys:(List Ac))(r:Bool)(h:Vi F ys=some r):FN 108 [B4 1 (Bu eS ys),rv (.func (.func 109) #[] #[])] [] (PO (rB r)):=en Tryz.func108 Tryz.ntmps108 Aa λw Z=>AA Aa<|BM Aa<|ob h λr1 e3 h2=>BV Tryz.call151 (AjJ F ys r1 e3)<|wv DK<|By Aa<|cs h2▸CY Tryz.results108 ⟨Aa,Aa⟩
theorem Ah5 (F hb:Nat)(ys:(List Ac))(s:Ac)(r:Int)(h:AbM F ys s=some r):FN 151 [B4 1 (Bu eS ys),rv (.func (.func 160) #[] #[(.pointer (some ⟨hb,0,none⟩))])] [.blk hb [rS s] 9] (λR H=>R=AZ r∧H=[.blk hb [rS s] 9]):=en Tryz.func151 Tryz.ntmps151 Aa λw Z=>AA Aa<|BD Aa<|wv AU<|Cs Aa<|Au<|ob h λhi hj hh=>Bk (V:=(Unit)×(Unit)) 0 (λσ=>Cg (λσ=>Ky ys s σ) σ.1 σ.2.1=some hi) (λσ=>[(0,B4 1 (Bu eS ys)),(1,rv (.func (.func 160) #[] #[(.pointer (some ⟨hb,0,none⟩))])),(7,AZ (ys.length:Int)),(8,AZ σ.2.1)]) (λσ=>[.blk hb [rS s] 9]) (λσ=>σ.1) (F,0,()) hj (A7 Aa) (sC sN) (λσ=>LZ =some r) (λσ=>[]) (λσ=>[.blk hb [rS s] 9]) (by rintro⟨h5,he,⟨⟩⟩ hk;refine EG ?_;obtain⟨hl,rfl,hm,hf,hg⟩:=Cq hk;have hf:Ky ys s he=some hm:=hf;exact Ay<|wv BI<|BU<|B2 hf (λhn hp=>Bt<|Au<|AA Aa<|BM Aa<|ck hp λhq hr=>wv (AX hq)<|wv AS<|ob hr λhs ht hu=>Jr (Hr:=[]) Tryz.call160 Aa Aa (Ap3 _) (AeJ hb (Af ys he) s hs ht) Aa<|by rintro _ _ ⟨rfl,rfl⟩;exact AJ<|B2 hu (λhw hx=>B6 Aa<|B8<|Ao<|Bf<|have hy:=BE hx hg hh;B8<|cs hy▸Ap (Ct Ac1 AW) (sC sN) ⟨Aa,Aa⟩) λhw hz=>B3<|CR<|A4<|ck hz λh0 h1=>wv (Bh h0)<|Bg Aa<|have h2:=Bd h1 hg;Ax (As (hl,he+1,()) ⟨h2,Apu _⟩ (A7 Aa) (sC sN))) λhn h3=>Bs<|Ah<|have h4:=BG h3 hg hh;Ah (AN (As ((),()) h4 Hw.nil (sC sN))))<|by rintro⟨⟨⟩,⟨⟩⟩ hd;refine Gw ?_;exact have hd:LZ =some r:=hd;by unfold LZ at hd;exact AR<|Cy<|B6 Aa<|cs hd▸Ap (Ct Ac1 AW) (sC sN) ⟨Aa,Aa⟩
theorem Afp (F hb:Nat)(ys:(List Ac))(s:Ac)(r:Bool)(h:TL F ys s=some r):FN 108 [B4 1 (Bu eS ys),rv (.func (.func 160) #[] #[(.pointer (some ⟨hb,0,none⟩))])] [.blk hb [rS s] 9] (λR H=>R=rB r∧H=[.blk hb [rS s] 9]):=en Tryz.func108 Tryz.ntmps108 Aa λw Z=>by refine AA Aa<|BM Aa<|ob h λr1 e3 h2=>EX [0] Tryz.call151 (Ah5 F hb ys s r1 e3) ?_;rintro _ _ ⟨rfl,rfl⟩;exact wv DK<|By Aa<|cs h2▸Ap (Ct Tryz.results108 AW) (sC sN) ⟨Aa,Aa⟩
theorem WA (F:Nat)(s:Ad)(r:Int)(h:HS F s=some r):FN 64 [Cz (AK s)] [] (PO (AZ r)):=en Tryz.func64 Tryz.ntmps64 Aa λw Z=>by unfold HS at h;exact Ay<|Cb Aa Aa λb1=>ms Aa<|Dc<|wv An<|wv (Ae 0)<|wv An<|wv (Ae 0)<|DP ([s.fActions,s.fResources]:List (List Ac)) Sz YH Ge Tryz.zeroValue22 Aa ⟨cO Aa,cO Aa,trivial⟩ Acd λb2=>ms Aa<|BD Aa<|wv (CS 0 YH Aa Aa)<|Cs Aa<|Au<|ob h λhq hr hl=>Bk (V:=(Unit)×(Unit)) 0 (λσ=>Cg (λσ=>Ja s σ) σ.1 σ.2.1=some hq) (λσ=>[(3,rv (.slice (some ⟨b2,0,none⟩) 2 2)),(13,rv (.slice (some ⟨b2,0,none⟩) 2 2)),(14,AZ (([s.fActions,s.fResources]:List (List Ac)).length:Int)),(15,AZ σ.2.1)]) (λσ=>[.row (.slice (some ⟨b2,0,none⟩) 2 2) 22 1 (Bu Sz ([s.fActions,s.fResources]:List (List Ac)))]) (λσ=>σ.1) (F,0,()) hr (A7 Aa) (sC (sS sN)) (λσ=>MC F s =some r) (λσ=>[(3,rv (.slice (some ⟨b2,0,none⟩) 2 2))]) (λσ=>[.row (.slice (some ⟨b2,0,none⟩) 2 2) 22 1 (Bu Sz ([s.fActions,s.fResources]:List (List Ac)))]) (by rintro⟨hU,hd,⟨⟩⟩ hs;refine EG ?_;obtain⟨ht,rfl,hu,hf,hg⟩:=Cq hs;have hf:Ja s hd=some hu:=hf;exact Ay<|wv BI<|BU<|B2 hf (λhw hx=>Bt<|Au<|Ay<|ck hx λhm hy=>wv (Dj 0 YH Ge Aa Aa Aa (Bz hm))<|wv (DU 0 Ka Aa Aa hm Aa)<|Cs Aa<|Ar [(3,rv (.slice (some ⟨b2,0,none⟩) 2 2)),(13,rv (.slice (some ⟨b2,0,none⟩) 2 2)),(14,AZ (([s.fActions,s.fResources]:List (List Ac)).length:Int)),(15,AZ hd),(26,rB ((Bm (((Af ([s.fActions,s.fResources]:List (List Ac)) hd).length:Int)<1))||(Bm (8<((Af ([s.fActions,s.fResources]:List (List Ac)) hd).length:Int)))))] [.row (.slice (some ⟨b2,0,none⟩) 2 2) 22 1 (Bu Sz ([s.fActions,s.fResources]:List (List Ac)))] (B7 Aa<|wv AU<|wv BI<|ms Aa<|AF (Bm (((Af ([s.fActions,s.fResources]:List (List Ac)) hd).length:Int)<1)) (λhb=>CB hb Aa<|wv (Aj hb)<|Az<|BR hb) λhb=>wo hb<|ms Aa<|Bq hb AU<|Bq hb C9<|Ep Aa hb Aa<|Az<|BR hb)<|B2 hy (λhz h0=>B6 Aa<|B8<|Ao<|Bf<|have h1:=BE h0 hg hl;B8<|cs h1▸Ap (Ct Tryz.results64 AW) (sS sN) ⟨Aa,Aa⟩) λhz h2=>B3<|CR<|A4<|ck h2 λh3 h4=>wv (Bh h3)<|Bg Aa<|have h5:=Bd h4 hg;Ax (As (ht,hd+1,()) ⟨h5,Apu _⟩ (A7 Aa) (sC sN))) λhw h6=>Bs<|Ah<|have h7:=BG h6 hg hl;Ah (AN (As ((),()) h7 (A7 Aa) (sC sN))))<|by rintro⟨⟨⟩,⟨⟩⟩ hh;refine Gw ?_;exact have hh:MC F s =some r:=hh;AR<|Cy<|AV<|AA Aa<|wv (CS 0 YH Aa Aa)<|Cs Aa<|Au<|ob hh λh8 h9 hn=>Bk (V:=(Unit)×(Unit)) 2 (λσ=>Cg (λσ=>IZ F s σ) σ.1 σ.2.1=some h8) (λσ=>[(28,rv (.slice (some ⟨b2,0,none⟩) 2 2)),(29,AZ (([s.fActions,s.fResources]:List (List Ac)).length:Int)),(30,AZ σ.2.1)]) (λσ=>[.row (.slice (some ⟨b2,0,none⟩) 2 2) 22 1 (Bu Sz ([s.fActions,s.fResources]:List (List Ac)))]) (λσ=>σ.1) (F,0,()) h9 (A7 Aa) (sC sN) (λσ=>KI =some r) (λσ=>[]) (λσ=>[]) (by rintro⟨hV,hi,⟨⟩⟩ hA;refine EG ?_;obtain⟨hB,rfl,hC,hj,hk⟩:=Cq hA;have hj:IZ F s hi=some hC:=hj;exact Ay<|wv BI<|BU<|B2 hj (λhD hE=>Bt<|Au<|Ay<|ck hE λhp hG=>wv (Dj 0 YH Ge Aa Aa Aa (Bz hp))<|wv (DU 0 Ka Aa Aa hp Aa)<|ms Aa<|BM Aa<|ob hG λhH hI hJ=>BV Tryz.call108 (AhP F (Af ([s.fActions,s.fResources]:List (List Ac)) hi) hH hI)<|AJ<|B2 hJ (λhK hL=>B6 Aa<|B8<|Ao<|Bf<|have hN:=BE hL hk hn;B8<|cs hN▸Ap (Ct Tryz.results64 AW) (sS sN) ⟨Aa,Aa⟩) λhK hO=>B3<|CR<|A4<|ck hO λhP hQ=>wv (Bh hP)<|Bg Aa<|have hR:=Bd hQ hk;Ax (As (hB,hi+1,()) ⟨hR,Apu _⟩ (A7 Aa) (sC sN))) λhD hS=>Bs<|Ah<|have hT:=BG hS hk hn;Ah (AN (As ((),()) hT Hw.nil (sS sN))))<|by rintro⟨⟨⟩,⟨⟩⟩ he;refine Gw ?_;exact have he:KI =some r:=he;by unfold KI at he;exact AR<|Cy<|B6 Aa<|cs he▸CY Tryz.results64 ⟨Aa,Aa⟩
theorem ZA (F:Nat)(l:(List Ac))(s:Ac)(r:Bool)(h:I3 F l s=some r):FN 127 [B4 1 (Bu eS l),rS s] [] (PO (rB r)):=en Tryz.func127 Tryz.ntmps127 Aa λw Z=>by unfold I3 at h;exact Ay<|Wl Aa (Cl Aa) Aa λb1=>by refine ms Aa<|BM Aa<|wv (r:=rv (.func (.func 160) #[] #[(.pointer (some ⟨b1,0,none⟩))])) (KL Aa)<|ob h λr2 e4 h3=>EX [0] Tryz.call108 (Afp F b1 l s r2 e4) ?_;rintro _ _ ⟨rfl,rfl⟩;exact By Aa<|cs h3▸Ap (Ct Tryz.results127 AW) (sS sN) ⟨Aa,Aa⟩
abbrev Qi (x0:Nat)(x1:Bool)(x2:Nat)(x3:Ac)(x4:Nat)(x5:Ac):List Ent:=[.blk x0 [rB x1] 4,.blk x2 [rS x3] 9,.blk x4 [rS x5] 9]
theorem AeK (F hd he hf:Nat)(x:Ad)(allow:Bool)(action resource:Ac)(r:Bool)(h:QN F x allow action resource=some r):FN 126 [Cz (AK x),rP hd 0,rP he 0,rP hf 0] (Qi hd allow he action hf resource) (λR H=>R=rB r∧H=(Qi hd allow he action hf resource)):=en Tryz.func126 Tryz.ntmps126 Aa λw Z=>by unfold QN at h;exact Ay<|Cb Aa Aa λb1=>Cs Aa<|ck h λg2 h3=>ck h3 λg4 h5=>ck h5 λg6 h7=>Ar [(5,rB ((x.fAllow ==allow)&&((Bm ((ov (HS F x))=0))&&((ov (I3 F x.fActions action))&&(ov (I3 F x.fResources resource))))))] (Qi hd allow he action hf resource) (A4<|wv An<|wv (Ae 0)<|wv (Ae 1)<|wv (AkA Tryz.underlying4 Aa Aa)<|ms Aa<|AF (x.fAllow ==allow) (λc8=>Bq c8 (B0 0)<|wo c8<|BV Tryz.call64 (WA F x (ov (HS F x)) (Dr (BL g2 c8)))<|Bq c8 Bx<|Ej Aa c8 Aa<|ms Aa<|AF (Bm ((ov (HS F x))=0)) (λc9=>Bq c9 An<|Bq c9 (Ae 0)<|Bq c9 (Ae 2)<|wo c9<|BV Tryz.call127 (ZA F x.fActions action (ov (I3 F x.fActions action)) (Dr (BL (BL g4 c8) c9)))<|Ej Aa c9 Aa<|ms Aa<|AF ((ov (I3 F x.fActions action))) (λhb=>Bq hb An<|Bq hb (Ae 0)<|Bq hb (Ae 3)<|wo hb<|BV Tryz.call127 (ZA F x.fResources resource (ov (I3 F x.fResources resource)) (Dr (BL (BL (BL g6 c8) c9) hb)))<|Ej Aa hb Aa<|Bg Aa<|by exact BR (Db c8 (Db c9 hb))) λhb=>CB hb Aa<|wv (Am hb)<|Bg Aa<|BR (Db c8 (Db c9 hb))) λc9=>CB c9 Aa<|wv (Am c9)<|ms Aa<|Dx Aa<|wv (Am Aa)<|Bg Aa<|BR (Db c8 c9)) λc8=>CB c8 Aa<|wv (Am c8)<|ms Aa<|Dx Aa<|wv (Am Aa)<|ms Aa<|Dx Aa<|wv (Am Aa)<|Bg Aa<|BR c8)<|BO<|cs h7▸Ap (Ct Tryz.results126 AW) (sK 7) ⟨Aa,Aa⟩
theorem AjH (F hb hd he:Nat)(ys:(List Ad))(allow:Bool)(action resource:Ac)(r:Int)(h:Adm F ys allow action resource=some r):FN 125 [B4 3 (Bu AK ys),rv (.func (.func 126) #[] #[(.pointer (some ⟨hb,0,none⟩)),(.pointer (some ⟨hd,0,none⟩)),(.pointer (some ⟨he,0,none⟩))])] (Qi hb allow hd action he resource) (λR H=>R=AZ r∧H=(Qi hb allow hd action he resource)):=en Tryz.func125 Tryz.ntmps125 Aa λw Z=>AA Aa<|BD Aa<|wv AU<|Cs Aa<|Au<|ob h λhk hl hj=>Bk (V:=(Unit)×(Unit)) 0 (λσ=>Cg (λσ=>Ma F ys allow action resource σ) σ.1 σ.2.1=some hk) (λσ=>[(0,B4 3 (Bu AK ys)),(1,rv (.func (.func 126) #[] #[(.pointer (some ⟨hb,0,none⟩)),(.pointer (some ⟨hd,0,none⟩)),(.pointer (some ⟨he,0,none⟩))])),(7,AZ (ys.length:Int)),(8,AZ σ.2.1)]) (λσ=>(Qi hb allow hd action he resource)) (λσ=>σ.1) (F,0,()) hl (A7 Aa) (sC (sC (sC sN))) (λσ=>NZ =some r) (λσ=>[]) (λσ=>(Qi hb allow hd action he resource)) (by rintro⟨h7,hg,⟨⟩⟩ hm;refine EG ?_;obtain⟨hn,rfl,hp,hh,hi⟩:=Cq hm;have hh:Ma F ys allow action resource hg=some hp:=hh;exact Ay<|wv BI<|BU<|B2 hh (λhq hr=>Bt<|Au<|AA Aa<|BM Aa<|ck hr λhs ht=>wv (AX hs)<|wv C2<|ob ht λhu hw hx=>Jr (Hr:=[]) Tryz.call126 Aa Aa (Ap3 _) (AeK F hb hd he (Af ys hg) allow action resource hu hw) Aa<|by rintro _ _ ⟨rfl,rfl⟩;exact AJ<|B2 hx (λhy hz=>B6 Aa<|B8<|Ao<|Bf<|have h0:=BE hz hi hj;B8<|cs h0▸Ap (Ct Tryz.results125 AW) (sK 7) ⟨Aa,Aa⟩) λhy h1=>B3<|CR<|A4<|ck h1 λh2 h3=>wv (Bh h2)<|Bg Aa<|have h4:=Bd h3 hi;Ax (As (hn,hg+1,()) ⟨h4,Apu _⟩ (A7 Aa) (sC (sC (sC sN))))) λhq h5=>Bs<|Ah<|have h6:=BG h5 hi hj;Ah (AN (As ((),()) h6 Hw.nil (sC (sC (sC sN))))))<|by rintro⟨⟨⟩,⟨⟩⟩ hf;refine Gw ?_;exact have hf:NZ =some r:=hf;by unfold NZ at hf;exact AR<|Cy<|B6 Aa<|cs hf▸Ap (Ct Tryz.results125 AW) (sK 7) ⟨Aa,Aa⟩
theorem ZC (F he hb hd:Nat)(allow:Bool)(l:(List Ad))(action resource:Ac)(r:Int)(h:UD F allow l action resource=some r):FN 124 [rB allow,rP he 0,rP hb 0,rP hd 0] [.blk he [B4 3 (Bu AK l)] 23,.blk hb [rS action] 9,.blk hd [rS resource] 9] (λR H=>R=AZ r∧H=[.blk he [B4 3 (Bu AK l)] 23,.blk hb [rS action] 9,.blk hd [rS resource] 9]):=en Tryz.func124 Tryz.ntmps124 Aa λw Z=>by unfold UD at h;exact Ay<|Wl Aa (Cl Aa) Aa λb1=>by refine ms Aa<|Dc<|wv (Ae 1)<|wv (r:=rv (.func (.func 126) #[] #[(.pointer (some ⟨b1,0,none⟩)),(.pointer (some ⟨hb,0,none⟩)),(.pointer (some ⟨hd,0,none⟩))])) (KL Aa)<|ob h λr2 e4 h3=>EX [0,1,1] Tryz.call125 (AjH F b1 hb hd l allow action resource r2 e4) ?_;rintro _ _ ⟨rfl,rfl⟩;refine By Aa<|JL [3,1,1] ?_;exact cs h3▸Ap (Ct Tryz.results124 AW) (sK 7) ⟨Aa,Aa⟩
abbrev JR :List Rp:=[rB false,AZ 0]
theorem Ab4 (F:Nat)(l:(List Ad))(action resource:Ac)(r:Ch)(h:NP F l action resource=some r):FN 77 [B4 3 (Bu AK l),rS action,rS resource] [] (PO (Cz (HL r))):=en Tryz.func77 Tryz.ntmps77 Aa λw Z=>by unfold NP at h;exact Ay<|Wl Aa (Cl Aa) Aa λb1=>Wl Aa (Cl Aa) Aa λb2=>Wl Aa (Cl Aa) Aa λb3=>BY (cs:=(JR)) YE Aa Aa λb4=>Dc<|wv (r:=rv (.func (.func 124) #[] #[(.pointer (some ⟨b1,0,none⟩)),(.pointer (some ⟨b2,0,none⟩)),(.pointer (some ⟨b3,0,none⟩))])) (KL Aa)<|ms Aa<|BD Aa<|ob h λr5 e7 h6=>Jr (Hr:=[.blk b4 (JR) 140]) Tryz.call124 Aa Aa ((Br 3 Aa).trans (Ap5 _ ((Br 2 Aa).trans (Ap5 _ ((Br 1 Aa).trans (Ap5 _ (Ap3 _))))))) (ZC F b1 b2 b3 false l action resource r5 e7) Aa<|by rintro _ _ ⟨rfl,rfl⟩;exact ms Aa<|BM Aa<|wv DK<|AJ<|B2 h6 (λc8 h9=>by refine AA Aa<|wv (CD JJ Aa (Eo Aa cN) Aa)<|Eu 3 IJ Aa Aa Aa (Bn.c Aa) Aa Aa ?_;exact DQ<|Ao<|cs h9▸Ap (Ct Tryz.results77 (C7 (i:=3) SH IJ Aa Aa Aa)) (sK 0) ⟨Aa,Aa⟩) λc8 hb=>BW<|AA Aa<|ob hb λhd he hf=>Jr (Hr:=[.blk b4 (JR) 140]) Tryz.call124 Aa Aa (Ap3 _) (ZC F b1 b2 b3 true l action resource hd he) Aa<|by rintro _ _ ⟨rfl,rfl⟩;refine ms Aa<|BM Aa<|wv DK<|ms Aa<|wv (CD JJ Aa (Eo Aa (Eo Aa cN)) Aa)<|Eu 3 IJ Aa Aa Aa (Bn.c Aa) Aa Aa ?_;exact DQ<|cs hf▸Ap (Ct Tryz.results77 (C7 (i:=3) SH IJ Aa Aa Aa)) (sK 0) ⟨Aa,Aa⟩
theorem NQ (n low high:Int)(r:Bool)(h:Ga n low high=some r):FN 111 [AZ n,AZ low,AZ high] [] (PO (rB r)):=en Tryz.func111 Tryz.ntmps111 Aa λw Z=>by unfold Ga at h;exact AA Aa<|AJ<|Ar [(6,rB ((Bm (low≤n))&&(Bm (n≤high))))] [] (B7 Aa<|wv DK<|ms Aa<|AF (Bm (low≤n)) (λc1=>wo c1<|ms Aa<|wo c1<|ms Aa<|Bq c1 Iu<|Ej Aa c1 Aa<|Bg Aa<|BR c1) λc1=>CB c1 Aa<|wv (Am c1)<|Bg Aa<|BR c1)<|BO<|cs h▸CY Tryz.results111 ⟨Aa,Aa⟩
theorem UK (bits r:Int)(h:Hl bits=some r):FN 112 [AZ bits] [] (PO (AZ r)):=en Tryz.func112 Tryz.ntmps112 Aa λw Z=>AA Aa<|BM Aa<|ck h λg1 h2=>wv (DV g1)<|ck h2 λg3 h4=>wv (AcZ Aa Aa g3)<|ck h4 λg5 h6=>wv (DV g5)<|By Aa<|cs h6▸CY Tryz.results112 ⟨Aa,Aa⟩
theorem OG (q:A1)(r:Int)(h:Gf q=some r):FN 65 [Cz (B1 q)] [] (PO (AZ r)):=en Tryz.func65 Tryz.ntmps65 Aa λw Z=>by unfold Gf at h;exact Ay<|Cb Aa Aa λb1=>ms Aa<|BU<|ck h λg2 h3=>ck h3 λg4 h5=>ck h5 λg6 h7=>ck h7 λg8 h9=>Ar [(1,rP b1 0),(26,rB ((!(ov (Ga q.fAddr 0 4294967295)))||((!(ov (Ga q.fBits 0 32)))||((!(ov (Ga q.fLow 1 65535)))||(!(ov (Ga q.fHigh q.fLow 65535)))))))] [.blk b1 (B1 q) 73] (A4<|wv An<|wv (Ae 0)<|BV SG (NQ q.fAddr 0 4294967295 (ov (Ga q.fAddr 0 4294967295)) (Dr g2))<|wv BQ<|ms Aa<|AF (!(ov (Ga q.fAddr 0 4294967295))) (λhb=>CB hb Aa<|wv (Aj hb)<|ms Aa<|Dx Aa<|wv (Aj Aa)<|ms Aa<|Dx Aa<|wv (Aj Aa)<|Az<|BR hb) λhb=>Bq hb An<|Bq hb (Ae 0)<|wo hb<|BV SG (NQ q.fBits 0 32 (ov (Ga q.fBits 0 32)) (Dr (CM g4 hb)))<|Bq hb BQ<|Ep Aa hb Aa<|ms Aa<|AF (!(ov (Ga q.fBits 0 32))) (λhd=>CB hd Aa<|wv (Aj hd)<|ms Aa<|Dx Aa<|wv (Aj Aa)<|Az<|BR (Db hb hd)) λhd=>Bq hd An<|Bq hd (Ae 0)<|wo hd<|BV SG (NQ q.fLow 1 65535 (ov (Ga q.fLow 1 65535)) (Dr (CM (CM g6 hb) hd)))<|Bq hd BQ<|Ep Aa hd Aa<|ms Aa<|AF (!(ov (Ga q.fLow 1 65535))) (λhe=>CB he Aa<|wv (Aj he)<|Az<|by exact BR (Db hb (Db hd he))) λhe=>Bq he An<|Bq he (Ae 0)<|Bq he An<|Bq he (Ae 0)<|wo he<|BV SG (NQ q.fHigh q.fLow 65535 (ov (Ga q.fHigh q.fLow 65535)) (Dr (CM (CM (CM g8 hb) hd) he)))<|Bq he BQ<|Ep Aa he Aa<|Az<|by exact BR (Db hb (Db hd he)))<|B2 h9 (λhf hg=>Bw Aa<|cs hg▸Ap (Ct Tryz.results65 AW) (sS sN) ⟨Aa,Aa⟩) λhf hh=>by refine Bt<|AV<|ob hh λhi hj hk=>Dn [1] ?_;refine rq An<|rq (Ae 0)<|rq An<|rq (Ae 0)<|IS (Dy Tryz.call112 (UK q.fBits hi hj) Aa)<|rq (Am5 Aa Aa)<|rq Ci<|re [33] ?_;exact Cy<|B2 hk (λhl hm=>Bw Aa<|cs hm▸Ap (Ct Tryz.results65 AW) (sS sN) ⟨Aa,Aa⟩) λhl hn=>BW<|B6 Aa<|cs hn▸Ap (Ct Tryz.results65 AW) (sS sN) ⟨Aa,Aa⟩
theorem AjG (s:Ac)(r:Int)(h:Adl s=some r):FN 191 [rS s,rS ([46]:Ac)] [] (PO (AZ r)):=en Tryz.func191 Tryz.ntmps191 Aa λw Z=>by unfold Adl at h;exact AA Aa<|BM Aa<|wv (Bo (p:=([46]:Ac)))<|ms Aa<|BU<|Au<|Ar [(0,rS s),(1,rS ([46]:Ac)),(5,AZ 1),(16,rB (Bm (([46]:Ac)=s)))] [] (B7 Aa<|wv Bx<|ms Aa<|Dd Aa Aa (by decide)<|ms Aa<|Dd Aa Aa (by decide)<|ms Aa<|Dd Aa Aa (by decide)<|wv BA<|wv (Am (by decide))<|Bg Aa<|wt)<|B2 h (λc1 h2=>B6 Aa<|B8<|cs h2▸CY Acz ⟨Aa,Aa⟩) λc1 h3=>AA Aa<|wv Bx<|Cs Aa<|CG Aa (by decide)<|AA Aa<|ck h3 λg4 h5=>wv (BH g4)<|CC Tryz.call211 Aa (AkE s (C0 ([46]:Ac) 0)) Aa Aa<|By Aa<|B8<|cs h5▸CY Acz ⟨Aa,Aa⟩
theorem AjI (s:Ac)(r:Int)(h:Aaj s=some r):FN 191 [rS s,rS ([58]:Ac)] [] (PO (AZ r)):=en Tryz.func191 Tryz.ntmps191 Aa λw Z=>by unfold Aaj at h;exact AA Aa<|BM Aa<|wv (Bo (p:=([58]:Ac)))<|ms Aa<|BU<|Au<|Ar [(0,rS s),(1,rS ([58]:Ac)),(5,AZ 1),(16,rB (Bm (([58]:Ac)=s)))] [] (B7 Aa<|wv Bx<|ms Aa<|Dd Aa Aa (by decide)<|ms Aa<|Dd Aa Aa (by decide)<|ms Aa<|Dd Aa Aa (by decide)<|wv BA<|wv (Am (by decide))<|Bg Aa<|wt)<|B2 h (λc1 h2=>B6 Aa<|B8<|cs h2▸CY Acz ⟨Aa,Aa⟩) λc1 h3=>AA Aa<|wv Bx<|Cs Aa<|CG Aa (by decide)<|AA Aa<|ck h3 λg4 h5=>wv (BH g4)<|CC Tryz.call211 Aa (AkE s (C0 ([58]:Ac) 0)) Aa Aa<|By Aa<|B8<|cs h5▸CY Acz ⟨Aa,Aa⟩
theorem Ag7 (s:Ac)(r:Int)(h:X7 s=some r):FN 209 [rS s,rS ([46]:Ac)] [] (PO (AZ r)):=en Tryz.func209 Tryz.ntmps209 Aa λw Z=>AA Aa<|BM Aa<|ob h λr1 e3 h2=>BV Tryz.call191 (AjG s r1 e3)<|By Aa<|cs h2▸CY Tryz.results209 ⟨Aa,Aa⟩
abbrev Bl (x0:Value)(x1:List Ac):Ent:=.row x0 9 1 (Bu eS x1)
theorem Aca (F:Nat)(s:Ac)(r:(List Ac))(h:Rn F s=some r):FN 192 [rS s,rS ([46]:Ac),AZ 0,AZ (-1)] [] (λR H=>∃u0:Value,R=rv u0∧H=[Bl u0 r]):=en Tryz.func192 Tryz.ntmps192 Aa λw Z=>by unfold Rn at h;exact AA Aa<|BD Aa<|wv Bx<|AJ<|CV Aa (by decide)<|Bt<|AA Aa<|wv BA<|AJ<|CV Aa (by decide)<|Bt<|AA Aa<|wv BI<|AJ<|CG Aa (by decide)<|B7 Aa<|CC Tryz.call189 Aa (Yz s 46) Aa Aa<|ck h λg1 h2=>wv (Bh g1)<|ms Aa<|BM Aa<|wv Bo<|ck h2 λg3 h4=>wv (Bh g3)<|wv (Am2 yu3 Aa Aa)<|ms Aa<|BM Aa<|ck h4 λg6 h7=>ck h7 λg8 h9=>Exists.elim Ir λinf hinf=>AiL (enc:=eS) (zα:=([]:Ac)) (m:=min ((Lib.countByte s 46:Int)+1) ((s.length:Int)+1)) Dm hinf.1 hinf.2.1 hinf.2.2.1 hinf.2.2.2 Aa Aa Aa (λ_=>Aa) Aa Aa g6 g8 Aa λv5=>ms Aa<|BM Aa<|ck h9 λhq hr=>wv (DV hq)<|ms Aa<|BM Aa<|BU<|Au<|ob hr λhs ht hm=>Bk (V:=(Ac×Int×(List Ac))×(Unit)) 0 (λσ=>Cg (λσ=>Eh s σ.1 σ.2.1 σ.2.2) σ.1 σ.2.1=some hs) (λσ=>[(0,rS σ.2.1.1),(1,rS ([46]:Ac)),(2,AZ 0),(3,AZ ((min ((Lib.countByte s 46:Int)+1) ((s.length:Int)+1))-1)),(9,rv v5),(10,AZ σ.2.1.2.1)]) (λσ=>[Bl v5 σ.2.1.2.2]) (λσ=>σ.1) (F,(s,0,List.replicate (D3 (min ((Lib.countByte s 46:Int)+1) ((s.length:Int)+1))) ([]:Ac)),()) ht (A7 Aa) (sC sN) (λσ=>Hu σ.1.1 σ.1.2.1 σ.1.2.2=some r) (λσ=>[(0,rS σ.1.1),(9,rv v5),(10,AZ σ.1.2.1)]) (λσ=>[Bl v5 σ.1.2.2]) (by rintro⟨ga,⟨hb,hd,he⟩,⟨⟩⟩ hu;refine EG ?_;obtain⟨hw,rfl,t210,hg,hh⟩:=Cq hu;have hg:Eh s hb hd he=some t210:=hg;exact AV<|AA Aa<|wv BI<|AJ<|B2 hg (λhx hy=>BW<|Au<|AA Aa<|ob hy λhf hz h0=>BV Tryz.call209 (Ag7 hb hf hz)<|ms Aa<|BD Aa<|wv BI<|AJ<|B2 h0 (λh1 h3=>Bs<|Ah<|Aba Aa<|have h5:=BG h3 hh hm;Ah (AN (As ((hb,hd,he),()) h5 (A7 Aa) (sC sN)))) λh1 h6=>BW<|AA Aa<|ck h6 λh8 hA=>wv (Bh h8)<|ck hA λhB hC=>wv (HZ Lb Aa Aa hB)<|ck hC λhn hD=>wv (Dj 0 Dm Ew Aa Aa Aa (Bz hn))<|N8 (enc:=eS) (ys:=he) (y':=List.take (D3 (hf+0)) hb) (i:=0) (j:=hd) Ew Aa Aa (Cl Aa) Aa hn Aa Aa (H':=[Bl v5 (List.set he (D3 hd) (List.take (D3 (hf+0)) hb))]) Aa<|bd hD λhE hG hH=>by rw[← hG];exact BM Aa<|wv (Bo (p:=([46]:Ac)))<|ck hH λhI hJ=>wv (Bh hI)<|ck hJ λhK hL=>wv (Gy Lb Aa Aa hK)<|Cs Aa<|B7 Aa<|ck hL λhN hO=>wv (Bh hN)<|Bg Aa<|Ca<|have hP:=Bd hO hh;Ax (As (hw,(List.drop (D3 (hf+1)) hb,hd+1,hE),()) ⟨hP,Apu _⟩ (A7 Aa) (sC sN))) λhx hQ=>Bs<|Ah<|have hR:=BG hQ hh hm;Ah (AN (As ((hb,hd,he),()) hR (A7 Aa) (sC sN))))<|by rintro⟨⟨hi,hj,hk⟩,⟨⟩⟩ hl;refine Gw ?_;exact have hl:Hu hi hj hk=some r:=hl;AR<|Cy<|AA Aa<|ck hl λhp hS=>wv (Dj 0 Dm Ew Aa Aa Aa (Bz hp))<|N8 (enc:=eS) (ys:=hk) (y':=hi) (i:=0) (j:=hj) Ew Aa Aa (Cl Aa) Aa hp Aa Aa (H':=[Bl v5 (List.set hk (D3 hj) hi)]) Aa<|bd hS λgb hT hU=>by rw[← hT];exact BM Aa<|ck hU λhV hW=>wv (Bh hV)<|ck hW λhX hY=>Ak0 (i:=0) Dm Ew Aa Aa Aa hX Aa λhZ=>By Aa<|cs hY▸Ap (Ct Tryz.results192 AW) (sC sN) ⟨hZ,Aa,Aa⟩
theorem Ag6 (F:Nat)(s:Ac)(r:(List Ac))(h:X6 F s=some r):FN 163 [rS s,rS ([46]:Ac)] [] (λR H=>∃u0:Value,R=rv u0∧H=[Bl u0 r]):=en Tryz.func163 Tryz.ntmps163 Aa λw Z=>by refine AA Aa<|BM Aa<|ob h λr1 e3 h2=>EX [] Tryz.call192 (Aca F s r1 e3) ?_;rintro _ _ ⟨v4,rfl,rfl⟩;exact By Aa<|cs h2▸Ap (Ct Tryz.results163 AW) (sC sN) ⟨v4,Aa,Aa⟩
theorem AiU (s:Ac)(r:Ac×Ac×Bool)(h:Ag3 s=some r):FN 162 [rS s,rS ([58]:Ac)] [] (PO (DW [rS r.1,rS r.2.1,rB r.2.2])):=en Tryz.func162 Tryz.ntmps162 Aa λw Z=>Ay<|wv (r:=rS ([]:Ac)) AT<|wv (r:=rS ([]:Ac)) AT<|ms Aa<|BD Aa<|ob h λr1 e3 h2=>BV Tryz.call191 (AjI s r1 e3)<|ms Aa<|BM Aa<|wv DK<|AJ<|B2 h2 (λc4 h5=>by refine AV<|ck h5 λg6 h7=>ck h7 λg8 h9=>ck h9 λhb hd=>Dn [0,1,7] ?_;refine rq AD<|rq AD<|rq (HZ Lb Aa Aa g6)<|rq AD<|rq AD<|rq AD<|rq (Bo (p:=([58]:Ac)))<|rq (Bh g8)<|rq (Gy Lb Aa Aa hb)<|rq AT<|rq AT<|rq (r:=rB true) AT<|re [4,5,6] ?_;exact Cy<|BO<|Ao<|cs hd▸Ap (VK Tryz.results162 AW AW AW) sN ⟨Aa,Aa⟩) λc4 he=>BW<|AA Aa<|wv (r:=rS ([]:Ac)) AT<|By Aa<|cs he▸Ap (VK Tryz.results162 AW AW AW) sN ⟨Aa,Aa⟩
theorem Ale (s:Ac)(r:Ac×Ac×Bool)(h:AiX s=some r):FN 128 [rS s,rS ([58]:Ac)] [] (PO (DW [rS r.1,rS r.2.1,rB r.2.2])):=en Tryz.func128 Tryz.ntmps128 Aa λw Z=>Ay<|wv (r:=rS ([]:Ac)) AT<|wv (r:=rS ([]:Ac)) AT<|ms Aa<|BM Aa<|ob h λr1 e3 h2=>BV Tryz.call162 (AiU s r1 e3)<|wv Al<|wv Al<|wv Al<|By Aa<|cs h2▸Ap (VK Tryz.results128 AW AW AW) sN ⟨Aa,Aa⟩
theorem ZP (F:Nat)(s:Ac)(r:Int×Int)(h:OH F s=some r):FN 129 [rS s] [] (PO (DW [AZ r.1,AZ r.2])):=en Tryz.func129 Tryz.ntmps129 Aa λw Z=>by refine AA Aa<|BM Aa<|ob h λr1 e3 h2=>EX [] Tryz.call163 (Ag6 F s r1 e3) ?_;rintro _ _ ⟨v4,rfl,rfl⟩;exact ms Aa<|BD Aa<|wv (CS 0 Dm Aa Aa)<|wv Ci<|AJ<|B2 h2 (λc5 h6=>Bw Aa<|cs h6▸Ap (LA Tryz.results129 AW AW) (sS sN) ⟨Aa,Aa⟩) λc5 h7=>BW<|Ay<|BY (cs:=Bu (rI .i64) (List.replicate 4 (0:Int))) Tryz.zeroValue210 (by kernel_rfl) Aa λb8=>BD Aa<|AJ<|Au<|ob h7 λhl hm hj=>Bk (V:=((List Int))×(Unit)) 0 (λσ=>Cg (λσ=>Gz r1 σ.1 σ.2) σ.1 σ.2.1=some hl) (λσ=>[(4,rv v4),(5,rP b8 0),(14,AZ σ.2.1.1)]) (λσ=>[.blk b8 (Bu (rI .i64) σ.2.1.2) 210,Bl v4 r1]) (λσ=>σ.1) (F,(0,List.replicate 4 (0:Int)),()) hm (A7 Aa) (sC (sC sN)) (λσ=>I4 σ.1=some r) (λσ=>[(5,rP b8 0)]) (λσ=>[.blk b8 (Bu (rI .i64) σ.1) 210]) (by rintro⟨hW,⟨hb,he⟩,⟨⟩⟩ hn;refine EG ?_;obtain⟨hp,rfl,hq,hg,hh⟩:=Cq hn;have hg:Gz r1 hb he=some hq:=hg;exact Ay<|wv BI<|BU<|B2 hg (λc75 hr=>Bt<|Au<|AA Aa<|BM Aa<|ck hr λhk hs=>wv (Dj 1 Dm Ew Aa Aa Aa (Bz hk))<|wv (DU 1 IK Aa Aa hk Aa)<|ck hs λht hu=>CC Tryz.call130 Aa (AcU (Af r1 hb) ht) Aa Aa<|ms Aa<|wv Al<|wv Al<|ms Aa<|BU<|ck hu λhw hx=>Ar [(4,rv v4),(5,rP b8 0),(6,AZ hb),(7,AZ (Cc (Af r1 hb))),(14,AZ hb),(31,rB ((!Bm ((D1 (Af r1 hb))=0))||(!(ov (Ga (Cc (Af r1 hb)) 0 255)))))] [.blk b8 (Bu (rI .i64) he) 210,Bl v4 r1] (B7 Aa<|wv Ci<|ms Aa<|AF (!Bm ((D1 (Af r1 hb))=0)) (λhd=>CB hd Aa<|wv (Aj hd)<|Az<|BR hd) λhd=>wo hd<|ms Aa<|wo hd<|BV SG (NQ (Cc (Af r1 hb)) 0 255 (ov (Ga (Cc (Af r1 hb)) 0 255)) (Dr (CM hw hd)))<|Bq hd BQ<|Ep Aa hd Aa<|Az<|BR hd)<|B2 hx (λhy hz=>Bw Aa<|B8<|Ao<|Bf<|have h0:=BE hz hh hj;B8<|cs h0▸Ap (LA Tryz.results129 AW AW) (sK 0) ⟨Aa,Aa⟩) λhy h1=>BW<|B7 Aa<|ck h1 λh3 h4=>wv (UJ YF K9 Aa Aa h3)<|ck h4 λh5 h8=>Aeq (enc:=(rI .i64)) (ys:=he) (v:=Cc (Af r1 hb)) (i:=0) K9 Aa Aa (Cl Aa) Aa h5 (H':=[.blk b8 (Bu (rI .i64) (List.set he (D3 hb) (Cc (Af r1 hb)))) 210,Bl v4 r1]) Aa<|Az<|CR<|A4<|ck h8 λh9 hA=>wv (Bh h9)<|Bg Aa<|have hB:=Bd hA hh;Ax (As (hp,(hb+1,List.set he (D3 hb) (Cc (Af r1 hb))),()) ⟨hB,Apu _⟩ (A7 Aa) (sC (sC sN)))) λc75 hC=>Bs<|Ah<|have hD:=BG hC hh hj;Ah (AN (As (he,()) hD (A7 Aa) (sC (sS sN)))))<|by rintro⟨hf,⟨⟩⟩ hi;refine Gw ?_;exact have hi:I4 hf=some r:=hi;AR<|Cy<|Ay<|ck hi λhE hG=>wv (UJ YF K9 Aa Aa hE)<|ck hG λhH hI=>wv (QP (enc:=(rI .i64)) (ys:=hf) (i:=0) Qy Aa Aa hH)<|wv (AcZ Aa Aa (by decide))<|ck hI λhJ hK=>wv (UJ YF K9 Aa Aa hJ)<|ck hK λhL hN=>wv (QP (enc:=(rI .i64)) (ys:=hf) (i:=0) Qy Aa Aa hL)<|wv (AcZ Aa Aa (by decide))<|wv (Alt Aa Aa)<|ck hN λhO hP=>wv (UJ YF K9 Aa Aa hO)<|ck hP λhQ hR=>wv (QP (enc:=(rI .i64)) (ys:=hf) (i:=0) Qy Aa Aa hQ)<|wv (AcZ Aa Aa (by decide))<|wv (Alt Aa Aa)<|ck hR λhS hT=>wv (UJ YF K9 Aa Aa hS)<|ck hT λhU hV=>wv (QP (enc:=(rI .i64)) (ys:=hf) (i:=0) Qy Aa Aa hU)<|wv (Alt Aa Aa)<|By Aa<|cs hV▸Ap (LA Tryz.results129 AW AW) (sS sN) ⟨Aa,Aa⟩
theorem ZN (q:A1)(addr port:Int)(r:Bool)(h:LW q addr port=some r):FN 131 [Cz (B1 q),AZ addr,AZ port] [] (PO (rB r)):=en Tryz.func131 Tryz.ntmps131 Aa λw Z=>by unfold LW at h;exact Ay<|Cb Aa Aa λb1=>Cs Aa<|ck h λg2 h3=>ck h3 λg4 h5=>ck h5 λg6 h7=>ck h7 λg8 h9=>ck h9 λhe hf=>Ar [(6,rB ((Bm ((ov (Gf q))=0))&&((ov (Ga addr q.fAddr (q.fAddr+(ov (Hl q.fBits)))))&&(ov (Ga port q.fLow q.fHigh)))))] [] (AF (Bm ((ov (Gf q))=0)) (λhb=>AF ((ov (Ga addr q.fAddr (q.fAddr+(ov (Hl q.fBits)))))) (λhd=>by refine Dn [1,2,3] ?_;exact rq (B0 0)<|IS (Dy Tryz.call65 (OG q (ov (Gf q)) (Dr g2)) Aa)<|rq Bx<|rq AD<|rg hb (AE Aa)<|rg hb (Aq To Aa K9 Aa Aa)<|rg hb (AY 0 Qy Aa Aa Aa)<|rg hb (Aq To Aa K9 Aa Aa)<|rg hb (AY 0 Qy Aa Aa Aa)<|rg hb (Aq To Aa K9 Aa Aa)<|rg hb (AY 0 Qy Aa Aa Aa)<|ro hb (Dy Tryz.call112 (UK q.fBits (ov (Hl q.fBits)) (Dr (BL g4 hb))) Aa)<|rg hb (ZL Aa Aa (BL g6 hb))<|ro hb (Dy SG (NQ addr q.fAddr (q.fAddr+(ov (Hl q.fBits))) (ov (Ga addr q.fAddr (q.fAddr+(ov (Hl q.fBits))))) (Dr (BL g8 hb))) Aa)<|rq (Aj hb)<|rq AD<|rg hd (AE Aa)<|rg hd (Aq To Aa K9 Aa Aa)<|rg hd (AY 0 Qy Aa Aa Aa)<|rg hd (Aq To Aa K9 Aa Aa)<|rg hd (AY 0 Qy Aa Aa Aa)<|ro hd (Dy SG (NQ port q.fLow q.fHigh (ov (Ga port q.fLow q.fHigh)) (Dr (BL (BL he hb) hd))) Aa)<|rq (Aj hd)<|rq AT<|by refine re [6] ?_;exact BR (Db hb hd)) λhd=>by refine Dn [1,2,3] ?_;exact rq (B0 0)<|IS (Dy Tryz.call65 (OG q (ov (Gf q)) (Dr g2)) Aa)<|rq Bx<|rq AD<|rg hb (AE Aa)<|rg hb (Aq To Aa K9 Aa Aa)<|rg hb (AY 0 Qy Aa Aa Aa)<|rg hb (Aq To Aa K9 Aa Aa)<|rg hb (AY 0 Qy Aa Aa Aa)<|rg hb (Aq To Aa K9 Aa Aa)<|rg hb (AY 0 Qy Aa Aa Aa)<|ro hb (Dy Tryz.call112 (UK q.fBits (ov (Hl q.fBits)) (Dr (BL g4 hb))) Aa)<|rg hb (ZL Aa Aa (BL g6 hb))<|ro hb (Dy SG (NQ addr q.fAddr (q.fAddr+(ov (Hl q.fBits))) (ov (Ga addr q.fAddr (q.fAddr+(ov (Hl q.fBits))))) (Dr (BL g8 hb))) Aa)<|rq (Aj hb)<|rq AD<|rz hd<|rz hd<|rz hd<|rz hd<|rz hd<|rz hd<|rq (Am hd)<|rq AT<|by refine re [6] ?_;exact BR (Db hb hd)) λhb=>by refine Dn [1,2,3] ?_;exact rq (B0 0)<|IS (Dy Tryz.call65 (OG q (ov (Gf q)) (Dr g2)) Aa)<|rq Bx<|rq AD<|rz hb<|rz hb<|rz hb<|rz hb<|rz hb<|rz hb<|rz hb<|rz hb<|rz hb<|rz hb<|rq (Am hb)<|rq AD<|rz Aa<|rz Aa<|rz Aa<|rz Aa<|rz Aa<|rz Aa<|rq (Am Aa)<|rq AT<|by refine re [6] ?_;exact BR hb)<|BO<|cs hf▸CY Tryz.results131 ⟨Aa,Aa⟩
theorem UL (F:Nat)(l:(List A1))(addr port:Int)(r:Ch)(h:JC F l addr port=some r):FN 79 [B4 5 (Bu B1 l),AZ addr,AZ port] [] (PO (Cz (HL r))):=en Tryz.func79 Tryz.ntmps79 Aa λw Z=>by unfold JC at h;exact Ay<|BY (cs:=(JR)) YE Aa Aa λb1=>BD Aa<|wv AU<|Cs Aa<|Au<|ob h λhh hi hg=>Bk (V:=(Unit)×(Unit)) 0 (λσ=>Cg (λσ=>Im l addr port σ) σ.1 σ.2.1=some hh) (λσ=>[(1,AZ addr),(2,AZ port),(6,rP b1 0),(9,B4 5 (Bu B1 l)),(10,AZ (l.length:Int)),(11,AZ σ.2.1)]) (λσ=>[.blk b1 (JR) 140]) (λσ=>σ.1) (F,0,()) hi (A7 Aa) (sC sN) (λσ=>Lk =some r) (λσ=>[(6,rP b1 0)]) (λσ=>[.blk b1 (JR) 140]) (by rintro⟨h3,hd,⟨⟩⟩ hj;refine EG ?_;obtain⟨hk,rfl,hl,he,hf⟩:=Cq hj;have he:Im l addr port hd=some hl:=he;exact Ay<|wv BI<|BU<|B2 he (λc53 hm=>Bt<|Au<|AA Aa<|ck hm λhn hp=>wv (AX hn)<|wv C2<|BY (cs:=[rB false,AZ 0,AZ 0,AZ 0,AZ 0]) AkO Aa Aa λh4=>by refine ms Aa<|Eu 0 AfO Aa Aa Aa (Bn.c Aa) Aa Aa ?_;exact Dc<|wv (B0 0)<|ms Aa<|ob hp λhq hr hs=>BV Tryz.call131 (ZN (Af l hd) addr port hq hr)<|AJ<|B2 hs (λht hu=>by refine Ay<|wv An<|wv (Ae 0)<|ms Aa<|wv (CD JJ Aa (Eo Aa (Eo Aa cN)) Aa)<|Eu 1 IJ Aa Aa Aa (Bn.c Aa) Aa Aa ?_;exact DQ<|B8<|Ao<|Bf<|have hw:=BE hu hf hg;B8<|cs hw▸Ap (Ct Tryz.results79 (C7 (i:=1) SH IJ Aa Aa Aa)) (sK 0) ⟨Aa,Aa⟩) λht hx=>B3<|CR<|A4<|ck hx λhy hz=>wv (Bh hy)<|Bg Aa<|have h0:=Bd hz hf;Ax (As (hk,hd+1,()) ⟨h0,Apu _⟩ (A7 Aa) (sS (sC sN)))) λc53 h1=>Bs<|Ah<|have h2:=BG h1 hf hg;Ah (AN (As ((),()) h2 (A7 Aa) (sC sN))))<|by rintro⟨⟨⟩,⟨⟩⟩ hb;refine Gw ?_;exact have hb:Lk =some r:=hb;by unfold Lk at hb;refine AR<|Cy<|Ay<|wv (CD JJ Aa (Eo Aa cN) Aa)<|Eu 0 IJ Aa Aa Aa (Bn.c Aa) Aa Aa ?_;exact DQ<|cs hb▸Ap (Ct Tryz.results79 (C7 (i:=0) SH IJ Aa Aa Aa)) (sS sN) ⟨Aa,Aa⟩
end Go.Proofs.YtphnhpcjnmmhiaaGreatDoor.Q
namespace Go.Proofs.YtphnhpcjnmmhiaaGreatDoor
open Go
set_option linter.unusedVariables false
structure A6 where
 fOp:Ac
 fArgs:(List (List Ab))
 deriving DecidableEq,Inhabited
structure A0 where
 fTenant:Ac
 fFunction:Ac
 fOps:(List Ac)
 fPolicy:(List Ad)
 fNet:(List A1)
 fNow:Int
 deriving DecidableEq,Inhabited
structure AB where
 fKey:Ac
 fValue:(List Ab)
 fVersion:Int
 deriving DecidableEq,Inhabited
def Gm (F:Nat)(l:(List Ac))(hb:Int):Option (Stp Int (Out Bool Unit)):=
 Bj (decide (hb<(l.length:Int))) (AM (Cn hb (l.length:Int))<|Ba (K4 F (Af l hb)) λhd=>Bj (!hd) (some (.out (.ret false))) (AM (BT .i64 (hb+1))<|some (.next (hb+1)))) (some (.out (.go ())))
def Hh :Option Bool:=
 some true
def DE (F:Nat)(l:(List Ac)):Option Bool:=
 Ba (Cg (λσ=>Gm F l σ) F 0) (Cm λν=>Hh )
def Ku (F:Nat)(l:(List Ac))(s:Ac)(hb:Int):Option (Stp Int (Out Bool Unit)):=
 Bj (decide (hb<(l.length:Int))) (AM (Cn hb (l.length:Int))<|Ba (OQ F (Af l hb) s) λhd=>Bj hd (some (.out (.ret true))) (AM (BT .i64 (hb+1))<|some (.next (hb+1)))) (some (.out (.go ())))
def LO :Option Bool:=
 some false
def IY (F:Nat)(l:(List Ac))(s:Ac):Option Bool:=
 Ba (Cg (λσ=>Ku F l s σ) F 0) (Cm λν=>LO )
def G6 (F:Nat)(s:Ad):Option Int:=
 Bj (((decide ((s.fActions.length:Int)<1))||((decide (8<(s.fActions.length:Int)))||((decide ((s.fResources.length:Int)<1))||(decide (8<(s.fResources.length:Int))))))) (some 3) (AM (DE F s.fActions).isSome<|AM (imp (!(!(ov (DE F s.fActions)))) (DE F s.fResources).isSome)<|Bj (((!(ov (DE F s.fActions)))||(!(ov (DE F s.fResources))))) (some 4) (some 0))
def Hi (F:Nat)(s:Ad)(action resource:Ac):Option Bool:=
 AM (G6 F s).isSome<|AM (imp (decide ((ov (G6 F s))=0)) (IY F s.fActions action).isSome)<|AM (imp (decide ((ov (G6 F s))=0)) (imp ((ov (IY F s.fActions action))) (IY F s.fResources resource).isSome))<|some ((decide ((ov (G6 F s))=0))&&((ov (IY F s.fActions action))&&(ov (IY F s.fResources resource))))
def Il (F:Nat)(l:(List Ad))(allow:Bool)(action resource:Ac)(hb:Int):Option (Stp Int (Out Int Unit)):=
 Bj (decide (hb<(l.length:Int))) (AM (Cn hb (l.length:Int))<|AM (imp ((Af l hb).fAllow ==allow) (Hi F (Af l hb) action resource).isSome)<|Bj ((((Af l hb).fAllow ==allow)&&(ov (Hi F (Af l hb) action resource)))) (some (.out (.ret hb))) (AM (BT .i64 (hb+1))<|some (.next (hb+1)))) (some (.out (.go ())))
def J8 :Option Int:=
 some (-1)
def NO (F:Nat)(l:(List Ad))(allow:Bool)(action resource:Ac):Option Int:=
 Ba (Cg (λσ=>Il F l allow action resource σ) F 0) (Cm λν=>J8 )
def LP (F:Nat)(l:(List Ad))(action resource:Ac):Option Ch:=
 Ba (NO F l false action resource) λr2=>Bj (decide (0≤r2)) (some (Ch.mk false r2)) (Ba (NO F l true action resource) λr8=>some (Ch.mk (decide (0≤r8)) r8))
def Dt (n:Int):Option Bool:=
 some ((decide (0≤n))&&(decide (n≤4294967295)))
def Ey (n:Int):Option Bool:=
 some ((decide (1≤n))&&(decide (n≤65535)))
def PY (hb hd:Int):Option (Stp (Int×Int) (Out Int Int)):=
 Bj (decide (hd<32)) (AM (BT .i64 (2*hb))<|AM (BT .i64 (hd+1))<|some (.next (2*hb,hd+1))) (some (.out (.go hb)))
def M9 (hb:Int):Option Int:=
 some hb
def Ex (F:Nat)(bits:Int):Option Int:=
 Ba (Cg (λσ=>PY σ.1 σ.2) F (1,bits)) (Cm λν=>M9 ν)
def EJ (F:Nat)(q:A1):Option Int:=
 AM (Dt q.fAddr).isSome<|AM (imp (!(!(ov (Dt q.fAddr)))) (imp (!(decide (q.fBits<0))) (imp (!(decide (32<q.fBits))) (Ey q.fLow).isSome)))<|AM (imp (!(!(ov (Dt q.fAddr)))) (imp (!(decide (q.fBits<0))) (imp (!(decide (32<q.fBits))) (imp (!(!(ov (Ey q.fLow)))) (Ey q.fHigh).isSome))))<|Bj (((!(ov (Dt q.fAddr)))||((decide (q.fBits<0))||((decide (32<q.fBits))||((!(ov (Ey q.fLow)))||((!(ov (Ey q.fHigh)))||(decide (q.fHigh<q.fLow)))))))) (some 2) (Ba (Ex F q.fBits) λhb=>AM (!decide (hb=0))<|Bj (!decide ((Int.tmod q.fAddr hb)=0)) (some 1) (some 0))
def Kt (hb:Int)(hd:(List Ac))(he:Int):Option (Stp ((List Ac)×Int×Int) (Out ((List Ac)) ((List Ac)×Int))):=
 AM (BT .i64 (hb+1))<|some (.next (hd,he,hb+1))
def E0 (s:Ac)(c:Int)(he:(List Ac))(hd hb:Int):Option (Stp ((List Ac)×Int×Int) (Out ((List Ac)) ((List Ac)×Int))):=
 Bj (decide (hb<(s.length:Int))) (AM (Cn hb (s.length:Int))<|Bj (decide ((C0 s hb)=c)) (AM (IG hd hb)<|AM (IG hb (s.length:Int))<|AM (Dl 16 (he.length+([List.take (Int.toNat hb-Int.toNat hd) (List.drop (Int.toNat hd) s)]:List Ac).length))<|AM (BT .i64 (hb+1))<|Kt hb (he++([List.take (Int.toNat hb-Int.toNat hd) (List.drop (Int.toNat hd) s)]:List Ac)) (hb+1)) (Kt hb he hd)) (some (.out (.go (he,hd))))
def Ks (s:Ac)(hd:(List Ac))(hb:Int):Option ((List Ac)):=
 AM (IG hb (s.length:Int))<|AM (Dl 16 (hd.length+([List.drop (Int.toNat hb) s]:List Ac).length))<|some (hd++([List.drop (Int.toNat hb) s]:List Ac))
def U7 (F:Nat)(s:Ac)(c:Int):Option ((List Ac)):=
 Ba (Cg (λσ=>E0 s c σ.1 σ.2.1 σ.2.2) F (([]:List Ac),0,0)) (Cm λν=>Ks s ν.1 ν.2)
def E7 (r1:(List Ac))(hd hb:Int):Option (Stp (Int×Int) (Out (Int×Int) Int)):=
 Bj (decide (hb<4)) (AM (Cn hb (r1.length:Int))<|AM (Dl 1 (Af r1 hb).length)<|Bj (((!decide ((D1 (Af r1 hb))=0))||((decide ((Cc (Af r1 hb))<0))||(decide (255<(Cc (Af r1 hb))))))) (some (.out (.ret (0,1)))) (AM (BT .i64 (256*hd))<|AM (BT .i64 ((256*hd)+(Cc (Af r1 hb))))<|AM (BT .i64 (hb+1))<|some (.next ((256*hd)+(Cc (Af r1 hb)),hb+1)))) (some (.out (.go hd)))
def I2 (hb:Int):Option (Int×Int):=
 some (hb,0)
def Lj (F:Nat)(s:Ac):Option (Int×Int):=
 Ba (U7 F s 46) λr1=>Bj (!decide ((r1.length:Int)=4)) (some (0,1)) (Ba (Cg (λσ=>E7 r1 σ.1 σ.2) F (0,0)) (Cm λν=>I2 ν))
def J7 (F:Nat)(q:A1)(addr port:Int):Option Bool:=
 AM (EJ F q).isSome<|AM (imp (!(!decide ((ov (EJ F q))=0))) (Dt addr).isSome)<|AM (imp (!(!decide ((ov (EJ F q))=0))) (imp (!(!(ov (Dt addr)))) (Ey port).isSome))<|Bj (((!decide ((ov (EJ F q))=0))||((!(ov (Dt addr)))||(!(ov (Ey port)))))) (some false) (AM (Ex F q.fBits).isSome<|AM (!decide ((ov (Ex F q.fBits))=0))<|AM (BT .i64 (Int.tdiv addr (ov (Ex F q.fBits))))<|AM (BT .i64 (Int.tdiv q.fAddr (ov (Ex F q.fBits))))<|some ((decide ((Int.tdiv addr (ov (Ex F q.fBits)))=(Int.tdiv q.fAddr (ov (Ex F q.fBits)))))&&((decide (q.fLow≤port))&&(decide (port≤q.fHigh)))))
def GF (F:Nat)(l:(List A1))(addr port hb:Int):Option (Stp Int (Out Ch Unit)):=
 Bj (decide (hb<(l.length:Int))) (AM (Cn hb (l.length:Int))<|Ba (J7 F (Af l hb) addr port) λhd=>Bj hd (some (.out (.ret (Ch.mk (Af l hb).fAllow hb)))) (AM (BT .i64 (hb+1))<|some (.next (hb+1)))) (some (.out (.go ())))
def Jv :Option Ch:=
 some (Ch.mk false (-1))
def IW (F:Nat)(l:(List A1))(addr port:Int):Option Ch:=
 Ba (Cg (λσ=>GF F l addr port σ) F 0) (Cm λν=>Jv )
def Hz (F:Nat)(op:Ac):Option Bool:=
 Ba (Aas F ([([103,101,116]:Ac),([112,117,116]:Ac),([100,101,108,101,116,101]:Ac),([115,101,110,100]:Ac),([116,105,109,101,114]:Ac),([115,105,103,110,97,108]:Ac),([115,101,99,114,101,116]:Ac),([102,101,116,99,104]:Ac),([110,111,119]:Ac),([108,111,103]:Ac)]:List Ac) op) λr2=>some r2
def NI (F:Nat)(v:(List Ab)):Option (Ac×Bool):=
 AM (I1 F v).isSome<|AM (imp (!(!decide ((ov (I1 F v))=0))) (Cn 0 (v.length:Int)))<|Bj (((!decide ((ov (I1 F v))=0))||(!decide ((Af v 0).fKind=4)))) (some (([]:Ac),false)) (AM (Cn 0 (v.length:Int))<|some ((Af v 0).fStr,true))
def Gj (s:Ac)(hb:Int):Option (Stp Int (Out (Int×Int×Bool) Int)):=
 AM (imp (decide (hb<(s.length:Int))) (Cn hb (s.length:Int)))<|Bj (((decide (hb<(s.length:Int)))&&(!decide ((C0 s hb)=58)))) (AM (BT .i64 (hb+1))<|some (.next (hb+1))) (some (.out (.go hb)))
def Hf (F:Nat)(s:Ac)(hb:Int):Option (Int×Int×Bool):=
 Bj (decide (hb=(s.length:Int))) (some (0,0,false)) (AM (IG hb (s.length:Int))<|Ba (Lj F (List.take (Int.toNat hb) s)) λhd=>AM (BT .i64 (hb+1))<|AM (IG (hb+1) (s.length:Int))<|AM (Dl 1 (List.drop (Int.toNat (hb+1)) s).length)<|Bj (((!decide (hd.2=0))||((!decide ((D1 (List.drop (Int.toNat (hb+1)) s))=0))||((decide ((Cc (List.drop (Int.toNat (hb+1)) s))<1))||(decide (65535<(Cc (List.drop (Int.toNat (hb+1)) s)))))))) (some (0,0,false)) (some (hd.1,Cc (List.drop (Int.toNat (hb+1)) s),true)))
def Ik (F:Nat)(s:Ac):Option (Int×Int×Bool):=
 Ba (Cg (λσ=>Gj s σ) F 0) (Cm λν=>Hf F s ν)
def J6 (F:Nat)(op s:Ac):Option Bool:=
 Bj (((decide (op=([103,101,116]:Ac)))||((decide (op=([112,117,116]:Ac)))||((decide (op=([100,101,108,101,116,101]:Ac)))||(decide (op=([115,105,103,110,97,108]:Ac))))))) (AM (Dl 1 s.length)<|some (Mf s)) (Bj (decide (op=([102,101,116,99,104]:Ac))) (Ba (Ik F s) λhb=>some hb.2.2) (AM (Dl 1 s.length)<|some (D0 s)))
def XM (op:Ac):Option Int:=
 Bj (decide (op=([110,111,119]:Ac))) (some 0) (Bj (((decide (op=([103,101,116]:Ac)))||((decide (op=([100,101,108,101,116,101]:Ac)))||((decide (op=([115,101,99,114,101,116]:Ac)))||(decide (op=([108,111,103]:Ac))))))) (some 1) (Bj (decide (op=([116,105,109,101,114]:Ac))) (some 3) (some 2)))
def H0 (v:(List Ab)):Option Bool:=
 AM (Cn 0 (v.length:Int))<|AM (imp (decide ((Af v 0).fKind=5)) (imp (decide (0<(Af v 0).fN)) (Cn 1 (v.length:Int))))<|some ((decide ((Af v 0).fKind=5))&&((decide (0<(Af v 0).fN))&&(decide ((Af v 1).fKind=4))))
def HX (F:Nat)(q:A6)(hb:Int):Option (Stp Int (Out Bool Unit)):=
 Bj (decide (hb<(q.fArgs.length:Int))) (AM (Cn hb (q.fArgs.length:Int))<|Ba (I1 F (Af q.fArgs hb)) λhd=>Bj (!decide (hd=0)) (some (.out (.ret false))) (AM (BT .i64 (hb+1))<|some (.next (hb+1)))) (some (.out (.go ())))
def E5 (F:Nat)(q:A6):Option Bool:=
 Bj (((decide (q.fOp=([110,111,119]:Ac)))||(decide (q.fOp=([108,111,103]:Ac))))) (some true) (AM (Cn 0 (q.fArgs.length:Int))<|Ba (NI F (Af q.fArgs 0)) λhb=>AM (imp (!(!hb.2)) (J6 F q.fOp hb.1).isSome)<|Bj (((!hb.2)||(!(ov (J6 F q.fOp hb.1))))) (some false) (Bj (decide (q.fOp=([116,105,109,101,114]:Ac))) (AM (Cn 1 (q.fArgs.length:Int))<|AM (Cn 0 ((Af q.fArgs 1).length:Int))<|some ((decide ((Af (Af q.fArgs 1) 0).fKind=3))&&((decide (0≤(Af (Af q.fArgs 1) 0).fInt))&&(decide ((Af (Af q.fArgs 1) 0).fInt≤1073741824))))) (AM (imp (!(!decide (q.fOp=([115,105,103,110,97,108]:Ac)))) (Cn 1 (q.fArgs.length:Int)))<|AM (imp (!(!decide (q.fOp=([115,105,103,110,97,108]:Ac)))) (H0 (Af q.fArgs 1)).isSome)<|some ((!decide (q.fOp=([115,105,103,110,97,108]:Ac)))||(ov (H0 (Af q.fArgs 1)))))))
def QJ (F:Nat)(q:A6):Option Bool:=
 Ba (XM q.fOp) λr2=>Bj (!decide ((q.fArgs.length:Int)=r2)) (some false) (Ba (Cg (λσ=>HX F q σ) F 0) (Cm λν=>E5 F q ))
def EO (F:Nat)(a:A0)(hb:Int):Option (Stp Int (Out Int Unit)):=
 Bj (decide (hb<(a.fNet.length:Int))) (AM (Cn hb (a.fNet.length:Int))<|Ba (EJ F (Af a.fNet hb)) λhd=>Bj (!decide (hd=0)) (some (.out (.ret hd))) (AM (BT .i64 (hb+1))<|some (.next (hb+1)))) (some (.out (.go ())))
def DM (a:A0):Option Int:=
 Bj (((decide (a.fNow<0))||(decide (1073741824<a.fNow)))) (some 2) (some 0)
def EP (F:Nat)(a:A0)(hb:Int):Option (Stp Int (Out Int Unit)):=
 Bj (decide (hb<(a.fPolicy.length:Int))) (AM (Cn hb (a.fPolicy.length:Int))<|Ba (G6 F (Af a.fPolicy hb)) λhd=>Bj (!decide (hd=0)) (some (.out (.ret hd))) (AM (BT .i64 (hb+1))<|some (.next (hb+1)))) (some (.out (.go ())))
def Ek (F:Nat)(a:A0):Option Int:=
 Ba (Cg (λσ=>EO F a σ) F 0) (Cm λν=>DM a )
def CZ (a:A0)(hb:Int):Option (Stp Int (Out Int Unit)):=
 Bj (decide (hb<(a.fOps.length:Int))) (AM (Cn hb (a.fOps.length:Int))<|AM (BT .i64 (hb-1))<|AM (Cn (hb-1) (a.fOps.length:Int))<|Bj (Cr (Af a.fOps hb) (Af a.fOps (hb-1))||decide ((Af a.fOps hb)=(Af a.fOps (hb-1)))) (some (.out (.ret 11))) (AM (BT .i64 (hb+1))<|some (.next (hb+1)))) (some (.out (.go ())))
def El (F:Nat)(a:A0):Option Int:=
 Bj (((decide (32<(a.fPolicy.length:Int)))||(decide (32<(a.fNet.length:Int))))) (some 3) (Ba (Cg (λσ=>EP F a σ) F 0) (Cm λν=>Ek F a ))
def En (F:Nat)(a:A0)(hb:Int):Option (Stp Int (Out Int Unit)):=
 Bj (decide (hb<(a.fOps.length:Int))) (AM (Cn hb (a.fOps.length:Int))<|Ba (Hz F (Af a.fOps hb)) λhd=>Bj (!hd) (some (.out (.ret 4))) (AM (BT .i64 (hb+1))<|some (.next (hb+1)))) (some (.out (.go ())))
def Em (F:Nat)(a:A0):Option Int:=
 Ba (Cg (λσ=>CZ a σ) F 1) (Cm λν=>El F a )
def E6 (F:Nat)(a:A0):Option Int:=
 AM (Dl 1 a.fTenant.length)<|AM (imp (!(!(D0 a.fTenant))) (Dl 1 a.fFunction.length))<|Bj (((!(D0 a.fTenant))||(!(D0 a.fFunction)))) (some 4) (Ba (Cg (λσ=>En F a σ) F 0) (Cm λν=>Em F a ))
def Gl (F:Nat)(l:(List AB))(hb:Int):Option (Stp Int (Out Int Unit)):=
 Bj (decide (hb<(l.length:Int))) (AM (Cn hb (l.length:Int))<|AM (Dl 1 (Af l hb).fKey.length)<|Bj (!(Mf (Af l hb).fKey)) (some (.out (.ret 4))) (Ba (I1 F (Af l hb).fValue) λhd=>Bj (!decide (hd=0)) (some (.out (.ret hd))) (Bj (decide ((Af l hb).fVersion<1)) (some (.out (.ret 2))) (AM (imp (decide (0<hb)) (BT .i64 (hb-1)))<|AM (imp (decide (0<hb)) (Cn (hb-1) (l.length:Int)))<|Bj (((decide (0<hb))&&(Cr (Af l hb).fKey (Af l (hb-1)).fKey||decide ((Af l hb).fKey=(Af l (hb-1)).fKey)))) (some (.out (.ret 11))) (AM (BT .i64 (hb+1))<|some (.next (hb+1))))))) (some (.out (.go ())))
def Gk :Option Int:=
 some 0
def HF (F:Nat)(l:(List AB)):Option Int:=
 Bj (decide (256<(l.length:Int))) (some 3) (Ba (Cg (λσ=>Gl F l σ) F 0) (Cm λν=>Gk ))
def Gx (v:(List Ab)):Option ((List Ab)):=
 AM (Dl 40 (([]:List Ab).length+v.length))<|some (([]:List Ab)++v)
def NJ (tenant op name:Ac):Option Ac:=
 AM (BT .i64 ((tenant.length:Int)+(([47]:Ac).length:Int)))<|AM (BT .i64 (((tenant++([47]:Ac)).length:Int)+(op.length:Int)))<|AM (BT .i64 ((((tenant++([47]:Ac))++op).length:Int)+(([47]:Ac).length:Int)))<|AM (BT .i64 (((((tenant++([47]:Ac))++op)++([47]:Ac)).length:Int)+(name.length:Int)))<|some ((((tenant++([47]:Ac))++op)++([47]:Ac))++name)
def Hg (F:Nat)(a:A0)(q:A6):Option Int:=
 Ba (E6 F a) λr3=>Bj (!decide (r3=0)) (some r3) (Ba (Hz F q.fOp) λr9=>Bj (!r9) (some 4) (Ba (Aas F a.fOps q.fOp) λhe=>Bj (!he) (some 12) (Ba (QJ F q) λhf=>Bj (!hf) (some 7) (Bj (((decide (q.fOp=([110,111,119]:Ac)))||(decide (q.fOp=([108,111,103]:Ac))))) (some 0) (AM (Cn 0 (q.fArgs.length:Int))<|Ba (NI F (Af q.fArgs 0)) λhb=>Ba (NJ a.fTenant q.fOp hb.1) λhg=>Ba (LP F a.fPolicy q.fOp hg) λhh=>Bj (!hh.fAllowed) (some 12) (Bj (decide (q.fOp=([102,101,116,99,104]:Ac))) (Ba (Ik F hb.1) λhd=>Ba (IW F a.fNet hd.1 hd.2.1) λhi=>Bj (!hi.fAllowed) (some 12) (some 0)) (some 0)))))))
end Go.Proofs.YtphnhpcjnmmhiaaGreatDoor
namespace Go.Proofs.YtphnhpcjnmmhiaaGreatDoor.Q
open Go Go.RowKit
set_option linter.unusedVariables false
set_option linter.unusedSimpArgs false
set_option maxRecDepth 100000
set_option maxHeartbeats 4000000
@[reducible] def B5 (x:(List Ab)):List Rp:=(Ea x)
theorem DS (x:(List Ab)):(B5 x).length=1:=rfl
@[reducible] def Ce (x:A6):List Rp:=[rS x.fOp,B4 1 (Bu B5 x.fArgs)]
theorem Sv (x:A6):(Ce x).length=2:=rfl
@[reducible] def Cv (x:A0):List Rp:=[rS x.fTenant,rS x.fFunction,B4 1 (Bu eS x.fOps),B4 3 (Bu AK x.fPolicy),B4 5 (Bu B1 x.fNet),AZ x.fNow]
abbrev Qh (x0:Ac)(x1:List Ab)(x2:Int):List Rp:=[rS x0,B4 4 (Bu A5 x1),AZ x2]
@[reducible] def BJ (x:AB):List Rp:=(Qh x.fKey x.fValue x.fVersion)
theorem GI (x:AB):(BJ x).length=3:=rfl
theorem P6 (x:AB):(BJ x).all (·.one)=true:=rfl
theorem AhE:ifI 82 (.agg #[(.int .i64 0),(.int .i64 0),(.string ⟨#[]⟩),(.int .i64 0)]) 4 40:=Ra (by kernel_rfl)
theorem Pz (F:Nat)(l:(List Ac))(r:Bool)(h:DE F l=some r):FN 115 [B4 1 (Bu eS l)] [] (PO (rB r)):=en Tryz.func115 Tryz.ntmps115 Aa λw Z=>AA Aa<|BD Aa<|AJ<|Au<|ob h λhh hi hg=>Bk (V:=Unit×Unit) 0 (λσ=>Cg (λσ=>Gm F l σ) σ.1 σ.2.1=some hh) (λσ=>[(0,B4 1 (Bu eS l)),(3,AZ σ.2.1)]) (λσ=>[]) (λσ=>σ.1) (F,0,()) hi (A7 Aa) sN (λσ=>Hh =some r) (λσ=>[]) (λσ=>[]) (by rintro⟨h4,hd,⟨⟩⟩ hj;refine EG ?_;obtain⟨hk,rfl,hl,he,hf⟩:=Cq hj;have he:Gm F l hd=some hl:=he;exact AV<|AA Aa<|wv AU<|wv BI<|AJ<|B2 he (λhm hn=>Bt<|Au<|AA Aa<|ck hn λhp hq=>wv (AX hp)<|wv AS<|ob hq λhr hs ht=>BV Tryz.call159 (Te F (Af l hd) hr hs)<|wv BQ<|AJ<|B2 ht (λhu hw=>B6 Aa<|B8<|Ao<|Bf<|have hx:=BE hw hf hg;B8<|cs hx▸CY Tryz.results115 ⟨Aa,Aa⟩) λhu hy=>B3<|CR<|B7 Aa<|ck hy λhz h0=>wv (Bh hz)<|Bg Aa<|have h1:=Bd h0 hf;Ax (As (hk,hd+1,()) ⟨h1,Apu _⟩ (A7 Aa) sN)) λhm h2=>Bs<|Ah<|have h3:=BG h2 hf hg;Ah (AN (As ((),()) h3 Hw.nil sN)))<|by rintro⟨⟨⟩,⟨⟩⟩ hb;refine Gw ?_;exact have hb:Hh =some r:=hb;by unfold Hh at hb;exact AR<|Cy<|B6 Aa<|cs hb▸CY Tryz.results115 ⟨Aa,Aa⟩
theorem Z4 (F:Nat)(l:(List Ac))(s:Ac)(r:Bool)(h:IY F l s=some r):FN 196 [B4 1 (Bu eS l),rS s] [] (PO (rB r)):=en Tryz.func196 Tryz.ntmps196 Aa λw Z=>AA Aa<|BD Aa<|AJ<|Au<|ob h λhh hi hg=>Bk (V:=Unit×Unit) 0 (λσ=>Cg (λσ=>Ku F l s σ) σ.1 σ.2.1=some hh) (λσ=>[(0,B4 1 (Bu eS l)),(1,rS s),(5,AZ σ.2.1)]) (λσ=>[]) (λσ=>σ.1) (F,0,()) hi (A7 Aa) sN (λσ=>LO =some r) (λσ=>[]) (λσ=>[]) (by rintro⟨h4,hd,⟨⟩⟩ hj;refine EG ?_;obtain⟨hk,rfl,hl,he,hf⟩:=Cq hj;have he:Ku F l s hd=some hl:=he;exact AV<|AA Aa<|wv AU<|wv BI<|AJ<|B2 he (λhm hn=>Bt<|Au<|AA Aa<|ck hn λhp hq=>wv (AX hp)<|wv AS<|ms Aa<|ob hq λhr hs ht=>BV Tryz.call221 (Aar F (Af l hd) s hr hs)<|AJ<|B2 ht (λhu hw=>B6 Aa<|B8<|Ao<|Bf<|have hx:=BE hw hf hg;B8<|cs hx▸CY Tryz.results196 ⟨Aa,Aa⟩) λhu hy=>B3<|CR<|B7 Aa<|ck hy λhz h0=>wv (Bh hz)<|Bg Aa<|have h1:=Bd h0 hf;Ax (As (hk,hd+1,()) ⟨h1,Apu _⟩ (A7 Aa) sN)) λhm h2=>Bs<|Ah<|have h3:=BG h2 hf hg;Ah (AN (As ((),()) h3 Hw.nil sN)))<|by rintro⟨⟨⟩,⟨⟩⟩ hb;refine Gw ?_;exact have hb:LO =some r:=hb;by unfold LO at hb;exact AR<|Cy<|B6 Aa<|cs hb▸CY Tryz.results196 ⟨Aa,Aa⟩
theorem U9 (F:Nat)(s:Ad)(r:Int)(h:G6 F s=some r):FN 70 [Cz (AK s)] [] (PO (AZ r)):=en Tryz.func70 Tryz.ntmps70 Aa λw Z=>by unfold G6 at h;exact Ay<|Cb Aa Aa λb1=>ms Aa<|BU<|Ar [(1,rP b1 0),(24,rB ((Bm ((s.fActions.length:Int)<1))||((Bm (8<(s.fActions.length:Int)))||((Bm ((s.fResources.length:Int)<1))||(Bm (8<(s.fResources.length:Int)))))))] [.blk b1 (AK s) 76] (A4<|wv An<|wv (Ae 0)<|wv AU<|wv BI<|ms Aa<|AF (Bm ((s.fActions.length:Int)<1)) (λc2=>CB c2 Aa<|wv (Aj c2)<|ms Aa<|Dx Aa<|wv (Aj Aa)<|ms Aa<|Dx Aa<|wv (Aj Aa)<|Az<|BR c2) λc2=>Bq c2 An<|Bq c2 (Ae 0)<|Bq c2 AU<|Bq c2 C9<|Ep Aa c2 Aa<|ms Aa<|AF (Bm (8<(s.fActions.length:Int))) (λc3=>CB c3 Aa<|wv (Aj c3)<|ms Aa<|Dx Aa<|wv (Aj Aa)<|Az<|BR (Db c2 c3)) λc3=>Bq c3 An<|Bq c3 (Ae 0)<|Bq c3 AU<|Bq c3 BI<|Ep Aa c3 Aa<|ms Aa<|AF (Bm ((s.fResources.length:Int)<1)) (λc4=>CB c4 Aa<|wv (Aj c4)<|Az<|by exact BR (Db c2 (Db c3 c4))) λc4=>Bq c4 An<|Bq c4 (Ae 0)<|Bq c4 AU<|Bq c4 C9<|Ep Aa c4 Aa<|Az<|by exact BR (Db c2 (Db c3 c4)))<|B2 h (λc5 h6=>Bw Aa<|cs h6▸Ap (Ct Tryz.results70 AW) (sS sN) ⟨Aa,Aa⟩) λc5 h7=>Bt<|ck h7 λg8 h9=>ck h9 λhd he=>Ar [(34,rB ((!(ov (DE F s.fActions)))||(!(ov (DE F s.fResources)))))] [] (A4<|wv An<|wv (Ae 0)<|BV Tryz.call115 (Pz F s.fActions (ov (DE F s.fActions)) (Dr g8))<|wv BQ<|ms Aa<|AF (!(ov (DE F s.fActions))) (λhb=>CB hb Aa<|wv (Aj hb)<|Az<|BR hb) λhb=>Bq hb An<|Bq hb (Ae 0)<|wo hb<|BV Tryz.call115 (Pz F s.fResources (ov (DE F s.fResources)) (Dr (CM hd hb)))<|Bq hb BQ<|Ep Aa hb Aa<|Az<|BR hb)<|B2 he (λhf hg=>Bw Aa<|cs hg▸CY Tryz.results70 ⟨Aa,Aa⟩) λhf hh=>BW<|B6 Aa<|cs hh▸CY Tryz.results70 ⟨Aa,Aa⟩
theorem XO (F:Nat)(s:Ad)(action resource:Ac)(r:Bool)(h:Hi F s action resource=some r):FN 167 [Cz (AK s),rS action,rS resource] [] (PO (rB r)):=en Tryz.func167 Tryz.ntmps167 Aa λw Z=>by unfold Hi at h;exact Ay<|Cb Aa Aa λb1=>Cs Aa<|ck h λg2 h3=>ck h3 λg4 h5=>ck h5 λg6 h7=>Ar [(6,rB ((Bm ((ov (G6 F s))=0))&&((ov (IY F s.fActions action))&&(ov (IY F s.fResources resource)))))] [] (A4<|wv (B0 0)<|BV Tryz.call70 (U9 F s (ov (G6 F s)) (Dr g2))<|wv Bx<|ms Aa<|AF (Bm ((ov (G6 F s))=0)) (λc8=>Bq c8 An<|Bq c8 (Ae 0)<|wo c8<|ms Aa<|wo c8<|BV Tryz.call196 (Z4 F s.fActions action (ov (IY F s.fActions action)) (Dr (BL g4 c8)))<|Ej Aa c8 Aa<|ms Aa<|AF ((ov (IY F s.fActions action))) (λc9=>Bq c9 An<|Bq c9 (Ae 0)<|wo c9<|ms Aa<|wo c9<|BV Tryz.call196 (Z4 F s.fResources resource (ov (IY F s.fResources resource)) (Dr (BL (BL g6 c8) c9)))<|Ej Aa c9 Aa<|Bg Aa<|BR (Db c8 c9)) λc9=>CB c9 Aa<|wv (Am c9)<|Bg Aa<|BR (Db c8 c9)) λc8=>CB c8 Aa<|wv (Am c8)<|ms Aa<|Dx Aa<|wv (Am Aa)<|Bg Aa<|BR c8)<|BO<|cs h7▸CY Tryz.results167 ⟨Aa,Aa⟩
theorem U8 (F:Nat)(l:(List Ad))(allow:Bool)(action resource:Ac)(r:Int)(h:NO F l allow action resource=some r):FN 141 [B4 3 (Bu AK l),rB allow,rS action,rS resource] [] (PO (AZ r)):=en Tryz.func141 Tryz.ntmps141 Aa λw Z=>AA Aa<|BD Aa<|AJ<|Au<|ob h λhj hk hh=>Bk (V:=Unit×Unit) 0 (λσ=>Cg (λσ=>Il F l allow action resource σ) σ.1 σ.2.1=some hj) (λσ=>[(0,B4 3 (Bu AK l)),(1,rB allow),(2,rS action),(3,rS resource),(9,AZ σ.2.1)]) (λσ=>[]) (λσ=>σ.1) (F,0,()) hk (A7 Aa) sN (λσ=>J8 =some r) (λσ=>[]) (λσ=>[]) (by rintro⟨h4,hd,⟨⟩⟩ hl;refine EG ?_;obtain⟨hm,rfl,hn,hf,hg⟩:=Cq hl;have hf:Il F l allow action resource hd=some hn:=hf;exact AV<|AA Aa<|wv AU<|wv BI<|AJ<|B2 hf (λhp hq=>Bt<|Au<|ck hq λhi hr=>ck hr λhs ht=>Ar [(0,B4 3 (Bu AK l)),(1,rB allow),(2,rS action),(3,rS resource),(9,AZ hd),(31,rB (((Af l hd).fAllow ==allow)&&(ov (Hi F (Af l hd) action resource))))] [] (B7 Aa<|wv (AX hi)<|wv CL<|wv AS<|ms Aa<|wv (AkA Tryz.underlying4 Aa Aa)<|ms Aa<|AF ((Af l hd).fAllow ==allow) (λhb=>wo hb<|ms Aa<|wo hb<|ms Aa<|Bq hb (AX hi)<|Bq hb C2<|wo hb<|ms Aa<|wo hb<|ms Aa<|wo hb<|BV Tryz.call167 (XO F (Af l hd) action resource (ov (Hi F (Af l hd) action resource)) (Dr (BL hs hb)))<|Ej Aa hb Aa<|Az<|BR hb) λhb=>CB hb Aa<|wv (Am hb)<|Az<|BR hb)<|B2 ht (λhu hw=>B6 Aa<|B8<|Ao<|Bf<|have hx:=BE hw hg hh;B8<|cs hx▸CY Tryz.results141 ⟨Aa,Aa⟩) λhu hy=>B3<|CR<|B7 Aa<|ck hy λhz h0=>wv (Bh hz)<|Bg Aa<|have h1:=Bd h0 hg;Ax (As (hm,hd+1,()) ⟨h1,Apu _⟩ (A7 Aa) sN)) λhp h2=>Bs<|Ah<|have h3:=BG h2 hg hh;Ah (AN (As ((),()) h3 Hw.nil sN)))<|by rintro⟨⟨⟩,⟨⟩⟩ he;refine Gw ?_;exact have he:J8 =some r:=he;by unfold J8 at he;exact AR<|Cy<|B6 Aa<|cs he▸CY Tryz.results141 ⟨Aa,Aa⟩
theorem Z5 (F:Nat)(l:(List Ad))(action resource:Ac)(r:Ch)(h:LP F l action resource=some r):FN 85 [B4 3 (Bu AK l),rS action,rS resource] [] (PO (Cz (HL r))):=en Tryz.func85 Tryz.ntmps85 Aa λw Z=>by unfold LP at h;exact Ay<|BY (cs:=JR) YE Aa Aa λb1=>BM Aa<|ob h λr2 e4 h3=>BV Tryz.call141 (U8 F l false action resource r2 e4)<|ms Aa<|BD Aa<|wv DK<|AJ<|B2 h3 (λc5 h6=>by refine AA Aa<|wv (CD JJ Aa (Eo Aa cN) Aa)<|Eu 0 IJ Aa Aa Aa (Bn.c Aa) Aa Aa ?_;exact DQ<|Ao<|cs h6▸Ap (Ct Tryz.results85 (C7 (i:=0) SH IJ Aa Aa Aa)) (sS sN) ⟨Aa,Aa⟩) λc5 h7=>by refine BW<|AA Aa<|ob h7 λr8 hb h9=>BV Tryz.call141 (U8 F l true action resource r8 hb)<|ms Aa<|BM Aa<|wv DK<|ms Aa<|wv (CD JJ Aa (Eo Aa (Eo Aa cN)) Aa)<|Eu 0 IJ Aa Aa Aa (Bn.c Aa) Aa Aa ?_;exact DQ<|cs h9▸Ap (Ct Tryz.results85 (C7 (i:=0) SH IJ Aa Aa Aa)) (sS sN) ⟨Aa,Aa⟩
theorem QL (n:Int)(r:Bool)(h:Dt n=some r):FN 116 [AZ n] [] (PO (rB r)):=en Tryz.func116 Tryz.ntmps116 Aa λw Z=>by unfold Dt at h;exact AA Aa<|AJ<|Ar [(2,rB ((Bm (0≤n))&&(Bm (n≤4294967295))))] [] (B7 Aa<|wv DK<|ms Aa<|AF (Bm (0≤n)) (λc1=>wo c1<|ms Aa<|Bq c1 Iu<|Ej Aa c1 Aa<|Bg Aa<|BR c1) λc1=>CB c1 Aa<|wv (Am c1)<|Bg Aa<|BR c1)<|BO<|cs h▸CY Tryz.results116 ⟨Aa,Aa⟩
theorem RP (n:Int)(r:Bool)(h:Ey n=some r):FN 117 [AZ n] [] (PO (rB r)):=en Tryz.func117 Tryz.ntmps117 Aa λw Z=>by unfold Ey at h;exact AA Aa<|AJ<|Ar [(2,rB ((Bm (1≤n))&&(Bm (n≤65535))))] [] (B7 Aa<|wv DK<|ms Aa<|AF (Bm (1≤n)) (λc1=>wo c1<|ms Aa<|Bq c1 Iu<|Ej Aa c1 Aa<|Bg Aa<|BR c1) λc1=>CB c1 Aa<|wv (Am c1)<|Bg Aa<|BR c1)<|BO<|cs h▸CY Tryz.results117 ⟨Aa,Aa⟩
theorem IX (F:Nat)(bits r:Int)(h:Ex F bits=some r):FN 118 [AZ bits] [] (PO (AZ r)):=en Tryz.func118 Tryz.ntmps118 Aa λw Z=>AA Aa<|BM Aa<|BD Aa<|AJ<|Au<|ob h λhh hi hj=>Bk (V:=Int×Unit) 0 (λσ=>Cg (λσ=>PY σ.1 σ.2) σ.1 σ.2.1=some hh) (λσ=>[(3,AZ σ.2.1.1),(4,AZ σ.2.1.2)]) (λσ=>[]) (λσ=>σ.1) (F,(1,bits),()) hi (A7 Aa) sN (λσ=>M9 σ.1=some r) (λσ=>[(3,AZ σ.1)]) (λσ=>[]) (by rintro⟨hz,⟨hd,hf⟩,⟨⟩⟩ hk;refine EG ?_;obtain⟨hl,rfl,hm,he,hg⟩:=Cq hk;have he:PY hd hf=some hm:=he;exact AV<|AA Aa<|wv BI<|AJ<|B2 he (λhn hp=>Bt<|Au<|B7 Aa<|ck hp λhq hr=>wv (Ahf Aa Aa hq)<|Bg Aa<|CR<|B7 Aa<|ck hr λhs ht=>wv (Bh hs)<|Bg Aa<|have hu:=Bd ht hg;Ax (As (hl,(2*hd,hf+1),()) ⟨hu,Apu _⟩ (A7 Aa) sN)) λhn hw=>Bs<|Ah<|have hx:=BG hw hg hj;Ah (AN (As (hd,()) hx (A7 Aa) sN)))<|by rintro⟨hy,⟨⟩⟩ hb;refine Gw ?_;exact have hb:M9 hy=some r:=hb;by unfold M9 at hb;exact AR<|Cy<|B6 Aa<|cs hb▸CY Tryz.results118 ⟨Aa,Aa⟩
theorem ST (F:Nat)(q:A1)(r:Int)(h:EJ F q=some r):FN 71 [Cz (B1 q)] [] (PO (AZ r)):=en Tryz.func71 Tryz.ntmps71 Aa λw Z=>by unfold EJ at h;exact Ay<|Cb Aa Aa λb1=>ms Aa<|BU<|ck h λg2 h3=>ck h3 λg4 h5=>ck h5 λg6 h7=>Ar [(1,rP b1 0),(35,rB ((!(ov (Dt q.fAddr)))||((Bm (q.fBits<0))||((Bm (32<q.fBits))||((!(ov (Ey q.fLow)))||((!(ov (Ey q.fHigh)))||(Bm (q.fHigh<q.fLow))))))))] [.blk b1 (B1 q) 73] (A4<|wv An<|wv (Ae 0)<|BV Tryz.call116 (QL q.fAddr (ov (Dt q.fAddr)) (Dr g2))<|wv BQ<|ms Aa<|AF (!(ov (Dt q.fAddr))) (λc8=>CB c8 Aa<|wv (Aj c8)<|ms Aa<|Dx Aa<|wv (Aj Aa)<|ms Aa<|Dx Aa<|wv (Aj Aa)<|ms Aa<|Dx Aa<|wv (Aj Aa)<|ms Aa<|Dx Aa<|wv (Aj Aa)<|Az<|by exact BR c8) λc8=>Bq c8 An<|Bq c8 (Ae 0)<|Bq c8 BI<|Ep Aa c8 Aa<|ms Aa<|AF (Bm (q.fBits<0)) (λc9=>CB c9 Aa<|wv (Aj c9)<|ms Aa<|Dx Aa<|wv (Aj Aa)<|ms Aa<|Dx Aa<|wv (Aj Aa)<|ms Aa<|Dx Aa<|wv (Aj Aa)<|Az<|by exact BR (Db c8 c9)) λc9=>Bq c9 An<|Bq c9 (Ae 0)<|Bq c9 C9<|Ep Aa c9 Aa<|ms Aa<|AF (Bm (32<q.fBits)) (λhb=>CB hb Aa<|wv (Aj hb)<|ms Aa<|Dx Aa<|wv (Aj Aa)<|ms Aa<|Dx Aa<|wv (Aj Aa)<|Az<|by exact BR (Db c8 (Db c9 hb))) λhb=>Bq hb An<|Bq hb (Ae 0)<|wo hb<|BV Tryz.call117 (RP q.fLow (ov (Ey q.fLow)) (Dr (CM (CM (CM g4 c8) c9) hb)))<|Bq hb BQ<|Ep Aa hb Aa<|ms Aa<|AF (!(ov (Ey q.fLow))) (λhd=>by exact CB hd Aa<|wv (Aj hd)<|ms Aa<|Dx Aa<|wv (Aj Aa)<|Az<|BR (Db c8 (Db c9 (Db hb hd)))) λhd=>by exact Bq hd An<|Bq hd (Ae 0)<|wo hd<|BV Tryz.call117 (RP q.fHigh (ov (Ey q.fHigh)) (Dr (CM (CM (CM (CM g6 c8) c9) hb) hd)))<|Bq hd BQ<|Ep Aa hd Aa<|ms Aa<|AF (!(ov (Ey q.fHigh))) (λhe=>CB he Aa<|wv (Aj he)<|Az<|BR (Db c8 (Db c9 (Db hb (Db hd he))))) λhe=>Bq he An<|Bq he (Ae 0)<|Bq he An<|Bq he (Ae 0)<|Bq he C9<|Ep Aa he Aa<|Az<|BR (Db c8 (Db c9 (Db hb (Db hd he)))))<|B2 h7 (λhf hg=>Bw Aa<|cs hg▸Ap (Ct Tryz.results71 AW) (sS sN) ⟨Aa,Aa⟩) λhf hh=>by refine Bt<|AV<|ob hh λhi hj hk=>ck hk λg19 hl=>Dn [1] ?_;refine rq An<|rq (Ae 0)<|rq An<|rq (Ae 0)<|IS (Dy TY (IX F q.fBits hi hj) Aa)<|rq (Am0 Aa Aa (Aql (Gr g19)))<|rq Ci<|re [42] ?_;exact Cy<|B2 hl (λc21 hm=>Bw Aa<|cs hm▸Ap (Ct Tryz.results71 AW) (sS sN) ⟨Aa,Aa⟩) λc21 hn=>BW<|B6 Aa<|cs hn▸Ap (Ct Tryz.results71 AW) (sS sN) ⟨Aa,Aa⟩
theorem AgP (F:Nat)(s:Ac)(c:Int)(r:(List Ac))(h:U7 F s c=some r):FN 168 [rS s,rI .u8 c] [] (PO (B4 1 (Bu eS r))):=en Tryz.func168 Tryz.ntmps168 Aa λw Z=>by unfold U7 at h;exact AA Aa<|Dc<|DP ([]:List Ac) eS Dm Ew SE Aa trivial CK λb1=>ms Aa<|BM Aa<|BD Aa<|AJ<|Au<|ob h λhp hq hr=>Bk (V:=((List Ac)×Int)×Value) 0 (λσ=>Cg (λσ=>E0 s c σ.1 σ.2.1 σ.2.2) σ.1 σ.2.1=some hp) (λσ=>[(0,rS s),(1,rI .u8 c),(5,rv σ.2.2),(6,AZ σ.2.1.2.1),(7,AZ σ.2.1.2.2)]) (λσ=>[Bl σ.2.2 σ.2.1.1]) (λσ=>σ.1) (F,(([]:List Ac),0,0),(.slice (some ⟨b1,0,none⟩) 0 0)) hq (A7 Aa) (sC sN) (λσ=>Ks s σ.1.1 σ.1.2=some r) (λσ=>[(0,rS s),(5,rv σ.2),(6,AZ σ.1.2)]) (λσ=>[Bl σ.2 σ.1.1]) (by rintro⟨hN,⟨he,hd,hb⟩,hj⟩ hs;refine EG ?_;obtain⟨ht,rfl,hf,hg,hk⟩:=Cq hs;have hg:E0 s c he hd hb=some hf:=hg;exact AV<|AA Aa<|wv Bo<|wv BI<|AJ<|B2 hg (λhu hw=>BW<|EY (S:=((List Ac)×Int)×Value) (λσ=>Kt hb σ.1.1 σ.1.2=some hf) (λσ=>[(0,rS s),(1,rI .u8 c),(5,rv σ.2),(6,AZ σ.1.2),(7,AZ hb)]) (λσ=>[Bl σ.2 σ.1.1]) (Au<|AA Aa<|ck hw λhx hy=>wv (BH hx)<|ms Aa<|wv Bx<|AJ<|B2 hy (λhz h0=>AA Aa<|ck h0 λh1 h2=>ck h2 λh3 h4=>wv (HY Lb Aa Aa Aa h1 h3)<|DP ([List.take (D3 hb-D3 hd) (List.drop (D3 hd) s)]:List Ac) eS Dm Ew SE Aa ⟨cO Aa,trivial⟩ CK λhO=>ck h4 λh5 h6=>IM 1 Dm Ir Aa Aa (K8.w 0 Aa Aa) CK G3 h5 λv212=>Cs Aa<|B7 Aa<|ck h6 λh7 h8=>wv (Bh h7)<|Bg Aa<|Ca<|Ax (As ((he++([List.take (D3 hb-D3 hd) (List.drop (D3 hd) s)]:List Ac),hb+1),v212) h8 (A7 Aa) (sC (sS sN)))) λhz h9=>B3<|Ca<|Ax (As ((he,hd),hj) h9 (A7 Aa) (sC sN)))<|by rintro⟨⟨hl,hm⟩,hA⟩ hh;refine EG ?_;exact have hh:Kt hb hl hm=some hf:=hh;B7 Aa<|ck hh λhB hC=>wv (Bh hB)<|Bg Aa<|have hD:=Bd hC hk;Ax (As (ht,(hl,hm,hb+1),hA) ⟨hD,Apu _⟩ (A7 Aa) (sC sN))) λhu hE=>Bs<|Ah<|have hG:=BG hE hk hr;Ah (AN (As ((he,hd),hj) hG (A7 Aa) (sC sN))))<|by rintro⟨⟨hH,hn⟩,hP⟩ hi;refine Gw ?_;exact have hi:Ks s hH hn=some r:=hi;AR<|Cy<|AA Aa<|ck hi λhI hJ=>wv (Gy Lb Aa Aa hI)<|DP ([List.drop (D3 hn) s]:List Ac) eS Dm Ew SE Aa ⟨cO Aa,trivial⟩ CK λhQ=>ck hJ λhK hL=>IM 1 Dm Ir Aa Aa (K8.w 0 Aa Aa) CK G3 hK λv228=>By Aa<|WK.freeze (i:=0) Aa<|WK.up (d:=4) Aa (Up.fact 0 Aa)<|cs hL▸Ap (Ct Tryz.results168 AW) (sK 0) ⟨Aa,Aa⟩
theorem VR (F:Nat)(s:Ac)(r:Int×Int)(h:Lj F s=some r):FN 142 [rS s] [] (PO (DW [AZ r.1,AZ r.2])):=en Tryz.func142 Tryz.ntmps142 Aa λw Z=>AA Aa<|BM Aa<|ob h λr1 e3 h2=>BV Tryz.call168 (AgP F s 46 r1 e3)<|ms Aa<|BD Aa<|wv AU<|wv Ci<|AJ<|B2 h2 (λc4 h5=>Bw Aa<|cs h5▸VH Tryz.results142 ⟨Aa,Aa⟩) λc4 h6=>BW<|AA Aa<|BD Aa<|AJ<|Au<|ob h6 λhj hk hi=>Bk (V:=Int×Unit) 0 (λσ=>Cg (λσ=>E7 r1 σ.1 σ.2) σ.1 σ.2.1=some hj) (λσ=>[(4,B4 1 (Bu eS r1)),(5,AZ σ.2.1.1),(6,AZ σ.2.1.2)]) (λσ=>[]) (λσ=>σ.1) (F,(0,0),()) hk (A7 Aa) sN (λσ=>I2 σ.1=some r) (λσ=>[(5,AZ σ.1)]) (λσ=>[]) (by rintro⟨hC,⟨he,hb⟩,⟨⟩⟩ hl;refine EG ?_;obtain⟨hm,rfl,hn,hg,hh⟩:=Cq hl;have hg:E7 r1 he hb=some hn:=hg;exact AV<|AA Aa<|wv BI<|AJ<|B2 hg (λhp hq=>Bt<|Au<|AA Aa<|ck hq λhr hs=>wv (AX hr)<|wv AS<|ck hs λht hu=>CC Tryz.call143 Aa (ZD (Af r1 hb) ht) Aa Aa<|ms Aa<|wv Al<|wv Al<|ms Aa<|BU<|Ar [(4,B4 1 (Bu eS r1)),(5,AZ he),(6,AZ hb),(7,AZ (Cc (Af r1 hb))),(35,rB ((!Bm ((D1 (Af r1 hb))=0))||((Bm ((Cc (Af r1 hb))<0))||(Bm (255<(Cc (Af r1 hb)))))))] [] (B7 Aa<|wv Ci<|ms Aa<|AF (!Bm ((D1 (Af r1 hb))=0)) (λhd=>CB hd Aa<|wv (Aj hd)<|ms Aa<|Dx Aa<|wv (Aj Aa)<|Az<|BR hd) λhd=>wo hd<|ms Aa<|Bq hd BI<|Ep Aa hd Aa<|ms Aa<|AF (Bm ((Cc (Af r1 hb))<0)) (λc75=>CB c75 Aa<|wv (Aj c75)<|Az<|BR (Db hd c75)) λc75=>wo c75<|ms Aa<|Bq c75 C9<|Ep Aa c75 Aa<|Az<|BR (Db hd c75))<|B2 hu (λc76 hw=>Bw Aa<|B8<|Ao<|Bf<|have hx:=BE hw hh hi;B8<|cs hx▸VH Tryz.results142 ⟨Aa,Aa⟩) λc76 hy=>BW<|B7 Aa<|ck hy λhz h0=>wv (Ahf Aa Aa hz)<|ms Aa<|ck h0 λh1 h3=>wv (Bh h1)<|Bg Aa<|CR<|B7 Aa<|ck h3 λh4 h7=>wv (Bh h4)<|Bg Aa<|have h8:=Bd h7 hh;Ax (As (hm,((256*he)+(Cc (Af r1 hb)),hb+1),()) ⟨h8,Apu _⟩ (A7 Aa) sN)) λhp h9=>Bs<|Ah<|have hA:=BG h9 hh hi;Ah (AN (As (he,()) hA (A7 Aa) sN)))<|by rintro⟨hB,⟨⟩⟩ hf;refine Gw ?_;exact have hf:I2 hB=some r:=hf;by unfold I2 at hf;exact AR<|Cy<|B6 Aa<|cs hf▸VH Tryz.results142 ⟨Aa,Aa⟩
theorem VP (F:Nat)(q:A1)(addr port:Int)(r:Bool)(h:J7 F q addr port=some r):FN 144 [Cz (B1 q),AZ addr,AZ port] [] (PO (rB r)):=en Tryz.func144 Tryz.ntmps144 Aa λw Z=>by unfold J7 at h;exact Ay<|Cb Aa Aa λb1=>ms Aa<|BU<|ck h λg2 h3=>ck h3 λg4 h5=>ck h5 λg6 h7=>Ar [(1,AZ addr),(2,AZ port),(3,rP b1 0),(19,rB ((!Bm ((ov (EJ F q))=0))||((!(ov (Dt addr)))||(!(ov (Ey port))))))] [.blk b1 (B1 q) 73] (A4<|wv (B0 0)<|BV Tryz.call71 (ST F q (ov (EJ F q)) (Dr g2))<|wv Ci<|ms Aa<|AF (!Bm ((ov (EJ F q))=0)) (λc8=>CB c8 Aa<|wv (Aj c8)<|ms Aa<|Dx Aa<|wv (Aj Aa)<|Az<|BR c8) λc8=>wo c8<|ms Aa<|wo c8<|BV Tryz.call116 (QL addr (ov (Dt addr)) (Dr (CM g4 c8)))<|Bq c8 BQ<|Ep Aa c8 Aa<|ms Aa<|AF (!(ov (Dt addr))) (λc9=>CB c9 Aa<|wv (Aj c9)<|Az<|BR (Db c8 c9)) λc9=>wo c9<|ms Aa<|wo c9<|BV Tryz.call117 (RP port (ov (Ey port)) (Dr (CM (CM g6 c8) c9)))<|Bq c9 BQ<|Ep Aa c9 Aa<|Az<|BR (Db c8 c9))<|B2 h7 (λhe hf=>Bw Aa<|cs hf▸Ap (Ct Tryz.results144 AW) (sS sN) ⟨Aa,Aa⟩) λhe hg=>BW<|ck hg λhd hh=>ck hh λg15 hi=>ck hi λg17 hj=>ck hj λg19 hk=>Ar [(6,rB ((Bm ((Int.tdiv addr (ov (Ex F q.fBits)))=(Int.tdiv q.fAddr (ov (Ex F q.fBits)))))&&((Bm (q.fLow≤port))&&(Bm (port≤q.fHigh)))))] [] (AF (Bm ((Int.tdiv addr (ov (Ex F q.fBits)))=(Int.tdiv q.fAddr (ov (Ex F q.fBits))))) (λc21=>AF (Bm (q.fLow≤port)) (λhb=>by refine Dn [1,2,3] ?_;exact rq AD<|rq An<|rq (Ae 0)<|IS (Dy TY (IX F q.fBits (ov (Ex F q.fBits)) (Dr hd)) Aa)<|rq (WE Aa Aa (Aql (Gr g15)) g17)<|rq An<|rq (Ae 0)<|rq An<|rq (Ae 0)<|IS (Dy TY (IX F q.fBits (ov (Ex F q.fBits)) (Dr hd)) Aa)<|rq (WE Aa Aa (Aql (Gr g15)) g19)<|rq Bx<|rq AD<|rg c21 (Aq To Aa K9 Aa Aa)<|rg c21 (AY 0 Qy Aa Aa Aa)<|rg c21 (AE Aa)<|rg c21 (AbA Aa Aa)<|rq (Aj c21)<|rq AD<|rg hb (AE Aa)<|rg hb (Aq To Aa K9 Aa Aa)<|rg hb (AY 0 Qy Aa Aa Aa)<|rg hb (AbA Aa Aa)<|rq (Aj hb)<|by refine rq AT<|re [6] ?_;exact BR (Db c21 hb)) λhb=>by refine Dn [1,2,3] ?_;exact rq AD<|rq An<|rq (Ae 0)<|IS (Dy TY (IX F q.fBits (ov (Ex F q.fBits)) (Dr hd)) Aa)<|rq (WE Aa Aa (Aql (Gr g15)) g17)<|rq An<|rq (Ae 0)<|rq An<|rq (Ae 0)<|IS (Dy TY (IX F q.fBits (ov (Ex F q.fBits)) (Dr hd)) Aa)<|rq (WE Aa Aa (Aql (Gr g15)) g19)<|rq Bx<|rq AD<|rg c21 (Aq To Aa K9 Aa Aa)<|rg c21 (AY 0 Qy Aa Aa Aa)<|rg c21 (AE Aa)<|rg c21 (AbA Aa Aa)<|rq (Aj c21)<|rq AD<|rz hb<|rz hb<|rz hb<|rz hb<|rq (Am hb)<|by refine rq AT<|re [6] ?_;exact BR (Db c21 hb)) λc21=>by refine Dn [1,2,3] ?_;exact rq AD<|rq An<|rq (Ae 0)<|IS (Dy TY (IX F q.fBits (ov (Ex F q.fBits)) (Dr hd)) Aa)<|rq (WE Aa Aa (Aql (Gr g15)) g17)<|rq An<|rq (Ae 0)<|rq An<|rq (Ae 0)<|IS (Dy TY (IX F q.fBits (ov (Ex F q.fBits)) (Dr hd)) Aa)<|rq (WE Aa Aa (Aql (Gr g15)) g19)<|rq Bx<|rq AD<|rz c21<|rz c21<|rz c21<|rz c21<|rq (Am c21)<|rq AD<|rz Aa<|rz Aa<|rz Aa<|rz Aa<|rq (Am Aa)<|by refine rq AT<|re [6] ?_;exact BR c21)<|BO<|cs hk▸CY Tryz.results144 ⟨Aa,Aa⟩
theorem XN (F:Nat)(l:(List A1))(addr port:Int)(r:Ch)(h:IW F l addr port=some r):FN 88 [B4 5 (Bu B1 l),AZ addr,AZ port] [] (PO (Cz (HL r))):=en Tryz.func88 Tryz.ntmps88 Aa λw Z=>by unfold IW at h;exact Ay<|BY (cs:=JR) YE Aa Aa λb1=>BD Aa<|AJ<|Au<|ob h λhi hj hg=>Bk (V:=Unit×Unit) 0 (λσ=>Cg (λσ=>GF F l addr port σ) σ.1 σ.2.1=some hi) (λσ=>[(0,B4 5 (Bu B1 l)),(1,AZ addr),(2,AZ port),(6,rP b1 0),(7,AZ σ.2.1)]) (λσ=>[.blk b1 JR 140]) (λσ=>σ.1) (F,0,()) hj (A7 Aa) (sC sN) (λσ=>Jv =some r) (λσ=>[(6,rP b1 0)]) (λσ=>[.blk b1 JR 140]) (by rintro⟨h4,hd,⟨⟩⟩ hk;refine EG ?_;obtain⟨hl,rfl,hm,he,hf⟩:=Cq hk;have he:GF F l addr port hd=some hm:=he;exact AV<|AA Aa<|wv AU<|wv BI<|AJ<|B2 he (λhn hp=>Bt<|Au<|AA Aa<|ck hp λhh hq=>wv (AX hh)<|wv C2<|ms Aa<|ob hq λhr hs ht=>BV Tryz.call144 (VP F (Af l hd) addr port hr hs)<|AJ<|B2 ht (λhu hw=>by refine AA Aa<|wv (AX hh)<|wv CL<|wv AS<|ms Aa<|wv (CD JJ Aa (Eo Aa (Eo Aa cN)) Aa)<|Eu 0 IJ Aa Aa Aa (Bn.c Aa) Aa Aa ?_;exact DQ<|B8<|Ao<|Bf<|have hx:=BE hw hf hg;B8<|cs hx▸Ap (Ct Tryz.results88 (C7 (i:=0) SH IJ Aa Aa Aa)) (sS sN) ⟨Aa,Aa⟩) λhu hy=>B3<|CR<|B7 Aa<|ck hy λhz h0=>wv (Bh hz)<|Bg Aa<|have h1:=Bd h0 hf;Ax (As (hl,hd+1,()) ⟨h1,Apu _⟩ (A7 Aa) (sC sN))) λhn h2=>Bs<|Ah<|have h3:=BG h2 hf hg;Ah (AN (As ((),()) h3 (A7 Aa) (sC sN))))<|by rintro⟨⟨⟩,⟨⟩⟩ hb;refine Gw ?_;exact have hb:Jv =some r:=hb;by unfold Jv at hb;refine AR<|Cy<|Ay<|wv (CD JJ Aa (Eo Aa (Eo Aa cN)) Aa)<|Eu 0 IJ Aa Aa Aa (Bn.c Aa) Aa Aa ?_;exact DQ<|cs hb▸Ap (Ct Tryz.results88 (C7 (i:=0) SH IJ Aa Aa Aa)) (sS sN) ⟨Aa,Aa⟩
theorem NK (F:Nat)(op:Ac)(r:Bool)(h:Hz F op=some r):FN 69 [rS op] [] (PO (rB r)):=en Tryz.func69 Tryz.ntmps69 Aa λw Z=>by unfold Hz at h;exact AA Aa<|Dc<|DP ([([103,101,116]:Ac),([112,117,116]:Ac),([100,101,108,101,116,101]:Ac),([115,101,110,100]:Ac),([116,105,109,101,114]:Ac),([115,105,103,110,97,108]:Ac),([115,101,99,114,101,116]:Ac),([102,101,116,99,104]:Ac),([110,111,119]:Ac),([108,111,103]:Ac)]:List Ac) eS Dm Ew SE Aa ⟨cO Aa,cO Aa,cO Aa,cO Aa,cO Aa,cO Aa,cO Aa,cO Aa,cO Aa,cO Aa,trivial⟩ CK λb1=>ms Aa<|WL.freeze (i:=0) Aa<|WL.up (d:=3) Aa (Up.fact 0 Aa)<|ob h λr2 e4 h3=>BV Tryz.call83 (Adu F ([([103,101,116]:Ac),([112,117,116]:Ac),([100,101,108,101,116,101]:Ac),([115,101,110,100]:Ac),([116,105,109,101,114]:Ac),([115,105,103,110,97,108]:Ac),([115,101,99,114,101,116]:Ac),([102,101,116,99,104]:Ac),([110,111,119]:Ac),([108,111,103]:Ac)]:List Ac) op r2 e4)<|By Aa<|cs h3▸Ap (Ct Tryz.results69 AW) (sS sN) ⟨Aa,Aa⟩
theorem QI (F:Nat)(v:(List Ab))(r:Ac×Bool)(h:NI F v=some r):FN 51 (Ea v) [] (PO (DW [rS r.1,rB r.2])):=en Tryz.func51 Tryz.ntmps51 Aa λw Z=>Ay<|wv (r:=rS ([]:Ac)) AT<|ms Aa<|BU<|ck h λg1 h2=>ck h2 λg3 h4=>Ar [(0,B4 4 (Bu A5 v)),(13,rB ((!Bm ((ov (I1 F v))=0))||(!Bm ((Af v 0).fKind=4))))] [] (B7 Aa<|BV AfT (NH F v (ov (I1 F v)) (Dr g1))<|wv Ci<|ms Aa<|AF (!Bm ((ov (I1 F v))=0)) (λc5=>CB c5 Aa<|wv (Aj c5)<|Az<|BR c5) λc5=>wo c5<|ms Aa<|Bq c5 (AX (CM g3 c5))<|Bq c5 CL<|Bq c5 AS<|Bq c5 Ci<|Ep Aa c5 Aa<|Az<|BR c5)<|B2 h4 (λc6 h7=>Ay<|wv (r:=rS ([]:Ac)) AT<|By Aa<|Ao<|cs h7▸VH Tryz.results51 ⟨Aa,Aa⟩) λc6 h8=>BW<|AA Aa<|ck h8 λg9 hb=>wv (AX g9)<|wv CL<|wv AS<|By Aa<|cs hb▸VH Tryz.results51 ⟨Aa,Aa⟩
theorem Py (F:Nat)(s:Ac)(r:Int×Int×Bool)(h:Ik F s=some r):FN 87 [rS s] [] (PO (DW [AZ r.1,AZ r.2.1,rB r.2.2])):=en Tryz.func87 Tryz.ntmps87 Aa λw Z=>AA Aa<|BM Aa<|BU<|Au<|ob h λhm hn hp=>Bk (V:=Int×Unit) 0 (λσ=>Cg (λσ=>Gj s σ) σ.1 σ.2.1=some hm) (λσ=>[(0,rS s),(5,AZ σ.2.1)]) (λσ=>[]) (λσ=>σ.1) (F,0,()) hn (A7 Aa) sN (λσ=>Hf F s σ.1=some r) (λσ=>[(0,rS s),(5,AZ σ.1)]) (λσ=>[]) (by rintro⟨hK,hh,⟨⟩⟩ hq;refine EG ?_;obtain⟨hr,rfl,hs,hj,hl⟩:=Cq hq;have hj:Gj s hh=some hs:=hj;exact AV<|ck hj λht hu=>Ar [(0,rS s),(5,AZ hh),(19,rB ((Bm (hh<(s.length:Int)))&&(!Bm ((C0 s hh)=58))))] [] (B7 Aa<|wv Bo<|wv BI<|ms Aa<|AF (Bm (hh<(s.length:Int))) (λhb=>wo hb<|ms Aa<|wo hb<|ms Aa<|Bq hb (BH (BL ht hb))<|Bq hb Ci<|Ej Aa hb Aa<|Az<|BR hb) λhb=>CB hb Aa<|wv (Am hb)<|Az<|BR hb)<|B2 hu (λhw hx=>BW<|Au<|B7 Aa<|ck hx λhy hz=>wv (Bh hy)<|Bg Aa<|Ca<|have h0:=Bd hz hl;Ax (As (hr,hh+1,()) ⟨h0,Apu _⟩ (A7 Aa) sN)) λhw h1=>Bs<|Ah<|have h2:=BG h1 hl hp;Ah (AN (As (hh,()) h2 (A7 Aa) sN)))<|by rintro⟨he,⟨⟩⟩ hk;refine Gw ?_;exact have hk:Hf F s he=some r:=hk;AR<|Cy<|AV<|AA Aa<|wv Bo<|wv Bx<|AJ<|B2 hk (λh3 h4=>Bw Aa<|cs h4▸Ap (VK Tryz.results87 AW AW AW) sN ⟨Aa,Aa⟩) λh3 h5=>BW<|AA Aa<|ck h5 λh6 h7=>wv (HZ Lb Aa Aa h6)<|ob h7 λhi h8 h9=>BV Tryz.call142 (VR F (List.take (D3 he) s) hi h8)<|ms Aa<|wv Al<|wv Al<|ms Aa<|BM Aa<|ck h9 λhA hB=>wv (Bh hA)<|ck hB λhC hD=>wv (Gy Lb Aa Aa hC)<|ck hD λhE hG=>CC Tryz.call143 Aa (ZD (List.drop (D3 (he+1)) s) hE) Aa Aa<|ms Aa<|wv Al<|wv Al<|ms Aa<|BU<|Ar [(6,AZ hi.1),(8,AZ (Cc (List.drop (D3 (he+1)) s))),(54,rB ((!Bm (hi.2=0))||((!Bm ((D1 (List.drop (D3 (he+1)) s))=0))||((Bm ((Cc (List.drop (D3 (he+1)) s))<1))||(Bm (65535<(Cc (List.drop (D3 (he+1)) s))))))))] [] (B7 Aa<|wv Ci<|ms Aa<|AF (!Bm (hi.2=0)) (λhd=>CB hd Aa<|wv (Aj hd)<|ms Aa<|Dx Aa<|wv (Aj Aa)<|ms Aa<|Dx Aa<|wv (Aj Aa)<|Az<|by exact BR hd) λhd=>wo hd<|ms Aa<|Bq hd Ci<|Ep Aa hd Aa<|ms Aa<|AF (!Bm ((D1 (List.drop (D3 (he+1)) s))=0)) (λhf=>by exact CB hf Aa<|wv (Aj hf)<|ms Aa<|Dx Aa<|wv (Aj Aa)<|Az<|BR (Db hd hf)) λhf=>by exact wo hf<|ms Aa<|Bq hf BI<|Ep Aa hf Aa<|ms Aa<|AF (Bm ((Cc (List.drop (D3 (he+1)) s))<1)) (λhg=>CB hg Aa<|wv (Aj hg)<|Az<|BR (Db hd (Db hf hg))) λhg=>wo hg<|ms Aa<|Bq hg C9<|Ep Aa hg Aa<|Az<|BR (Db hd (Db hf hg)))<|B2 hG (λhH hI=>Bw Aa<|cs hI▸Ap (VK Tryz.results87 AW AW AW) sN ⟨Aa,Aa⟩) λhH hJ=>BW<|B6 Aa<|cs hJ▸Ap (VK Tryz.results87 AW AW AW) sN ⟨Aa,Aa⟩
theorem Ab1 (F:Nat)(op s:Ac)(r:Bool)(h:J6 F op s=some r):FN 139 [rS op,rS s] [] (PO (rB r)):=en Tryz.func139 Tryz.ntmps139 Aa λw Z=>by unfold J6 at h;exact AA Aa<|BU<|Ar [(0,rS op),(1,rS s),(21,rB ((Bm (op=([103,101,116]:Ac)))||((Bm (op=([112,117,116]:Ac)))||((Bm (op=([100,101,108,101,116,101]:Ac)))||(Bm (op=([115,105,103,110,97,108]:Ac)))))))] [] (B7 Aa<|wv BA<|ms Aa<|AF (Bm (op=([103,101,116]:Ac))) (λc1=>CB c1 Aa<|wv (Aj c1)<|ms Aa<|Dx Aa<|wv (Aj Aa)<|ms Aa<|Dx Aa<|wv (Aj Aa)<|Az<|BR c1) λc1=>wo c1<|ms Aa<|Bq c1 BA<|Ep Aa c1 Aa<|ms Aa<|AF (Bm (op=([112,117,116]:Ac))) (λc2=>CB c2 Aa<|wv (Aj c2)<|ms Aa<|Dx Aa<|wv (Aj Aa)<|Az<|BR (Db c1 c2)) λc2=>wo c2<|ms Aa<|Bq c2 BA<|Ep Aa c2 Aa<|ms Aa<|AF (Bm (op=([100,101,108,101,116,101]:Ac))) (λc3=>CB c3 Aa<|wv (Aj c3)<|Az<|BR (Db c1 (Db c2 c3))) λc3=>wo c3<|ms Aa<|Bq c3 BA<|Ep Aa c3 Aa<|Az<|BR (Db c1 (Db c2 c3)))<|B2 h (λc4 h5=>AA Aa<|ck h5 λg6 h7=>CC Tryz.call72 Aa (AkF s g6) Aa Aa<|By Aa<|Ao<|cs h7▸CY Tryz.results139 ⟨Aa,Aa⟩) λc4 h8=>Bt<|AA Aa<|wv BA<|AJ<|B2 h8 (λc9 hb=>AA Aa<|ob hb λhd he hf=>BV Tryz.call87 (Py F s hd he)<|ms Aa<|wv Al<|wv Al<|wv Al<|ms Aa<|Dc<|By Aa<|Ao<|cs hf▸CY Tryz.results139 ⟨Aa,Aa⟩) λc9 hg=>BW<|AA Aa<|ck hg λg15 hh=>CC AfU Aa (QR s g15) Aa Aa<|By Aa<|cs hh▸CY Tryz.results139 ⟨Aa,Aa⟩
theorem AeE (op:Ac)(r:Int)(h:XM op=some r):FN 138 [rS op] [] (PO (AZ r)):=en Tryz.func138 Tryz.ntmps138 Aa λw Z=>AA Aa<|BD Aa<|wv BA<|AJ<|B2 h (λc1 h2=>Bw Aa<|cs h2▸CY Ac3 ⟨Aa,Aa⟩) λc1 h3=>Bt<|Ar [(0,rS op),(18,rB ((Bm (op=([103,101,116]:Ac)))||((Bm (op=([100,101,108,101,116,101]:Ac)))||((Bm (op=([115,101,99,114,101,116]:Ac)))||(Bm (op=([108,111,103]:Ac)))))))] [] (B7 Aa<|wv BA<|ms Aa<|AF (Bm (op=([103,101,116]:Ac))) (λc4=>CB c4 Aa<|wv (Aj c4)<|ms Aa<|Dx Aa<|wv (Aj Aa)<|ms Aa<|Dx Aa<|wv (Aj Aa)<|Az<|BR c4) λc4=>wo c4<|ms Aa<|Bq c4 BA<|Ep Aa c4 Aa<|ms Aa<|AF (Bm (op=([100,101,108,101,116,101]:Ac))) (λc5=>CB c5 Aa<|wv (Aj c5)<|ms Aa<|Dx Aa<|wv (Aj Aa)<|Az<|BR (Db c4 c5)) λc5=>wo c5<|ms Aa<|Bq c5 BA<|Ep Aa c5 Aa<|ms Aa<|AF (Bm (op=([115,101,99,114,101,116]:Ac))) (λc6=>CB c6 Aa<|wv (Aj c6)<|Az<|BR (Db c4 (Db c5 c6))) λc6=>wo c6<|ms Aa<|Bq c6 BA<|Ep Aa c6 Aa<|Az<|BR (Db c4 (Db c5 c6)))<|B2 h3 (λc7 h8=>Bw Aa<|cs h8▸CY Ac3 ⟨Aa,Aa⟩) λc7 h9=>Bt<|AA Aa<|wv BA<|AJ<|B2 h9 (λhb hd=>Bw Aa<|cs hd▸CY Ac3 ⟨Aa,Aa⟩) λhb he=>BW<|B6 Aa<|cs he▸CY Ac3 ⟨Aa,Aa⟩
theorem Z3 (v:(List Ab))(r:Bool)(h:H0 v=some r):FN 140 (Ea v) [] (PO (rB r)):=en Tryz.func140 Tryz.ntmps140 Aa λw Z=>AA Aa<|AJ<|ck h λg1 h2=>ck h2 λg3 h4=>Ar [(2,rB ((Bm ((Af v 0).fKind=5))&&((Bm (0<(Af v 0).fN))&&(Bm ((Af v 1).fKind=4)))))] [] (B7 Aa<|wv (AX g1)<|wv CL<|wv AS<|wv Bx<|ms Aa<|AF (Bm ((Af v 0).fKind=5)) (λc5=>wo c5<|ms Aa<|Bq c5 (AX g1)<|Bq c5 CL<|Bq c5 AS<|Bq c5 C9<|Ej Aa c5 Aa<|ms Aa<|AF (Bm (0<(Af v 0).fN)) (λc6=>wo c6<|ms Aa<|Bq c6 (AX (BL (BL g3 c5) c6))<|Bq c6 CL<|Bq c6 AS<|Bq c6 Bx<|Ej Aa c6 Aa<|Bg Aa<|BR (Db c5 c6)) λc6=>CB c6 Aa<|wv (Am c6)<|Bg Aa<|BR (Db c5 c6)) λc5=>CB c5 Aa<|wv (Am c5)<|ms Aa<|Dx Aa<|wv (Am Aa)<|Bg Aa<|BR c5)<|BO<|cs h4▸CY Tryz.results140 ⟨Aa,Aa⟩
abbrev EH (x0:Nat)(x1:A6):Ent:=.blk x0 (Ce x1) 50
theorem AeF (F:Nat)(q:A6)(r:Bool)(h:QJ F q=some r):FN 84 [Cz (Ce q)] [] (PO (rB r)):=en Tryz.func84 Tryz.ntmps84 Aa λw Z=>by unfold QJ at h;exact Ay<|Cb Aa Aa λb1=>by refine ms Aa<|BU<|AV<|ob h λr2 e4 h3=>Dn [1] ?_;refine rq An<|rq (Ae 0)<|rq AU<|rq An<|rq (Ae 0)<|IS (Dy Tryz.call138 (AeE q.fOp r2 e4) Aa)<|rq Ci<|re [13,1] ?_;exact Cy<|B2 h3 (λc5 h6=>Bw Aa<|cs h6▸Ap (Ct AdS AW) (sS sN) ⟨Aa,Aa⟩) λc5 h7=>Bt<|AA Aa<|AJ<|Au<|ob h7 λhn hp hm=>Bk (V:=Unit×Unit) 0 (λσ=>Cg (λσ=>HX F q σ) σ.1 σ.2.1=some hn) (λσ=>[(1,rP b1 0),(3,AZ σ.2.1)]) (λσ=>[EH b1 q]) (λσ=>σ.1) (F,0,()) hp (A7 Aa) (sC sN) (λσ=>E5 F q =some r) (λσ=>[(1,rP b1 0)]) (λσ=>[EH b1 q]) (by rintro⟨gb,hj,⟨⟩⟩ hq;refine EG ?_;obtain⟨hr,rfl,hs,hk,hl⟩:=Cq hq;have hk:HX F q hj=some hs:=hk;exact AV<|AA Aa<|wv An<|wv (Ae 0)<|wv AU<|wv BI<|AJ<|B2 hk (λht hu=>Bt<|Au<|Ay<|wv An<|wv (Ae 0)<|ms Aa<|ck hu λhw hx=>wv (AX hw)<|wv AS<|ob hx λhy hz h0=>BV AfT (NH F (Af q.fArgs hj) hy hz)<|wv Ci<|AJ<|B2 h0 (λh1 h2=>B6 Aa<|B8<|Ao<|Bf<|have h4:=BE h2 hl hm;B8<|cs h4▸Ap (Ct AdS AW) (sS sN) ⟨Aa,Aa⟩) λh1 h5=>B3<|CR<|B7 Aa<|ck h5 λh8 h9=>wv (Bh h8)<|Bg Aa<|have hA:=Bd h9 hl;Ax (As (hr,hj+1,()) ⟨hA,Apu _⟩ (A7 Aa) (sC sN))) λht hB=>Bs<|Ah<|have hC:=BG hB hl hm;Ah (AN (As ((),()) hC (A7 Aa) (sC sN))))<|by rintro⟨⟨⟩,⟨⟩⟩ hi;refine Gw ?_;exact have hi:E5 F q =some r:=hi;by unfold E5 at hi;exact AR<|Cy<|AV<|Ar [(1,rP b1 0),(35,rB ((Bm (q.fOp=([110,111,119]:Ac)))||(Bm (q.fOp=([108,111,103]:Ac)))))] [EH b1 q] (A4<|wv An<|wv (Ae 0)<|wv BA<|ms Aa<|AF (Bm (q.fOp=([110,111,119]:Ac))) (λhf=>CB hf Aa<|wv (Aj hf)<|Az<|BR hf) λhf=>Bq hf An<|Bq hf (Ae 0)<|Bq hf BA<|Ep Aa hf Aa<|Az<|BR hf)<|B2 hi (λhD hE=>Bw Aa<|cs hE▸Ap (Ct AdS AW) (sS sN) ⟨Aa,Aa⟩) λhD hG=>BW<|Ay<|wv An<|wv (Ae 0)<|ck hG λhH hI=>wv (AX hH)<|wv AS<|ob hI λhh hJ hK=>BV Tryz.call51 (QI F (Af q.fArgs 0) hh hJ)<|ms Aa<|wv Al<|wv Al<|ms Aa<|BU<|ck hK λhL hN=>Ar [(1,rP b1 0),(52,rB ((!hh.2)||(!(ov (J6 F q.fOp hh.1)))))] [EH b1 q] (B7 Aa<|wv BQ<|ms Aa<|AF (!hh.2) (λhd=>CB hd Aa<|wv (Aj hd)<|Az<|BR hd) λhd=>Bq hd An<|Bq hd (Ae 0)<|wo hd<|ms Aa<|wo hd<|BV Tryz.call139 (Ab1 F q.fOp hh.1 (ov (J6 F q.fOp hh.1)) (Dr (CM hL hd)))<|Bq hd BQ<|Ep Aa hd Aa<|Az<|BR hd)<|B2 hN (λc85 hO=>Bw Aa<|cs hO▸Ap (Ct AdS AW) (sS sN) ⟨Aa,Aa⟩) λc85 hP=>Bt<|Ay<|wv An<|wv (Ae 0)<|wv BA<|AJ<|B2 hP (λhQ hR=>Ay<|wv An<|wv (Ae 0)<|ck hR λhS hT=>wv (AX hS)<|wv AS<|ck hT λhU hV=>wv (AX hU)<|wv C2<|BY (cs:=(Sh ([]:Ac))) OZ Aa Aa λgc=>by refine Eu 0 JZ Aa Aa Aa (Bn.c Aa) Aa Aa ?_;exact AJ<|Ar [(2,rB ((Bm ((Af (Af q.fArgs 1) 0).fKind=3))&&((Bm (0≤(Af (Af q.fArgs 1) 0).fInt))&&(Bm ((Af (Af q.fArgs 1) 0).fInt≤1073741824)))))] [] (A4<|wv An<|wv (Ae 0)<|wv Bx<|ms Aa<|AF (Bm ((Af (Af q.fArgs 1) 0).fKind=3)) (λhe=>Bq he An<|Bq he (Ae 0)<|Bq he DK<|Ej Aa he Aa<|ms Aa<|AF (Bm (0≤(Af (Af q.fArgs 1) 0).fInt)) (λhg=>Bq hg An<|Bq hg (Ae 0)<|Bq hg Iu<|Ej Aa hg Aa<|Bg Aa<|BR (Db he hg)) λhg=>CB hg Aa<|wv (Am hg)<|Bg Aa<|BR (Db he hg)) λhe=>CB he Aa<|wv (Am he)<|ms Aa<|Dx Aa<|wv (Am Aa)<|Bg Aa<|BR he)<|BO<|Ao<|cs hV▸CY AdS ⟨Aa,Aa⟩) λhQ hW=>BW<|ck hW λhX hY=>ck hY λhZ ga=>Ar [(2,rB ((!Bm (q.fOp=([115,105,103,110,97,108]:Ac)))||(ov (H0 (Af q.fArgs 1)))))] [] (A4<|wv An<|wv (Ae 0)<|wv (JB Aa Aa)<|ms Aa<|AF (!Bm (q.fOp=([115,105,103,110,97,108]:Ac))) (λhb=>CB hb Aa<|wv (Aj hb)<|Bg Aa<|by exact BR hb) λhb=>Bq hb An<|Bq hb (Ae 0)<|Bq hb (AX (CM hX hb))<|Bq hb AS<|wo hb<|BV Tryz.call140 (Z3 (Af q.fArgs 1) (ov (H0 (Af q.fArgs 1))) (Dr (CM hZ hb)))<|Ep Aa hb Aa<|Bg Aa<|by exact BR hb)<|BO<|cs ga▸CY AdS ⟨Aa,Aa⟩
abbrev Gd (x0:Nat)(x1:A0):List Ent:=[.blk x0 (Cv x1) 26]
theorem IV (F:Nat)(a:A0)(r:Int)(h:E6 F a=some r):FN 31 [Cz (Cv a)] [] (PO (AZ r)):=en Tryz.func31 Tryz.ntmps31 Aa λw Z=>by unfold E6 at h;exact Ay<|Cb Aa Aa λb1=>ms Aa<|BU<|ck h λg2 h3=>ck h3 λg4 h5=>Ar [(1,rP b1 0),(18,rB ((!(D0 a.fTenant))||(!(D0 a.fFunction))))] (Gd b1 a) (A4<|wv An<|wv (Ae 0)<|CC AfU Aa (QR a.fTenant g2) Aa Aa<|wv BQ<|ms Aa<|AF (!(D0 a.fTenant)) (λc6=>CB c6 Aa<|wv (Aj c6)<|Az<|BR c6) λc6=>Bq c6 An<|Bq c6 (Ae 0)<|wo c6<|CC AfU Aa (QR a.fFunction (CM g4 c6)) Aa Aa<|Bq c6 BQ<|Ep Aa c6 Aa<|Az<|BR c6)<|B2 h5 (λc7 h8=>Bw Aa<|cs h8▸Ap (Ct YM AW) (sS sN) ⟨Aa,Aa⟩) λc7 h9=>Bt<|AA Aa<|AJ<|Au<|ob h9 λh0 h1 hu=>Bk (V:=Unit×Unit) 0 (λσ=>Cg (λσ=>En F a σ) σ.1 σ.2.1=some h0) (λσ=>[(1,rP b1 0),(3,AZ σ.2.1)]) (λσ=>(Gd b1 a)) (λσ=>σ.1) (F,0,()) h1 (A7 Aa) (sC sN) (λσ=>Em F a =some r) (λσ=>[(1,rP b1 0)]) (λσ=>(Gd b1 a)) (by rintro⟨cf,hg,⟨⟩⟩ h2;refine EG ?_;obtain⟨h4,rfl,h6,hh,hi⟩:=Cq h2;have hh:En F a hg=some h6:=hh;exact AV<|AA Aa<|wv An<|wv (Ae 0)<|wv AU<|wv BI<|AJ<|B2 hh (λh7 hA=>Bt<|Au<|Ay<|wv An<|wv (Ae 0)<|ms Aa<|ck hA λhB hC=>wv (AX hB)<|wv AS<|ob hC λhD hE hG=>BV Tryz.call69 (NK F (Af a.fOps hg) hD hE)<|wv BQ<|AJ<|B2 hG (λhH hI=>B6 Aa<|B8<|Ao<|Bf<|have hJ:=BE hI hi hu;B8<|cs hJ▸Ap (Ct YM AW) (sS sN) ⟨Aa,Aa⟩) λhH hK=>B3<|CR<|B7 Aa<|ck hK λhL hN=>wv (Bh hL)<|Bg Aa<|have hO:=Bd hN hi;Ax (As (h4,hg+1,()) ⟨hO,Apu _⟩ (A7 Aa) (sC sN))) λh7 hP=>Bs<|Ah<|have hQ:=BG hP hi hu;Ah (AN (As ((),()) hQ (A7 Aa) (sC sN))))<|by rintro⟨⟨⟩,⟨⟩⟩ hj;refine Gw ?_;exact have hj:Em F a =some r:=hj;AR<|Cy<|AV<|AA Aa<|AJ<|Au<|ob hj λhR hS hw=>Bk (V:=Unit×Unit) 2 (λσ=>Cg (λσ=>CZ a σ) σ.1 σ.2.1=some hR) (λσ=>[(1,rP b1 0),(4,AZ σ.2.1)]) (λσ=>(Gd b1 a)) (λσ=>σ.1) (F,1,()) hS (A7 Aa) (sC sN) (λσ=>El F a =some r) (λσ=>[(1,rP b1 0)]) (λσ=>(Gd b1 a)) (by rintro⟨cg,hx,⟨⟩⟩ hT;refine EG ?_;obtain⟨hU,rfl,hV,hk,hl⟩:=Cq hT;have hk:CZ a hx=some hV:=hk;exact AV<|AA Aa<|wv An<|wv (Ae 0)<|wv AU<|wv BI<|AJ<|B2 hk (λhW hX=>by refine Bt<|Au<|AV<|ck hX λhY hZ=>ck hZ λga gb=>ck gb λgc gd=>Dn [1,4] ?_;refine rq An<|rq (Ae 0)<|rq AD<|rq (AX hY)<|rq AS<|rq An<|rq (Ae 0)<|rq AD<|rq (DV ga)<|rq (AX gc)<|rq AS<|rq (WD Aa Aa)<|re [51,1,4] ?_;exact Cy<|B2 gd (λgf gg=>B6 Aa<|B8<|Ao<|Bf<|have gh:=BE gg hl hw;B8<|cs gh▸Ap (Ct YM AW) (sS sN) ⟨Aa,Aa⟩) λgf gi=>B3<|CR<|B7 Aa<|ck gi λgj gl=>wv (Bh gj)<|Bg Aa<|have gm:=Bd gl hl;Ax (As (hU,hx+1,()) ⟨gm,Apu _⟩ (A7 Aa) (sC sN))) λhW gp=>Bs<|Ah<|have gq:=BG gp hl hw;Ah (AN (As ((),()) gq (A7 Aa) (sC sN))))<|by rintro⟨⟨⟩,⟨⟩⟩ he;refine Gw ?_;exact have he:El F a =some r:=he;by unfold El at he;exact AR<|Cy<|AV<|Ar [(1,rP b1 0),(61,rB ((Bm (32<(a.fPolicy.length:Int)))||(Bm (32<(a.fNet.length:Int)))))] (Gd b1 a) (A4<|wv An<|wv (Ae 0)<|wv AU<|wv C9<|ms Aa<|AF (Bm (32<(a.fPolicy.length:Int))) (λhb=>CB hb Aa<|wv (Aj hb)<|Az<|BR hb) λhb=>Bq hb An<|Bq hb (Ae 0)<|Bq hb AU<|Bq hb C9<|Ep Aa hb Aa<|Az<|BR hb)<|B2 he (λc143 gr=>Bw Aa<|cs gr▸Ap (Ct YM AW) (sS sN) ⟨Aa,Aa⟩) λc143 gs=>Bt<|AA Aa<|AJ<|Au<|ob gs λgu gv hy=>Bk (V:=Unit×Unit) 4 (λσ=>Cg (λσ=>EP F a σ) σ.1 σ.2.1=some gu) (λσ=>[(1,rP b1 0),(5,AZ σ.2.1)]) (λσ=>(Gd b1 a)) (λσ=>σ.1) (F,0,()) gv (A7 Aa) (sC sN) (λσ=>Ek F a =some r) (λσ=>[(1,rP b1 0)]) (λσ=>(Gd b1 a)) (by rintro⟨ch,hm,⟨⟩⟩ gw;refine EG ?_;obtain⟨gx,rfl,gy,hn,hp⟩:=Cq gw;have hn:EP F a hm=some gy:=hn;exact AV<|AA Aa<|wv An<|wv (Ae 0)<|wv AU<|wv BI<|AJ<|B2 hn (λgz g0=>Bt<|Au<|Ay<|wv An<|wv (Ae 0)<|ms Aa<|ck g0 λg1 g3=>wv (AX g1)<|wv C2<|ob g3 λg5 g6 g7=>BV Tryz.call70 (U9 F (Af a.fPolicy hm) g5 g6)<|ms Aa<|BM Aa<|wv Ci<|AJ<|B2 g7 (λg8 g9=>B6 Aa<|B8<|Ao<|Bf<|have gA:=BE g9 hp hy;B8<|cs gA▸Ap (Ct YM AW) (sS sN) ⟨Aa,Aa⟩) λg8 gB=>B3<|CR<|B7 Aa<|ck gB λgC gD=>wv (Bh gC)<|Bg Aa<|have gE:=Bd gD hp;Ax (As (gx,hm+1,()) ⟨gE,Apu _⟩ (A7 Aa) (sC sN))) λgz gF=>Bs<|Ah<|have gG:=BG gF hp hy;Ah (AN (As ((),()) gG (A7 Aa) (sC sN))))<|by rintro⟨⟨⟩,⟨⟩⟩ hq;refine Gw ?_;exact have hq:Ek F a =some r:=hq;AR<|Cy<|AV<|AA Aa<|AJ<|Au<|ob hq λgH gI hz=>Bk (V:=Unit×Unit) 6 (λσ=>Cg (λσ=>EO F a σ) σ.1 σ.2.1=some gH) (λσ=>[(1,rP b1 0),(7,AZ σ.2.1)]) (λσ=>(Gd b1 a)) (λσ=>σ.1) (F,0,()) gI (A7 Aa) (sC sN) (λσ=>DM a =some r) (λσ=>[(1,rP b1 0)]) (λσ=>(Gd b1 a)) (by rintro⟨ci,hr,⟨⟩⟩ gJ;refine EG ?_;obtain⟨gK,rfl,gL,hs,ht⟩:=Cq gJ;have hs:EO F a hr=some gL:=hs;exact AV<|AA Aa<|wv An<|wv (Ae 0)<|wv AU<|wv BI<|AJ<|B2 hs (λgM gN=>Bt<|Au<|Ay<|wv An<|wv (Ae 0)<|ms Aa<|ck gN λgO gP=>wv (AX gO)<|wv C2<|ob gP λgQ gR gS=>BV Tryz.call71 (ST F (Af a.fNet hr) gQ gR)<|ms Aa<|BM Aa<|wv Ci<|AJ<|B2 gS (λgT gU=>B6 Aa<|B8<|Ao<|Bf<|have gV:=BE gU ht hz;B8<|cs gV▸Ap (Ct YM AW) (sS sN) ⟨Aa,Aa⟩) λgT gW=>B3<|CR<|B7 Aa<|ck gW λgX gY=>wv (Bh gX)<|Bg Aa<|have gZ:=Bd gY ht;Ax (As (gK,hr+1,()) ⟨gZ,Apu _⟩ (A7 Aa) (sC sN))) λgM ca=>Bs<|Ah<|have cb:=BG ca ht hz;Ah (AN (As ((),()) cb (A7 Aa) (sC sN))))<|by rintro⟨⟨⟩,⟨⟩⟩ hf;refine Gw ?_;exact have hf:DM a =some r:=hf;by unfold DM at hf;exact AR<|Cy<|AV<|Ar [(101,rB ((Bm (a.fNow<0))||(Bm (1073741824<a.fNow))))] [] (A4<|wv An<|wv (Ae 0)<|wv BI<|ms Aa<|AF (Bm (a.fNow<0)) (λhd=>CB hd Aa<|wv (Aj hd)<|Az<|BR hd) λhd=>Bq hd An<|Bq hd (Ae 0)<|Bq hd C9<|Ep Aa hd Aa<|Az<|BR hd)<|B2 hf (λcc cd=>Bw Aa<|cs cd▸CY YM ⟨Aa,Aa⟩) λcc ce=>BW<|B6 Aa<|cs ce▸CY YM ⟨Aa,Aa⟩
theorem Nc (F:Nat)(l:(List AB))(r:Int)(h:HF F l=some r):FN 32 [B4 3 (Bu BJ l)] [] (PO (AZ r)):=en Tryz.func32 Tryz.ntmps32 Aa λw Z=>AA Aa<|BD Aa<|wv AU<|wv C9<|AJ<|B2 h (λc1 h2=>Bw Aa<|cs h2▸CY AdY ⟨Aa,Aa⟩) λc1 h3=>Bt<|AA Aa<|AJ<|Au<|ob h3 λhj hk hf=>Bk (V:=Unit×Unit) 0 (λσ=>Cg (λσ=>Gl F l σ) σ.1 σ.2.1=some hj) (λσ=>[(0,B4 3 (Bu BJ l)),(3,AZ σ.2.1)]) (λσ=>[]) (λσ=>σ.1) (F,0,()) hk (A7 Aa) sN (λσ=>Gk =some r) (λσ=>[]) (λσ=>[]) (by rintro⟨hR,hd,⟨⟩⟩ hl;refine EG ?_;obtain⟨hm,rfl,hn,hi,he⟩:=Cq hl;have hi:Gl F l hd=some hn:=hi;exact AV<|AA Aa<|wv AU<|wv BI<|AJ<|B2 hi (λhp hq=>Bt<|Au<|AV<|AA Aa<|ck hq λhg hr=>wv (AX hg)<|wv CL<|wv AS<|ck hr λhs ht=>CC Tryz.call72 Aa (AkF (Af l hd).fKey hs) Aa Aa<|wv BQ<|AJ<|B2 ht (λhu hw=>Bw Aa<|B8<|Ao<|Bf<|have hx:=BE hw he hf;B8<|cs hx▸CY AdY ⟨Aa,Aa⟩) λhu hy=>BW<|AA Aa<|wv (AX hg)<|wv CL<|wv AS<|ob hy λhz h0 h1=>BV AfT (NH F (Af l hd).fValue hz h0)<|ms Aa<|BD Aa<|wv Ci<|AJ<|B2 h1 (λh4 h5=>Bw Aa<|B8<|Ao<|Bf<|by exact have h6:=BE h5 he hf;B8<|cs h6▸CY AdY ⟨Aa,Aa⟩) λh4 h7=>Bt<|AA Aa<|wv (AX hg)<|wv CL<|wv AS<|wv BI<|AJ<|B2 h7 (λh8 h9=>by exact Bw Aa<|B8<|Ao<|Bf<|have hA:=BE h9 he hf;B8<|cs hA▸CY AdY ⟨Aa,Aa⟩) λh8 hB=>by exact BW<|ck hB λhC hD=>ck hD λhE hG=>Ar [(0,B4 3 (Bu BJ l)),(3,AZ hd),(51,rB ((Bm (0<hd))&&(Cr (Af l hd).fKey (Af l (hd-1)).fKey||Bm ((Af l hd).fKey=(Af l (hd-1)).fKey))))] [] (AF (Bm (0<hd)) (λhb=>by refine Dn [0,3] ?_;refine rq AD<|rq C9<|rq AD<|rg hb (AE Aa)<|rg hb (AE Aa)<|rg hb (CJ (enc:=BJ) (ys:=l) Tp Mx Aa Aa hg)<|rg hb (Bv TS Aa Ew Aa Aa)<|rg hb (BZ IK Aa Aa)<|rg hb (AE Aa)<|rg hb (AE Aa)<|rg hb (AcY Aa Aa (BL hC hb))<|rg hb (CJ (enc:=BJ) (ys:=l) Tp Mx Aa Aa (BL hE hb))<|rg hb (Bv TS Aa Ew Aa Aa)<|rg hb (BZ IK Aa Aa)<|rg hb (WD Aa Aa)<|rq (Aj hb)<|re [51,0,3] ?_;exact BR hb) λhb=>by refine Dn [0,3] ?_;refine rq AD<|rq C9<|rq AD<|rz hb<|rz hb<|rz hb<|rz hb<|rz hb<|rz hb<|rz hb<|rz hb<|rz hb<|rz hb<|rz hb<|rz hb<|rq (Am hb)<|re [51,0,3] ?_;exact BR hb)<|B2 hG (λhH hI=>B6 Aa<|B8<|Ao<|Bf<|have hJ:=BE hI he hf;B8<|cs hJ▸CY AdY ⟨Aa,Aa⟩) λhH hK=>B3<|CR<|B7 Aa<|ck hK λhL hN=>wv (Bh hL)<|Bg Aa<|have hO:=Bd hN he;Ax (As (hm,hd+1,()) ⟨hO,Apu _⟩ (A7 Aa) sN)) λhp hP=>Bs<|Ah<|have hQ:=BG hP he hf;Ah (AN (As ((),()) hQ Hw.nil sN)))<|by rintro⟨⟨⟩,⟨⟩⟩ hh;refine Gw ?_;exact have hh:Gk =some r:=hh;by unfold Gk at hh;exact AR<|Cy<|B6 Aa<|cs hh▸CY AdY ⟨Aa,Aa⟩
theorem He (v r:(List Ab))(h:Gx v=some r):FN 33 (Ea v) [] (PO (B4 4 (Bu A5 r))):=en Tryz.func33 Tryz.ntmps33 Aa λw Z=>by unfold Gx at h;exact AA Aa<|Dc<|DP ([]:List Ab) A5 Mv JZ OZ Aa trivial Dh λb1=>ms Aa<|ck h λg3 h4=>IM 0 Mv AhE Aa Aa (K8.z Aa Aa) Dh P7 g3 λv2=>By Aa<|WK.freeze (i:=0) Aa<|WK.up (d:=2) Aa (Up.fact 0 Aa)<|cs h4▸Ap (Ct Tryz.results33 AW) (sS sN) ⟨Aa,Aa⟩
theorem VN (tenant op name r:Ac)(h:NJ tenant op name=some r):FN 86 [rS tenant,rS op,rS name] [] (PO (rS r)):=en Tryz.func86 Tryz.ntmps86 Aa λw Z=>Ay<|wv (r:=rS ([]:Ac)) AT<|BM Aa<|ck h λg1 h2=>wv (Dz g1)<|ms Aa<|ck h2 λg3 h4=>wv (Dz g3)<|ck h4 λg5 h6=>wv (Dz g5)<|ms Aa<|ck h6 λg7 h8=>wv (Dz g7)<|By Aa<|cs h8▸CY Tryz.results86 ⟨Aa,Aa⟩
theorem E3 {P:Program}{n:Nat}{c:Cx}{ops:Array Oper}{Q:Exit→Act→World→Prop}{rest:List Oper}{H H1:List Ent}{β:Nat→Nat}{os:List Oper}{sp:List Sa}{i:Nat}{l0 l1:Fr}(ks:List Nat)(h:WL P n c ops Q rest l1 H1)
    (hz:Kza ks β os sp i l0 l1:=by repeat (first | (apply AkB;rfl) | (apply AkC;rfl) | (apply kza_d;rfl) | apply kza_u | apply AkD | exact RX | (apply Pf;rfl) | (apply QY;rfl))) (hH:Ahk H=some H1:=by rfl) :
    WL P n c ops Q rest (PD β os sp i l0) H:=AkR ks h hz (Adc hH)
abbrev I0 (d:List Nat)(r:Rp):Sa:=⟨d,r,none,none,none⟩
theorem QK (F:Nat)(a:A0)(q:A6)(r:Int)(h:Hg F a q=some r):FN 46 [Cz (Cv a),Cz (Ce q)] [] (PO (AZ r)):=by
 refine en Tryz.func46 Tryz.ntmps46 Aa λw Z=>?_;unfold Hg at h;refine Ay<|Cb Aa Aa (λb1=>?_);refine Cb Aa Aa (λb2=>?_);refine ms Aa<|Dc<|wv (B0 1)<|ob h λr3 e5 h4=>BV Tryz.call31 (IV F a r3 e5)<|ms Aa<|BD Aa<|wv Ci<|AJ<|B2 h4 (λc6 h7=>?_) (λc6 h8=>?_)
 ·refine Bw Aa ?_
  cases h7
  exact Ap (Ct Xp AW) (sK 0) ⟨Aa,Aa⟩
 refine Bt<|Ay<|wv An<|wv (Ae 0)<|ob h8 λr9 hh hi=>BV Tryz.call69 (NK F q.fOp r9 hh)<|wv BQ<|AJ<|B2 hi (λhj hk=>?_) (λhj hl=>?_)
 ·refine Bw Aa ?_
  cases hk
  exact Ap (Ct Xp AW) (sK 0) ⟨Aa,Aa⟩
 refine Bt<|Ay<|wv An<|wv (Ae 1)<|wv An<|wv (Ae 0)<|ob hl λhm hn hp=>BV Tryz.call83 (Adu F a.fOps q.fOp hm hn)<|wv BQ<|AJ<|B2 hp (λhq hr=>?_) (λhq hs=>?_)
 ·refine Bw Aa ?_
  cases hr
  exact Ap (Ct Xp AW) (sK 0) ⟨Aa,Aa⟩
 refine Bt<|Ay<|wv (B0 0)<|ob hs λht hu hw=>BV Tryz.call84 (AeF F q ht hu)<|wv BQ<|AJ<|B2 hw (λhx hy=>?_) (λhx hz=>?_)
 ·refine Bw Aa ?_
  cases hy
  exact Ap (Ct Xp AW) (sK 0) ⟨Aa,Aa⟩
 refine Bt<|Ar [(2,rP b1 0),(3,rP b2 0),(37,rB ((Bm (q.fOp=([110,111,119]:Ac)))||(Bm (q.fOp=([108,111,103]:Ac)))))] [EH b2 q,.blk b1 (Cv a) 26] ?_ ?_
 ·refine A4<|wv An<|wv (Ae 0)<|wv BA<|ms Aa<|AF (Bm (q.fOp=([110,111,119]:Ac))) (λhb=>?_) (λhb=>?_)
  ·refine CB hb Aa<|wv (Aj hb)<|Az ?_;exact BR hb
  refine Bq hb An<|Bq hb (Ae 0)<|Bq hb BA<|Ep Aa hb Aa<|Az ?_;exact BR hb
 refine B2 hz (λh0 h1=>?_) (λh0 h2=>?_)
 ·refine Bw Aa ?_
  cases h1
  exact Ap (Ct Xp AW) (sK 0) ⟨Aa,Aa⟩
 refine BW<|Ay<|wv An<|wv (Ae 0)<|ck h2 λh3 h5=>wv (AX h3)<|wv AS<|ob h5 λhd h6 h9=>BV Tryz.call51 (QI F (Af q.fArgs 0) hd h6)<|ms Aa<|wv Al<|wv Al<|ms Aa<|BU<|ob h9 λhe hA hB=>ob hB λhg hC hD=>Lc 12 [2,3,6] [I0 [] (rP b1 3),I0 [0] (B4 3 (Bu AK a.fPolicy)),I0 [] (rP b2 0),I0 [2] (rS q.fOp),I0 [] (rP b1 0),I0 [4] (rS a.fTenant),I0 [] (rP b2 0),I0 [6] (rS q.fOp),I0 [] (rS hd.1),I0 [5,7,8] (rS he),I0 [1,3,9] (Cz (HL hg)),⟨[],rv undef,some (JR,140),none,none⟩] ?_ (λβ=>?_)
 ·refine P1 (Aq Mw Aa VB Aa Aa)<|V8 (AY 1 AaX Aa Aa Aa)<|P1 (Aq Rz Aa Ew Aa Aa)<|V8 (AY 0 IK Aa Aa Aa)<|P1 (Aq Mw Aa Ew Aa Aa)<|V8 (AY 1 IK Aa Aa Aa)<|P1 (Aq Rz Aa Ew Aa Aa)<|V8 (AY 0 IK Aa Aa Aa)<|P1 (AE Aa)<|oac (Dy Tryz.call86 (VN a.fTenant q.fOp hd.1 he hA) Aa)<|oac (Dy Tryz.call85 (Z5 F a.fPolicy q.fOp he hg hC) Aa)<|oal (Anl (cs:=JR) YE Aa) ?_;exact oae
 refine E3 [46,47,48,49,50,51,52,53,54,55,56,8,2,3,6] ?_;generalize β 11=hT;refine Eu 2 IJ Aa Aa Aa (Bn.c Aa) Aa Aa ?_;refine BU<|Ay<|wv An<|wv (Ae 2)<|wv BQ<|AJ<|B2 hD (λhE hG=>?_) (λhE hH=>?_)
 ·refine Bw Aa ?_
  cases hG
  exact Ap (Ct Xp AW) (sK 0) ⟨Aa,Aa⟩
 refine Bt<|Ay<|wv An<|wv (Ae 0)<|wv BA<|AJ<|B2 hH (λc46 hI=>?_) (λc46 hJ=>?_)
 ·refine AA Aa<|ob hI λhf hK hL=>BV Tryz.call87 (Py F hd.1 hf hK)<|ms Aa<|wv Al<|wv Al<|wv Al<|ms Aa<|Dc<|wv An<|wv (Ae 1)<|ms Aa<|ob hL λhN hO hP=>BV Tryz.call88 (XN F a.fNet hf.1 hf.2.1 hN hO)<|Eu 2 IJ Aa Aa Aa (Bn.c Aa) Aa Aa ?_;refine Dc<|wv An<|wv (Ae 2)<|wv BQ<|AJ<|B2 hP (λhQ hR=>?_) (λhQ hS=>?_)
  ·refine Bw Aa ?_
   cases hR
   exact Ap (Ct Xp AW) (sK 0) ⟨Aa,Aa⟩
  refine BW<|B6 Aa ?_
  cases hS
  exact Ap (Ct Xp AW) (sK 0) ⟨Aa,Aa⟩
 refine BW<|B6 Aa ?_
 cases hJ
 exact Ap (Ct Xp AW) (sK 0) ⟨Aa,Aa⟩
end Go.Proofs.YtphnhpcjnmmhiaaGreatDoor.Q
namespace Go.Proofs.YtphnhpcjnmmhiaaGreatDoor
open Go
set_option linter.unusedVariables false
structure Bp where
 fSecrets:(List (Ac×Int))
 deriving DecidableEq,Inhabited
structure AG where
 fText:Ac
 fBefore:Ac
 fVersion:Int
 fUntil:Int
 fNow:Int
 fBound:(List (Ac×Bool))
 deriving DecidableEq,Inhabited
def GS (ys:(List Ab)):Option ((List Ab)):=
 AM (Dl 40 (([]:List Ab).length+ys.length))<|some (([]:List Ab)++ys)
def QD (c:Int):Option Bool:=
 some ((decide (c<33))||(decide (126<c)))
def K1 (ys:(List Int))(hb:Int):Option (Stp Int (Out Int Unit)):=
 Bj (decide (hb<(ys.length:Int))) (AM (Cn hb (ys.length:Int))<|Ba (QD (Af ys hb)) λhd=>Bj hd (some (.out (.ret hb))) (AM (BT .i64 (hb+1))<|some (.next (hb+1)))) (some (.out (.go ())))
def Mc :Option Int:=
 some (-1)
def AbN (F:Nat)(ys:(List Int)):Option Int:=
 Ba (Cg (λσ=>K1 ys σ) F 0) (Cm λν=>Mc )
def ML (F:Nat)(ys:(List Int)):Option Bool:=
 Ba (AbN F ys) λr1=>some (decide (0≤r1))
def T9 (F:Nat)(s:Ac):Option Bool:=
 AM (imp (!decide (s=([]:Ac))) (imp (decide ((s.length:Int)≤200)) (Dl 1 s.length)))<|AM (imp (!decide (s=([]:Ac))) (imp (decide ((s.length:Int)≤200)) (ML F (GL s)).isSome))<|some ((!decide (s=([]:Ac)))&&((decide ((s.length:Int)≤200))&&(!(ov (ML F (GL s))))))
def Zj :Option ((Bp×(List AG))):=
 some ((Bp.mk ([]:List (Ac×Int))),([]:List AG))
def RD (name:Ac):Option (Unit×Unit):=
 some ((),())
def PM (v:Bp)(hb:(List AG))(name:Ac):Option (Int×Int):=
 Bj (!(Du v.fSecrets name)) (some ((-1),5)) (some (Gc v.fSecrets name (-1),0))
def Wz (F:Nat)(v:Bp)(hb:(List AG))(name text:Ac):Option (Int×Bp×(List AG)):=
 Ba (PM v hb name) λr1=>Bj (decide (r1.2=10)) (some (r1.2,v,hb)) (Bj (!(D0 name)) (some (4,v,hb)) (Ba (T9 F text) λhd=>Bj (!hd) (some (1,v,hb)) (Bj (decide (r1.2=0)) (some (6,v,hb)) (Bj (decide (256≤(v.fSecrets.length:Int))) (some (3,v,hb)) (some (0,(Bp.mk (mset v.fSecrets name (hb.length:Int))),hb++[(AG.mk text ([]:Ac) 1 0 0 ([]:List (Ac×Bool)))]))))))
def RE (v:Bp)(hb:(List AG))(name function:Ac):Option (Int×Bp×(List AG)):=
 Ba (PM v hb name) λr1=>Bj (!decide (r1.2=0)) (some (r1.2,v,hb)) (Bj (!(D0 function)) (some (4,v,hb)) (AM (Cn r1.1 (hb.length:Int))<|Bj (Gc (Af hb r1.1).fBound function false) (some (6,v,hb)) (Bj (decide (32≤((Af hb r1.1).fBound.length:Int))) (some (3,v,hb)) (some (0,v,List.set hb (Int.toNat r1.1) (AG.mk (Af hb r1.1).fText (Af hb r1.1).fBefore (Af hb r1.1).fVersion (Af hb r1.1).fUntil (Af hb r1.1).fNow (mset (Af hb r1.1).fBound function true)))))))
def RC (name function:Ac):Option (Ac×Int×Int):=
 Ba (RD name) λr1=>some (([]:Ac),0,10)
def PL (v:Bp)(hb:(List AG))(name function:Ac):Option (Ac×Int×Int):=
 Ba (PM v hb name) λr1=>Bj (!decide (r1.2=0)) (some (([]:Ac),0,r1.2)) (AM (Cn r1.1 (hb.length:Int))<|Bj (!(Gc (Af hb r1.1).fBound function false)) (some (([]:Ac),0,12)) (some ((Af hb r1.1).fText,(Af hb r1.1).fVersion,0)))
def Lg (s:Ac):Option Ac:=
 some s
def EM (hb:(List AG))(hg:Ac)(hd hf he:Int):Option (Stp (Int×Int) (Out (Stp Int (Out (Stp (Ac×Ac) (Out Ac Ac)) Int)) (Int×Int×Bool))):=
 Bj (decide (he<(([(Af hb hd).fText,(Af hb hd).fBefore]:List Ac).length:Int))) (AM (Cn he (([(Af hb hd).fText,(Af hb hd).fBefore]:List Ac).length:Int))<|AM (GH hg (Af ([(Af hb hd).fText,(Af hb hd).fBefore]:List Ac) he)).isSome<|AM (BT .i64 (he+1))<|some (.next ((bif (ov (GH hg (Af ([(Af hb hd).fText,(Af hb hd).fBefore]:List Ac) he))) then max hf ((Af ([(Af hb hd).fText,(Af hb hd).fBefore]:List Ac) he).length:Int) else hf),he+1))) (some (.out (.go (hf,he,decide (he<(([(Af hb hd).fText,(Af hb hd).fBefore]:List Ac).length:Int))))))
def Ig (hb hd:Int)(he:Bool):Option (Stp Int (Out (Stp (Ac×Ac) (Out Ac Ac)) Int)):=
 some (.next hb)
def Ih (F:Nat)(hb:(List AG))(he hg:Ac)(hd hf:Int):Option (Stp Int (Out (Stp (Ac×Ac) (Out Ac Ac)) Int)):=
 AM (Cn hd (hb.length:Int))<|Ba (Cg (λσ=>EM hb he hd σ.1 σ.2) F (hf,0)) (Cm λν=>Ig ν.1 ν.2.1 ν.2.2)
def GZ (hb hd:Ac)(he:Int):Option (Stp (Ac×Ac) (Out Ac Ac)):=
 Bj (decide (he=0)) (AM (Cn 0 (hb.length:Int))<|AM (Dl 1 (hd.length+1))<|AM (BT .u8 (C0 hb 0))<|Nu (hd++[UInt8.ofNat (Int.toNat (C0 hb 0))]) λhf=>AM (IG 1 (hb.length:Int))<|some (.next (List.drop (Int.toNat 1) hb,hf))) (AM (Dl 1 (hd.length+([42,42,42]:Ac).length))<|Nu (hd++([42,42,42]:Ac)) λhg=>AM (IG he (hb.length:Int))<|some (.next (List.drop (Int.toNat he) hb,hg)))
def Eg (F:Nat)(v:Bp)(he:(List AG))(hb hd:Ac):Option (Stp (Ac×Ac) (Out Ac Ac)):=
 Bj (!decide (hb=([]:Ac))) (Ahs v.fSecrets λord=>Ba (lfe (λpe τ=>Ih F he hb pe.1 pe.2 τ) ord 0) (Cm λν=>GZ hb hd ν)) (some (.out (.go hd)))
def J4 (hb:Ac):Option Ac:=
 AM (decide (0<hb.length))<|some hb
def LJ (F:Nat)(v:Bp)(hb:(List AG))(s:Ac):Option Ac:=
 Ba (Cg (λσ=>Eg F v hb σ.1 σ.2) F (s,([]:Ac))) (Cm λν=>J4 ν)
end Go.Proofs.YtphnhpcjnmmhiaaGreatDoor
namespace Go.Proofs.YtphnhpcjnmmhiaaGreatDoor.Q
open Go Go.RowKit
set_option linter.unusedVariables false
set_option linter.unusedSimpArgs false
set_option linter.unusedSectionVars false
section
variable {P : Program} {n : Nat} {c : Cx} {ops : Array Oper} {Q : Exit → Act → World → Prop} {rest : List Oper} {l : Fr} {H H' Hr : List Ent} {d k b rz : Nat} {ty t e re : TypeId} {pos : String} {af : Array Edge} {pv r : Value} {cs : List Rp} {ys : List (List Rp)} {K : Act → World → Prop} {cx : Code}
section
variable {Z : Fz} {w : World} {xs : List ((Value → List Rp) × List (List Rp))}
end
def Akv (l:Fr)(k:Nat)(i:Int):List Nat→Prop
 | []=>True
 | d::ds=>look l d=some (rPt k i 0)∧Akv l k i ds
def asB (b:Nat):List Nat→Fr→Fr
 | [],l=>l
 | d::ds,l=>(d,rv (.pointer (some ⟨b,0,none⟩)))::asB b ds l
def asI (k:Nat)(i:Int):List Nat→Fr→Fr
 | [],l=>l
 | d::ds,l=>(d,rPt k i 0)::asI k i ds l
theorem Aco {Z:Fz}{a:Act}{i:Int}{l:Fr}(ha:EB n l a Z)(h0:0≤i)(hn:Z.nm k i.toNat=some b):∀{ds:List Nat},Akv l k i ds→EB n (asB b ds l) a Z
 | [],_=>ha
 | d::ds,⟨h1,h2⟩=>by
  have h3:=Aco ha h0 hn h2;refine⟨h3.size,h3.defers,λj u hj=>?_⟩;rw[asB,Dp] at hj
  split at hj
  ·rename_i e;subst e;simp at hj;subst hj
   obtain⟨v,h4,h5⟩:=ha.tm d _ h1
   change PtZ k i 0 Z v at h5
   unfold PtZ at h5;rw[ApP (by omega)] at h5;obtain⟨b',g1,g2⟩:=h5;rw[hn] at g1;obtain rfl:=Option.some.inj g1;exact⟨v,h4,g2⟩
  ·exact h3.tm j u hj
theorem Qu {Z:Fz}{a:Act}{i:Int}{l:Fr}(ha:EB n l a Z)(h0:0≤i)(hn:Z.nm k i.toNat=some b):∀{ds:List Nat},V6 l b ds→EB n (asI k i ds l) a Z
 | [],_=>ha
 | d::ds,⟨h1,h2⟩=>by
  have h3:=Qu ha h0 hn h2;refine⟨h3.size,h3.defers,λj u hj=>?_⟩;rw[asI,Dp] at hj
  split at hj
  ·rename_i e;subst e;simp at hj;subst hj
   obtain⟨v,h4,h5⟩:=ha.tm d _ h1;refine⟨v,h4,?_⟩;show PtZ k i 0 Z v;unfold PtZ;rw[ApP (by omega)];exact⟨b,hn,h5⟩
  ·exact h3.tm j u hj
section
variable {β : Type} [Inhabited β] {xs : List β} {encw : β → (Value → List Rp) × List (List Rp)} {i : Int} {y : β}
end
end
end Go.Proofs.YtphnhpcjnmmhiaaGreatDoor.Q
