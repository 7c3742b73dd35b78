/-
  Texts of the proof, put together: Q3, ShelfN, FwG, Row, ShelfV, QG0, PlB, PlC, PIa, WIa, PlD, PlE, LiA, IdA, IdB, IdC, TzL, QG, QO, RowQ, QOb, PQB, WQB, PVa, WVa, PVb, WVb, PVc, WVc, PVd, WVd, PVe, WVe, PVf, WVf, PM, PH.
-/
import Derived.Test.YtphnhpcjnmmhiaaGreatDoorHD1
import Derived.Shelf.Strconv.Itoa3
import Derived.Shelf.LaysM
import Derived.Shelf.LaysC
import Derived.Shelf.Strconv.AtoiAll
import Derived.Shelf.Strconv.ErrVarAll
import Derived.Test.YtphnhpcjnmmhiaaGreatDoorProg
import Derived.Lib.SmallJoins
import Derived.Lib.AppendIntMem
import Derived.Lib.TrailingZeros
import Derived.Lib.LaidTab
import Derived.Test.YtphnhpcjnmmhiaaGreatDoorCards
import Derived.Test.YtphnhpcjnmmhiaaGreatDoorTie
import Derived.Carry
import Derived.ChangeSame
import Derived.ProofKit
import Derived.OpenShut
import Derived.Deep.DeepHandedRow
import Derived.Deep.DeepWitnessRowRef
import Derived.Lib.LaidIn
import Derived.Stop.LaidErr
import Derived.Shelf.Strings.Builder1
import Derived.Shelf.Strings.Count
import Derived.Shelf.Strings.Search1
import Derived.Shelf.Strings.Search2
import Derived.Shelf.Strings.Search3
import Derived.Shelf.Small.Strs
import Derived.Lib.Bytealg
import Derived.Lib.AtoiAllCases
import Derived.Lib.ItoaNum
import Derived.Lib.ItoaLen
import Derived.Lib.ItoaMem
import Derived.Shelf.Lays7
import Derived.Shelf.Spec.TrailingZeros
import Derived.Deep.Slices
import Derived.ChangeArms
import Derived.DataReads
import Derived.Test.YtphnhpcjnmmhiaaGreatDoorRows
import Derived.Laws.Tables
import Derived.Laws.StructEq
import GoSem.Op.IntBits
import GoSem.Op.Shift
namespace Go.Proofs.YtphnhpcjnmmhiaaGreatDoor.Q
open Go Go.RowKit
set_option linter.unusedVariables false
class FEq {α:Sort _} (a:α) (b:outParam α):Prop where h:a=b
instance {α:Sort _}(a:α):FEq a a:=⟨rfl⟩
class TSz (P:Program) (t:TypeId) (k:outParam Nat):Prop where h:∀w,(sizeOf t).run P w = .ok k w
class TAg (P:Program) (t:TypeId) (b:outParam Bool):Prop where h:∀w,(isAgg t).run P w = .ok b w
class TUn (P:Program) (t:TypeId) (u:outParam TypeDesc):Prop where h:P.underlying t=some u
def szl:List (Nat×Nat)→Nat→Option Nat
 | [],_=>none
 | p::r,t=>bif Nat.beq p.1 t then some p.2 else szl r t
class TB (P:Program) where
 sz:List (Nat×Nat)
 h:∀p∈sz,∀w,(sizeOf p.1).run P w = .ok p.2 w
theorem Ags {P:Program}{l:List (Nat×Nat)}{t k:Nat}(hl:∀p∈l,∀w,(sizeOf p.1).run P w = .ok p.2 w)(h:szl l t=some k):∀w,(sizeOf t).run P w = .ok k w:=by
 induction l with
 | nil=>cases h
 | cons p r ih=>
  unfold szl at h
  cases hb:Nat.beq p.1 t with
  | true=>rw[hb] at h;cases h;have:=Nat.eq_of_beq_eq_true hb;subst this;exact hl p List.mem_cons_self
  | false=>rw[hb] at h;exact ih (λq hq=>hl q (List.mem_cons_of_mem _ hq)) h
theorem A7 {l:Fr}:∀{l':Fr},(l'.map λp=>look l p.1)=(l'.map λp=>some p.2)→Hw l' l
 | [],_=>trivial
 | p::r,h=>by
  simp only[Aqj,List.cons.injEq] at h;exact⟨⟨p.2,h.1,Hx.refl _⟩,A7 h.2⟩
def WB {α:Type}:Nat→List α→List α
 | _,[]=>[]
 | m,x::r=>bif Nat.beq (m % 2) 1 then x::WB (m/2) r else WB (m/2) r
theorem O9 {α:Type}:∀(m:Nat) (l:List α),(WB m l).Sublist l
 | _,[]=>List.Sublist.slnil
 | m,x::r=>by
  unfold WB
  cases Nat.beq (m % 2) 1
  ·exact List.Sublist.cons _ (O9 _ _)
  ·exact List.Sublist.cons_cons _ (O9 _ _)
variable{α:Type}
theorem cs {a b:α}(h:some a=some b):a=b:=Option.some.inj h
theorem sK (m:Nat){l l':List α}[h:FEq (WB m l) l']:l'.Sublist l:=h.1▸O9 m l
def Ado:Operand→Bool
 | .const (.string _)=>true
 | _=>false
def mv1 (n:Nat)(l:Fr):Oper→Option Fr
 | ⟨some d,.move x,_,_,_,none⟩=>bif Nat.blt d n&&!Ado x then(ev l x).map λr=>(d,r)::l else none
 | ⟨some d,.assign x,_,_,_,none⟩=>bif Nat.blt d n&&!Ado x then(ev l x).map λr=>(d,r)::l else none
 | _=>none
def mvs (n:Nat):Fr→List Oper→Fr×List Oper
 | l,[]=>(l,[])
 | l,o::os=>match mv1 n l o with
  | some l'=>mvs n l' os
  | none=>(l,o::os)
variable{os:List Oper}{H:List Ent}
theorem Alx {P:Program}{n:Nat}{c:Cx}{ops:Array Oper}{Q:Exit→Act→World→Prop}{l l':Fr}{o:Oper}(h:mv1 n l o=some l')(k:WL P n c ops Q os l' H):WL P n c ops Q (o::os) l H:=by
 have key:∀{d:Nat} {x:Operand},(bif Nat.blt d n&&!Ado x then(ev l x).map λr=>(d,r)::l else none)=some l'→∃r,ev l x=some r∧l'=(d,r)::l∧Nat.blt d n=true:=by
  intro d x h
  cases hb:(Nat.blt d n&&!Ado x) with
  | false=>rw[hb] at h;cases h
  | true=>
   rw[hb,Ap1] at h;rw[Aps] at hb
   cases hx:ev l x with
   | none=>rw[hx] at h;cases h
   | some r=>rw[hx] at h;cases h;exact⟨r,rfl,rfl,hb.1⟩
 unfold mv1 at h
 split at h
 ·obtain⟨r,h1,rfl,h3⟩:=key h;exact wm h1 k h3
 ·obtain⟨r,h1,rfl,h3⟩:=key h;exact wa h1 k h3
 ·cases h
theorem ms {P:Program}{n:Nat}{c:Cx}{ops:Array Oper}{Q:Exit→Act→World→Prop}{H:List Ent}:∀{os:List Oper} {l l':Fr} {os':List Oper},mvs n l os=(l',os')→WL P n c ops Q os' l' H→WL P n c ops Q os l H
 | [],l,l',os',h,k=>by cases h;exact k
 | o::os,l,l',os',h,k=>by
  unfold mvs at h
  cases hm:mv1 n l o with
  | none=>rw[hm] at h;cases h;exact k
  | some l1=>rw[hm] at h;exact Alx hm (ms h k)
abbrev PO (x:Rp):Rp→List Ent→Prop:=λR H=>R=x∧H=[]
variable{Φ:Rp→List Ent→Prop}
theorem en {P:Program}{n:Nat}{E:Fz→Prop}{f:FuncId}{fn:Func}{x:Code}{args:List Rp}{Hin:List Ent}(hf:P.funcs[f]? =some fn)(hn:fn.ntmps=n)(hb:(fn.body,Nat.ble args.length n)=(some x,true))
  (h:∀w Z,WC P n ⟨w,Z,Hin.flatMap Ent.foot,E,Hin.flatMap Ent.gk⟩ x (bodyPost P fn (Ret ⟨w,Z,Hin.flatMap Ent.foot,E,Hin.flatMap Ent.gk⟩ Φ)) (Ru args) Hin):Fn P E f args Hin Φ:=by
 rw[Prod.mk.injEq] at hb;exact enter hf hb.1 hn hb.2 h
variable{b want:Bool}{enc:α→List Rp}{ys:List α}{i:Nat}{rs:List Rp}{j:Nat}
section
variable {P : Program} {n : Nat} {c : Cx} {ops : Array Oper} {Q : Exit → Act → World → Prop} {rest : List Oper} {l l' : Fr} {H H' : List Ent} {x y z3 : Operand} {d : Nat} {d' : Option Nat} {t t' e ty : TypeId} {pos : String} {af : Array Edge} {g : Option (Nat × Bool)} {r : Rp} {sz : Nat} {op : Op} {x' y' : Code}
abbrev Tn (P:Program)(y:Code)(Q:Exit→Act→World→Prop):Exit→Act→World→Prop:=Exit.then (λa w=>y.wp P Q a w) Q
section
variable {os os' : List Oper} {z : Code} {id : Nat} {K : Act → World → Prop}
theorem AA (hm:mvs n l os=(l',os'))(h:WL P n c os.toArray (Tn P y' Q) os' l' H):WC P n c ((Code.region id os.toArray false).seq y') Q l H:=Ay (ms hm h)
theorem DQ (h:WK n c (Q .ret) l H):WL P n c ops (Tn P .ret Q) [] l H:=AJ (BO h)
theorem BW (h:WC P n c y' Q l H):WC P n c .skip (Tn P y' Q) l H:=B3 (Cy h)
theorem BU (h:WC P n c x' (Tn P y' Q) l H):WL P n c ops (Tn P (x'.seq y') Q) [] l H:=AJ (AV h)
theorem Bg (hm:mvs n l os=(l',[]))(h:WK n c (Q .normal) l' H):WL P n c ops Q os l H:=ms hm (Az h)
theorem B7 (hm:mvs n l os=(l',os'))(h:WL P n c os.toArray Q os' l' H):WC P n c (.region id os.toArray false) Q l H:=A4 (ms hm h)
theorem B8 (h:WK n c (Q .ret) l H):WK n c (Exit.inBlock id (Exit.then K Q) .ret) l H:=G9 (Ao h)
theorem BM (hm:mvs n l os=(l',os'))(h:WL P n c os.toArray (Tn P y' Q) os' l' H):WL P n c ops (Tn P ((Code.region id os.toArray false).seq y') Q) [] l H:=Dc (ms hm h)
theorem Bt (h:WC P n c x' (Tn P y' Q) l H):WC P n c .skip (Tn P (x'.seq y') Q) l H:=BW (AV h)
theorem Cs (hm:mvs n l os=(l',[]))(h:WC P n c y' Q l' H):WL P n c ops (Tn P y' Q) os l H:=ms hm (AJ h)
theorem By (hm:mvs n l os=(l',[]))(h:WK n c (Q .ret) l' H):WL P n c ops (Tn P .ret Q) os l H:=Cs hm (BO h)
theorem B6 (hm:mvs n l os=(l',[]))(h:WK n c (Q .ret) l' H):WC P n c ((Code.region id os.toArray false).seq .ret) Q l H:=Ay (By hm h)
theorem Bw (hm:mvs n l os=(l',[]))(h:WK n c (Q .ret) l' H):WC P n c ((Code.region id os.toArray false).seq .ret) (Exit.then K Q) l H:=B6 hm (Ao h)
theorem BD (hm:mvs n l os=(l',os'))(h:WL P n c os.toArray (Tn P x' (Tn P y' Q)) os' l' H):WL P n c ops (Tn P (((Code.region id os.toArray false).seq x').seq y') Q) [] l H:=BU (AA hm h)
theorem CR (h:WC P n c y' Q l H):WK n c (Exit.inBlock id (Tn P y' Q) .normal) l H:=Ca (Cy h)
end
def skf (j:Nat)(w:Bool)(n:Nat)(g:Option Nat):Fr→List Oper→Fr×List Oper
 | l,⟨some d,op,ty,pos,af,some (j',w')⟩::os=>bif Nat.beq j' j&&(bif w' then w else !w)&&Nat.blt d n&&(match g with | some q=>!Nat.beq q d | none=>false) then skf j w n g ((d,rv undef)::l) os else(l,⟨some d,op,ty,pos,af,some (j',w')⟩::os)
 | l,os=>(l,os)
theorem Ag4 (hb:b = !want):∀{os:List Oper} {l l':Fr} {os':List Oper},(Ed ops j).bind (look l)=some (rB b)→skf j want n (Ed ops j) l os=(l',os')→WL P n c ops Q os' l' H→WL P n c ops Q os l H:=by
 intro os
 induction os with
 | nil=>intro l l' os' hv hs h;unfold skf at hs;cases hs;exact h
 | cons o os ih=>
  intro l l' os' hv hs h;rcases o with⟨_ | d,op,ty,pos,af,_ | ⟨j',w'⟩⟩
  ·simp only[skf] at hs;cases hs;exact h
  ·simp only[skf] at hs;cases hs;exact h
  ·simp only[skf] at hs;cases hs;exact h
  ·unfold skf at hs
   cases hc:(Nat.beq j' j&&(bif w' then want else !want)&&Nat.blt d n&&(match Ed ops j with | some q=>!Nat.beq q d | none=>false)) with
   | false=>rw[hc] at hs;cases hs;exact h
   | true=>
    rw[hc,Ap1] at hs;simp only[Aps] at hc;obtain⟨⟨⟨h1,h2⟩,h3⟩,h4⟩:=hc;have e1:j'=j:=Nat.eq_of_beq_eq_true h1;have e2:w'=want:=by cases w'<;>cases want<;>simp_all
    subst e1;subst e2;subst hb
    cases hg:Ed ops j' with
    | none=>rw[hg] at h4;cases h4
    | some q=>
     rw[hg] at h4 hs hv;have hv2:look l q=some (rB (!w')):=hv;replace h4:(!Nat.beq q d)=true:=h4;refine wz hg hv2 (ih ?_ ?_ h) h3
     ·rw[hg];show look ((d,rv undef)::l) q=_;have hne:(d ==q)=false:=by
       cases hq:Nat.beq q d with
       | true=>rw[hq] at h4;cases h4
       | false=>rw[Bool.eq_false_iff];intro e;rw[eq_of_beq e] at hq;simp at hq
      rw[Dp]
      split
      ·rename_i e;subst e;simp at hne
      ·exact hv2
     ·rw[hg];exact hs
theorem CB {os':List Oper}(hb:b = !want)(hs:skf j want n (Ed ops j) l ({ dst:=some d,op:=op,type:=ty,pos:=pos,after:=af,guard:=some (j,want) }::os)=(l',os'))(h:WL P n c ops Q os' l' H)(hv:(Ed ops j).bind (look l)=some (rB b):=by rfl) :
  WL P n c ops Q ({ dst:=some d,op:=op,type:=ty,pos:=pos,after:=af,guard:=some (j,want) }::os) l H:=Ag4 hb hv hs h
theorem Dx {os':List Oper}(hs:skf j want n (Ed ops j) l ({ dst:=some d,op:=op,type:=ty,pos:=pos,after:=af,guard:=some (j,want) }::os)=(l',os'))(h:WL P n c ops Q os' l' H)(hv:(Ed ops j).bind (look l)=some (rB (!want)):=by rfl) :
  WL P n c ops Q ({ dst:=some d,op:=op,type:=ty,pos:=pos,after:=af,guard:=some (j,want) }::os) l H:=Ag4 rfl hv hs h
theorem Bq {dj:Nat}(hb:b=want)(hr:Cd P n c l H { dst:=some d,op:=op,type:=ty,pos:=pos,after:=af,guard:=none } r)(h:WL P n c ops Q rest ((d,r)::l) H)(hj:Ed ops j=some dj:=by rfl)(hv:look l dj=some (rB b):=by rfl)(hn:Nat.blt d n=true:=by rfl) :
  WL P n c ops Q ({ dst:=some d,op:=op,type:=ty,pos:=pos,after:=af,guard:=some (j,want) }::rest) l H:=wo hb (wv hr h hn) hj hv
theorem DP (ys:List α)(enc:α→List Rp){len:Nat}{parts:Array (Nat×Operand)}{zz:Value}(ht:P.underlying t=some (.slice e))(hz:∀w,(sizeOf e).run P w = .ok sz w)(hzv:∀w,(zeroValue e).run P w = .ok zz w)
  (hv:Ph l (parts.toList.map Prod.snd)=some rs) (hc:Jo H rs (ys.map enc)) (henc:∀z,(enc z).length=sz)
  (h:∀b,WL P n c ops Q rest ((d,rv (.slice (some ⟨b,0,none⟩) len len))::l) (.row (.slice (some ⟨b,0,none⟩) len len) e sz (ys.map enc)::H))
  (hparts:parts.toList=((parts.toList.map Prod.snd).zipIdx 0).map λp=>(p.2,p.1):=by rfl) (hlen:ys.length=len:=by rfl) (hk:(Nat.blt 0 sz,Nat.ble (len*sz) 16777216,Nat.blt d n)=(true,true,true):=by rfl) :
  WL P n c ops Q ({ dst:=some d,op:=.buildSlice t len parts,type:=ty,pos:=pos,after:=af,guard:=none }::rest) l H:=by
 rw[Prod.mk.injEq,Prod.mk.injEq] at hk;exact Xt ht hz hzv hparts hlen hv hc rfl henc hk.1 hk.2.1 hk.2.2 h
theorem IM {xs:List α}(i:Nat){z:Value}{bytes:Nat}{v:Value}(ht:P.underlying t=some (.slice e))(hf:∃inf,P.info? e=some inf∧inf.zero=some z∧inf.size=sz∧inf.bytes=bytes)
  (hx:ev l x=some (rv v)) (hi:H[i]? =some (.row v e sz (xs.map enc))) (hy:K8 P n c l H y sz ys.length (ys.map enc).flatten) (henc:∀z,(enc z).length=sz) (hone:∀z,(enc z).all (·.one)=true) (hg:Dl bytes (xs.length+ys.length)=true)
  (h:∀v',WL P n c ops Q rest ((d,rv v')::l) (.row v' e sz ((xs++ys).map enc)::H.eraseIdx i)) (hk:(z.cells.size,Nat.blt 0 sz,Nat.blt 0 bytes,Nat.blt d n)=(sz,true,true,true):=by rfl) :
  WL P n c ops Q ({ dst:=some d,op:=.call { callee:=.builtin .append,args:=#[x,y],argTypes:=#[t,t] },type:=ty,pos:=pos,after:=af,guard:=none }::rest) l H:=by
 simp only[Prod.mk.injEq] at hk;obtain⟨inf,q1,q2,q3,q4⟩:=hf;exact Agf ht q1 q2 q3 q4 hk.1 hk.2.1 hk.2.2.1 hx hi hy henc hone hg hk.2.2.2 h
theorem Ra {P:Program}{t s b:Nat}{z:Value}(key:(P.info? t).map (λi=>(i.zero,i.size,i.bytes))=some (some z,s,b)):∃inf,P.info? t=some inf∧inf.zero=some z∧inf.size=s∧inf.bytes=b:=by
 obtain⟨inf,h1,h2⟩:=Option.map_eq_some_iff.1 key;simp only[Prod.mk.injEq] at h2;exact⟨inf,h1,h2.1,h2.2.1,h2.2.2⟩
def Ahk:List Ent→Option (List Ent)
 | []=>some []
 | e::l=>match Ahk l with
  | none=>none
  | some r=>match e with
   | .blk b cs t=>some (.blk b cs t::r)
   | e=>some (e::r)
theorem Adc:∀{l l':List Ent},Ahk l=some l'→l=l'
 | [],_,h=>by cases h;rfl
 | e::l,l',h=>by
  unfold Ahk at h
  cases hq:Ahk l with
  | none=>rw[hq] at h;cases h
  | some r=>
   rw[hq] at h;have:=Adc hq;subst this
   cases e<;>cases h<;>rfl
def tkO {α:Type}:Nat→List α→Option (α×List α)
 | _,[]=>none
 | 0,a::l=>some (a,l)
 | i+1,a::l=>match tkO i l with
  | some (e,l')=>some (e,a::l')
  | none=>none
def pkO {α:Type}:List Nat→List α→Option (List α)
 | [],l=>some l
 | i::r,l=>match tkO i l with
  | some (e,l1)=>(match pkO r l1 with
   | some l2=>some (e::l2)
   | none=>none)
  | none=>none
theorem Ak2 {α:Type}:∀{i:Nat} {l l':List α} {e:α},tkO i l=some (e,l')→l.Perm (e::l')
 | _,[],_,_,h=>by simp[tkO] at h
 | 0,a::l,_,_,h=>by cases h;exact Ap3 _
 | i+1,a::l,l',e,h=>by
  unfold tkO at h
  cases hq:tkO i l with
  | none=>rw[hq] at h;cases h
  | some p=>rw[hq] at h;cases h;exact((Ak2 hq).cons a).trans (List.Perm.swap _ a _)
theorem Ak5 {α:Type}:∀{is:List Nat} {l l':List α},pkO is l=some l'→l.Perm l'
 | [],_,_,h=>by cases h;exact Ap3 _
 | i::r,l,l',h=>by
  unfold pkO at h
  cases hq:tkO i l with
  | none=>rw[hq] at h;cases h
  | some p=>
   rw[hq] at h;obtain⟨e,l1⟩:=p
   cases hr:pkO r l1 with
   | none=>simp[hr] at h
   | some l2=>simp only[hr] at h;cases h;exact(Ak2 hq).trans ((Ak5 hr).cons e)
theorem Pq {H2:List Ent}(is:List Nat)(hp:pkO is H=some H2)(h:WC P n c x' Q l H2):WC P n c x' Q l H:=AiJ (Ak5 hp) h
theorem Gr {a:Bool}(h:(!a)=b):a = !b:=Bool.not_eq_eq_eq_not.1 h
theorem Db {a b:Prop}(x:a)(y:b):a∧b:=⟨x,y⟩
abbrev P4 (k:IntKind)(x:Int):Int:=k.wrap x
abbrev Bm (p:Prop)[Decidable p]:Bool:=decide p
theorem sM (m:Nat){l l':List α}(h:WB m l=l'):l'.Sublist l:=h▸O9 m l
theorem bind_some {β:Type}{a:Option α}{f:α→Option β}{b:β}(h:a.bind f=some b):∃x,a=some x∧f x=some b:=by
 cases a with
 | none=>cases h
 | some x=>exact⟨x,rfl,h⟩
theorem vz (hj:(Ed ops j).bind (look l)=some (rB (!want)))(h:WL P n c ops Q rest ((d,rv undef)::l) H)(hn:Nat.blt d n=true:=by rfl) :
  WL P n c ops Q ({ dst:=some d,op:=op,type:=ty,pos:=pos,after:=af,guard:=some (j,want) }::rest) l H:=let ⟨_,h1,h2⟩:=bind_some hj;wz h1 h2 h hn
theorem Iw (hj:(Ed ops j).bind (look l)=some (rB want))
  (h:WL P n c ops Q ({ dst:=d',op:=op,type:=ty,pos:=pos,after:=af,guard:=none }::rest) l H) :
  WL P n c ops Q ({ dst:=d',op:=op,type:=ty,pos:=pos,after:=af,guard:=some (j,want) }::rest) l H:=let ⟨_,h1,h2⟩:=bind_some hj;Dd h1 h2 rfl h
theorem B2 {X Y:Option α}{s:α}{cx cy:Code}{o:Operand}(h:Bj b X Y=some s)[ho:FEq (ev l o) (some (rB b))](h1:b=true→X=some s→WC P n c cx Q l H)(h2:b=false→Y=some s→WC P n c cy Q l H):WC P n c (.cond o cx cy) Q l H:=cz h ho.1 h1 h2
theorem BV {f:FuncId}{args:List Operand}{ats:Array TypeId}(hcall:∀(as1:Array Value) (w:World),(callFunc f as1).run P w = .ok (.enter f as1) w)(hc:Fn0 P c.E f rs r)[hv:FEq (Ph l args) (some rs)](h:WL P n c ops Q rest ((d,r)::l) H)[hn:FEq (Nat.blt d n) true] :
  WL P n c ops Q ({ dst:=some d,op:=.call { callee:=.value (.func f),args:=args.toArray,argTypes:=ats },type:=ty,pos:=pos,after:=af,guard:=none }::rest) l H:=wc0 hcall hc hv.1 h hn.1
theorem AD [h:FEq (ev l x) (some r)]:Cd P n c l H { dst:=d',op:=.move x,type:=ty,pos:=pos,after:=af,guard:=g } r:=AE h.1
theorem AT [h:FEq (ev l x) (some r)]:Cd P n c l H { dst:=d',op:=.assign x,type:=ty,pos:=pos,after:=af,guard:=g } r:=BS h.1
theorem Aj (hb:b=true)[hc:FEq (ev l z3) (some (rB b))][h:FEq (ev l x) (some r)]:Cd P n c l H { dst:=d',op:=.pick z3 x y,type:=ty,pos:=pos,after:=af,guard:=g } r:=E9 hc.1 hb h.1
theorem Am (hb:b=false)[hc:FEq (ev l z3) (some (rB b))][h:FEq (ev l y) (some r)]:Cd P n c l H { dst:=d',op:=.pick z3 x y,type:=ty,pos:=pos,after:=af,guard:=g } r:=DX hc.1 hb h.1
theorem Al [h:FEq (ev l x) (some (DW rs))][hi:FEq rs[i]? (some r)]:Cd P n c l H { dst:=d',op:=.extract x i,type:=ty,pos:=pos,after:=af,guard:=g } r:=DZ h.1 hi.1
theorem An {b off off':Nat}{fs:Array Field}{f:Field}[hu:TUn P t (.struct fs)][hf:FEq fs[i]? (some f)][T:TB P][hsz:FEq (szl (TB.sz P) f.type) (some (sz+1))]
  [hx:FEq (ev l x) (some (rv (.pointer (some ⟨b,off,none⟩))))] [ho:FEq (off+f.offset) off']:Cd P n c l H { dst:=d',op:=.fieldAddr t x i,type:=ty,pos:=pos,after:=af,guard:=g } (rv (.pointer (some ⟨b,off',none⟩))):=Aq hu.1 hf.1 (Ags TB.h hsz.1) hx.1 ho.1
theorem Ae {b off:Nat}{cs:List Rp}(i:Nat)[hag:TAg P t false][hx:FEq (ev l x) (some (rv (.pointer (some ⟨b,off,none⟩))))][hi:FEq H[i]? (some (.blk b cs e))][hc:FEq cs[off]? (some r)] :
  Cd P n c l H { dst:=d',op:=.load t x,type:=ty,pos:=pos,after:=af,guard:=g } r:=AY i hag.1 hx.1 hi.1 hc.1
theorem B0 {b off:Nat}{cs s:List Rp}(i:Nat)[hag:TAg P t true][hsz:TSz P t sz][hx:FEq (ev l x) (some (rv (.pointer (some ⟨b,off,none⟩))))][hi:FEq H[i]? (some (.blk b cs e))][hr:FEq ((cs.drop off).take sz) s][hl:FEq s.length sz] :
  Cd P n c l H { dst:=d',op:=.load t x,type:=ty,pos:=pos,after:=af,guard:=g } (Cz s):=BP i hag.1 hsz.1 hx.1 hi.1 hr.1 hl.1
theorem AX [Inhabited α]{k:IntKind}{i:Int}(hg:Cn i (ys.length:Int)=true)[ht:TUn P t (.slice e)][hz:TSz P e sz][h:FEq (ev l x) (some (B4 sz (ys.map enc)))][hi:FEq (ev l y) (some (rI k i))] :
  Cd P n c l H { dst:=d',op:=.indexAddr t x y,type:=ty,pos:=pos,after:=af,guard:=g } (JV (enc (Af ys i))):=CJ ht.1 hz.1 h.1 hi.1 hg
theorem AS {cs:List Rp}[hag:TAg P t false][hx:FEq (ev l x) (some (JV cs))][hc:FEq cs[0]? (some r)] :
  Cd P n c l H { dst:=d',op:=.load t x,type:=ty,pos:=pos,after:=af,guard:=g } r:=BZ hag.1 hx.1 hc.1
theorem C2 {cs s:List Rp}[hag:TAg P t true][hsz:TSz P t sz][hx:FEq (ev l x) (some (JV cs))][hr:FEq (cs.take sz) s][hl:FEq s.length sz] :
  Cd P n c l H { dst:=d',op:=.load t x,type:=ty,pos:=pos,after:=af,guard:=g } (Cz s):=AeQ hag.1 hsz.1 hx.1 hr.1 hl.1
theorem CL {cs cs':List Rp}{fs:Array Field}{f:Field}[hu:TUn P t (.struct fs)][hf:FEq fs[i]? (some f)][T:TB P][hsz:FEq (szl (TB.sz P) f.type) (some (sz+1))]
  [hx:FEq (ev l x) (some (JV cs))] [ho:FEq (cs.drop f.offset) cs']:Cd P n c l H { dst:=d',op:=.fieldAddr t x i,type:=ty,pos:=pos,after:=af,guard:=g } (JV cs'):=Bv hu.1 hf.1 (Ags TB.h hsz.1) hx.1 ho.1
theorem AU [ht:TUn P t (.slice e)][h:FEq (ev l x) (some (B4 sz (ys.map enc)))]:Cd P n c l H { dst:=d',op:=.call { callee:=.builtin .len,args:=#[x],argTypes:=#[t] },type:=ty,pos:=pos,after:=af,guard:=g } (rI .i64 ys.length):=UI ht.1 h.1
theorem Bo {p:List UInt8}[ht:TUn P t .string][h:FEq (ev l x) (some (rS p))]:Cd P n c l H { dst:=d',op:=.call { callee:=.builtin .len,args:=#[x],argTypes:=#[t] },type:=ty,pos:=pos,after:=af,guard:=g } (rv (.int .i64 p.length)):=OD ht.1 h.1
theorem BH {p:List UInt8}{k:IntKind}{i:Int}(hg:Cn i (p.length:Int)=true)[ht:TUn P t .string][h:FEq (ev l x) (some (rS p))][hi:FEq (ev l y) (some (rI k i))] :
  Cd P n c l H { dst:=d',op:=.index t x y,type:=ty,pos:=pos,after:=af,guard:=g } (rI .u8 (C0 p i)):=LV ht.1 h.1 hi.1 hg
theorem Aw {p:Addr}[hx:FEq (ev l x) (some (rv (.pointer (some p))))]:Cd P n c l H { dst:=d',op:=.nilCheck x,type:=ty,pos:=pos,after:=af,guard:=g } (rv (.pointer (some p))):=BK hx.1
theorem BQ [h:FEq (ev l x) (some (rB b))]:Cd P n c l H { dst:=d',op:=.unOp .not t x,type:=ty,pos:=pos,after:=af,guard:=g } (rB (!b)):=Nd h.1
section
variable {k : IntKind} {p q : Int} [hx : FEq (ev l x) (some (rI k p))] [hy : FEq (ev l y) (some (rI k q))]
include hx hy
theorem Bx:Cd P n c l H { dst:=d',op:=.binOp .eql t x y t',type:=ty,pos:=pos,after:=af,guard:=g } (rv (.bool (decide (p=q)))):=Alu hx.1 hy.1
theorem Ci:Cd P n c l H { dst:=d',op:=.binOp .neq t x y t',type:=ty,pos:=pos,after:=af,guard:=g } (rv (.bool (!decide (p=q)))):=Qa hx.1 hy.1
theorem BI:Cd P n c l H { dst:=d',op:=.binOp .lss t x y t',type:=ty,pos:=pos,after:=af,guard:=g } (rv (.bool (decide (p<q)))):=AnI hx.1 hy.1
theorem Iu:Cd P n c l H { dst:=d',op:=.binOp .leq t x y t',type:=ty,pos:=pos,after:=af,guard:=g } (rv (.bool (decide (p≤q)))):=AbA hx.1 hy.1
theorem C9:Cd P n c l H { dst:=d',op:=.binOp .gtr t x y t',type:=ty,pos:=pos,after:=af,guard:=g } (rv (.bool (decide (q<p)))):=AnJ hx.1 hy.1
theorem DK:Cd P n c l H { dst:=d',op:=.binOp .geq t x y t',type:=ty,pos:=pos,after:=af,guard:=g } (rv (.bool (decide (q≤p)))):=Ajy hx.1 hy.1
theorem Bh (hz:BT k (p+q)=true):Cd P n c l H { dst:=d',op:=.binOp .add t x y t',type:=ty,pos:=pos,after:=af,guard:=g } (rv (.int k (p+q))):=ZL hx.1 hy.1 hz
theorem DV (hz:BT k (p-q)=true):Cd P n c l H { dst:=d',op:=.binOp .sub t x y t',type:=ty,pos:=pos,after:=af,guard:=g } (rv (.int k (p-q))):=AcY hx.1 hy.1 hz
end
section
variable {p q : List UInt8} [hx : FEq (ev l x) (some (rS p))] [hy : FEq (ev l y) (some (rS q))]
include hx hy
theorem BA:Cd P n c l H { dst:=d',op:=.binOp .eql t x y t',type:=ty,pos:=pos,after:=af,guard:=g } (rv (.bool (decide (p=q)))):=Ahe hx.1 hy.1
theorem Dz (hz:BT .i64 ((p.length:Int)+(q.length:Int))=true):Cd P n c l H { dst:=d',op:=.binOp .add t x y t',type:=ty,pos:=pos,after:=af,guard:=g } (rv (.string (B (p++q)))):=Als hx.1 hy.1 hz
end
theorem AW [h:FEq (look l i) (some r)]:RV P n c l H (.tmp i) r:=AiY h.1
theorem CY {fn:Func}{q:Rp}(hr:fn.results = #[.tmp i])(hΦ:Φ q [])[h:FEq (look l i) (some q)]:WK n c (bodyPost P fn (Ret c Φ) .ret) l H:=Ap (Ct hr (AiY h.1)) (List.nil_sublist _) hΦ
theorem VH {fn:Func}{q s:Rp}(hr:fn.results = #[.tmp i,.tmp j])(hΦ:Φ (DW [q,s]) [])[h:FEq (look l i) (some q)][h':FEq (look l j) (some s)]:WK n c (bodyPost P fn (Ret c Φ) .ret) l H:=Ap (LA hr (AiY h.1) (AiY h'.1)) (List.nil_sublist _) hΦ
end
def JP:List Rp→Nat→List Rp→Option (List Rp)
 | cs,0,[]=>some cs
 | [],_,_=>none
 | _::cs,0,n::ns=>match JP cs 0 ns with
  | some r=>some (n::r)
  | none=>none
 | c::cs,k+1,ns=>match JP cs k ns with
  | some r=>some (c::r)
  | none=>none
def Ah1:List Value→Option (List Rp)
 | []=>some []
 | z::zs=>match Ah1 zs with
  | some r=>some (rv z::r)
  | none=>none
def Xb (place:Nat→Option (Nat×Nat)):Option (List Rp)→List (Nat×List Rp)→Option (List Rp)
 | o,[]=>o
 | none,_=>none
 | some cs,(i,ns)::rest=>match place i with
  | some (off,size)=>bif Nat.beq ns.length size then Xb place (JP cs off ns) rest else none
  | none=>none
theorem W8:∀{cs:List Rp} {off:Nat} {n:Rp} {ns out:List Rp},JP cs off (n::ns)=some out→JP (cs.set off n) (off+1) ns=some out
 | [],0,n,ns,out,h=>by simp[JP] at h
 | [],_+1,n,ns,out,h=>by simp[JP] at h
 | c::cs,0,n,ns,out,h=>by simpa[JP] using h
 | c::cs,k+1,n,ns,out,h=>by
  unfold JP at h
  cases hq:JP cs k (n::ns) with
  | none=>rw[hq] at h;cases h
  | some r=>
   rw[hq] at h;cases h;rw[List.set_cons_succ,JP,W8 hq]
theorem XR:∀{cs:List Rp} {off:Nat} {ns out:List Rp},JP cs off ns=some out→off+ns.length≤cs.length
 | cs,0,[],out,h=>by simp
 | [],0,n::ns,out,h=>by simp[JP] at h
 | [],_+1,ns,out,h=>by simp[JP] at h
 | c::cs,0,n::ns,out,h=>by
  unfold JP at h
  cases hq:JP cs 0 ns with
  | none=>rw[hq] at h;cases h
  | some r=>have:=XR hq;simp at this ⊢;omega
 | c::cs,k+1,ns,out,h=>by
  unfold JP at h
  cases hq:JP cs k ns with
  | none=>rw[hq] at h;cases h
  | some r=>have:=XR hq;simp at this ⊢;omega
theorem B9.setv {Z:Fz}{n:Rp}{u:Value}(hn:n.p Z u):∀{cs:List Rp} {vs:List Value} {i:Nat},B9 Z cs vs→B9 Z (cs.set i n) (vs.set i u)
 | [],[],_,h=>trivial
 | c::cs,v::vs,0,⟨h1,h2⟩=>⟨hn,h2⟩
 | c::cs,v::vs,i+1,⟨h1,h2⟩=>⟨h1,B9.setv hn h2⟩
theorem Z8:∀{cs:List Rp} {off:Nat} {out:List Rp},JP cs off []=some out→out=cs
 | cs,0,out,h=>by simp[JP] at h;exact h.symm
 | [],_+1,out,h=>by simp[JP] at h
 | c::cs,k+1,out,h=>by
  unfold JP at h
  cases hq:JP cs k [] with
  | none=>rw[hq] at h;cases h
  | some r=>rw[hq] at h;cases h;rw[Z8 hq]
theorem Aa7 {Z:Fz}{off:Nat}:∀{us:List Value} {ns:List Rp} {k:Nat} {A:Array Value} {cs out:List Rp},B9 Z ns us→B9 Z cs A.toList→JP cs (off+k) ns=some out→
  B9 Z out ((us.zipIdx k).foldl (λA p=>A.setIfInBounds (off+p.2) p.1) A).toList
 | [],[],k,A,cs,out,_,hc,ho=>by rw[Z8 ho];simpa using hc
 | u::us,n::ns,k,A,cs,out,⟨h1,h2⟩,hc,ho=>by
  rw[List.zipIdx_cons,List.foldl_cons];refine Aa7 (k:=k+1) (cs:=cs.set (off+k) n) h2 ?_ (W8 ho);rw[Array.toList_setIfInBounds];exact B9.setv h1 hc
theorem B9.len2 {Z:Fz}:∀{cs:List Rp} {vs:List Value},B9 Z cs vs→cs.length=vs.length
 | [],[],_=>rfl
 | c::cs,v::vs,⟨_,h⟩=>by simp[B9.len2 h]
def AlS (Z:Fz):List (Nat×List Rp)→List (Nat×Value)→Prop
 | [],[]=>True
 | p::ps,q::qs=>p.1=q.1∧B9 Z p.2 q.2.cells.toList∧AlS Z ps qs
 | _,_=>False
variable{place:Nat→Option (Nat×Nat)}
theorem Vt:∀{ps:List (Nat×List Rp)},Xb place none ps=none
 | []=>rfl
 | _::_=>rfl
theorem Ad4 {Z:Fz}{place:Nat→Option (Nat×Nat)}:∀{ps:List (Nat×List Rp)} {qs:List (Nat×Value)} {A:Array Value} {cs out:List Rp},AlS Z ps qs→B9 Z cs A.toList→Xb place (some cs) ps=some out→
  ∃B,Instr.fill place A qs=some B∧B9 Z out B.toList
 | [],[],A,cs,out,_,hc,h=>by cases h;exact⟨A,rfl,hc⟩
 | (i,ns)::ps,(j,v)::qs,A,cs,out,⟨e,h1,h2⟩,hc,h=>by
  replace e:i=j:=e;subst e;unfold Xb at h
  cases hp:place i with
  | none=>rw[hp] at h;cases h
  | some p=>
   obtain⟨off,size⟩:=p;simp only[hp] at h
   cases hb:Nat.beq ns.length size with
   | false=>rw[hb] at h;cases h
   | true=>
    rw[hb,Ap1] at h
    cases hq:JP cs off ns with
    | none=>rw[hq,Vt] at h;cases h
    | some cs2=>
     rw[hq] at h;have hl:=B9.len2 h1;replace hl:ns.length=v.cells.size:=by simpa using hl
     have hs:v.cells.size=size:=by rw[← hl];exact Nat.eq_of_beq_eq_true hb
     have hle:=XR hq;have hlc:=B9.len2 hc;have hf:=Aa7 (off:=off) (k:=0) (A:=A) h1 hc hq;unfold Instr.fill;simp only[hp];rw[ApP (by simp at hlc ⊢;exact⟨hs,by omega⟩)];refine Ad4 h2 ?_ h;have:(v.cells.zipIdx.foldl (λcs x=>match x with | (c,j)=>cs.setIfInBounds (off+j) c) A)=(v.cells.toList.zipIdx 0).foldl (λA p=>A.setIfInBounds (off+p.2) p.1) A:=by
      rw[← Array.foldl_toList,Array.toList_zipIdx]
     rw[this];exact hf
theorem Adj {Z:Fz}:∀{zs:List Value} {cs:List Rp},Ah1 zs=some cs→B9 Z cs zs
 | [],_,h=>by cases h;trivial
 | z::zs,cs,h=>by
  unfold Ah1 at h
  cases hq:Ah1 zs with
  | none=>rw[hq] at h;cases h
  | some r=>rw[hq] at h;cases h;exact⟨rfl,Adj hq⟩
theorem Afy {o:Option (List Rp)}{ps:List (Nat×List Rp)}{out:List Rp}(h:Xb place o ps=some out):∃cs,o=some cs:=by
 cases o with
 | none=>rw[Vt] at h;cases h
 | some cs=>exact⟨cs,rfl⟩
variable{css:List (List Rp)}
section
variable {P : Program} {n : Nat} {c : Cx} {l : Fr} {H : List Ent} {d : Option Nat} {t ty : TypeId} {pos : String} {af : Array Edge} {g : Option (Nat × Bool)}
theorem Ana {Z:Fz}{w:World}(hw:St c H Z w):∀{ps:List (Nat×Operand)} {rs:List Rp} {css:List (List Rp)} {a:Act},B9 Z rs (ps.map λp=>a.eval p.2)→Jo H rs css→AlS Z ((ps.map Prod.fst).zip css) (ps.map λp=>(p.1,a.eval p.2))
 | [],[],[],_,_,_=>trivial
 | p::ps,r::rs,cs::css,a,⟨h1,h2⟩,⟨h3,h4⟩=>⟨rfl,h3 c Z w _ hw h1,Ana hw h2 h4⟩
theorem CD {zs:List Value}{ps:Array (Nat×Operand)}{out:List Rp}(hb:∀parts,P.built t parts=Instr.fill place zs.toArray parts)
  (hv:Ph l (ps.toList.map Prod.snd)=some rs) (hc:Jo H rs css) (ho:Xb place (Ah1 zs) ((ps.toList.map Prod.fst).zip css)=some out) :
  Cd P n c l H { dst:=d,op:=.build t ps,type:=ty,pos:=pos,after:=af,guard:=g } (Cz out):=λa w Z ha hw=>by
 obtain⟨cs0,h0⟩:=Afy ho;rw[h0] at ho;have h1:=H6 ha hv;rw[Aqo] at h1;obtain⟨B,h2,h3⟩:=Ad4 (A:=zs.toArray) (Ana hw h1 hc) (by simpa using Adj h0) ho;have h4:P.built t (ps.map λp=>(p.1,a.eval p.2)).toList=some B:=by rw[hb];simpa using h2
 have:=run_build w t (ps.map λp=>(p.1,a.eval p.2)) _ h4;exact⟨.agg B,⟨B.toList,by simp,h3⟩,by simp[execOp,this]⟩
end
theorem cA {cs:List Rp}:Cel H (Cz cs) cs:=Cel.agg (Mr.refl _)
theorem cO {r:Rp}(h:r.one=true):Cel H r [r]:=Cel.one h (Up.refl _)
theorem cN:Jo H [] []:=trivial
theorem cCA {cs:List Rp}(t:Jo H rs css):Jo H (Cz cs::rs) (cs::css):=⟨cA,t⟩
theorem Eo {r:Rp}(h:r.one=true)(t:Jo H rs css):Jo H (r::rs) ([r]::css):=⟨cO h,t⟩
abbrev AmX:=TAg.mk Tryz.isAgg108
abbrev AmW:=TAg.mk Tryz.isAgg111
abbrev AmV:=TAg.mk Tryz.isAgg118
abbrev AmU:=TAg.mk Tryz.isAgg137
abbrev AmT:=TAg.mk TZ
abbrev AmS:=TAg.mk YS
abbrev AoR:=TAg.mk Ka
abbrev AoQ:=TAg.mk AaX
abbrev AoP:=TAg.mk Tryz.isAgg24
abbrev AoO:=TAg.mk Aeh
abbrev AoN:=TAg.mk Agb
abbrev AoM:=TAg.mk N0
abbrev AoL:=TAg.mk Tryz.isAgg29
abbrev fi3:=TAg.mk Qy
abbrev AoK:=TAg.mk Tryz.isAgg31
abbrev AoJ:=TAg.mk Aga
abbrev AoI:=TAg.mk Aeg
abbrev fi4:=TAg.mk ya4
abbrev AoH:=TAg.mk Q0
abbrev AoG:=TAg.mk Lz
abbrev fi5:=TAg.mk Tryz.isAgg5
abbrev AoF:=TAg.mk AfZ
abbrev AoE:=TAg.mk Nz
abbrev AoD:=TAg.mk Tryz.isAgg65
abbrev AoC:=TAg.mk AfY
abbrev AoB:=TAg.mk Tryz.isAgg73
abbrev AoA:=TAg.mk Tryz.isAgg76
abbrev Ao9:=TAg.mk AfX
abbrev Ao8:=TAg.mk Tryz.isAgg80
abbrev Ao7:=TAg.mk Tryz.isAgg82
abbrev Ao6:=TAg.mk Tryz.isAgg88
abbrev fi9:=TAg.mk IK
abbrev Ao5:=TAg.mk IL
abbrev AmR:=TSz.mk Tryz.sizeOf108
abbrev AmQ:=TSz.mk Acw
abbrev AmP:=TSz.mk Tryz.sizeOf118
abbrev AmO:=TSz.mk MZ
abbrev AmN:=TSz.mk Tryz.sizeOf147
abbrev AmM:=TSz.mk Po
abbrev Ao4:=TSz.mk Ge
abbrev Ao3:=TSz.mk VB
abbrev Ao2:=TSz.mk YK
abbrev Ao1:=TSz.mk LD
abbrev Ao0:=TSz.mk AdR
abbrev Aoz:=TSz.mk Nl
abbrev Aoy:=TSz.mk Tryz.sizeOf29
abbrev fs3:=TSz.mk K9
abbrev Aox:=TSz.mk Tryz.sizeOf31
abbrev Aow:=TSz.mk AiA
abbrev Aov:=TSz.mk AdQ
abbrev fs4:=TSz.mk TT
abbrev Aou:=TSz.mk EW
abbrev Aot:=TSz.mk VA
abbrev fs5:=TSz.mk ys5
abbrev Aos:=TSz.mk AdP
abbrev Aor:=TSz.mk Nk
abbrev Aoq:=TSz.mk Ai9
abbrev Aop:=TSz.mk Ai8
abbrev Aoo:=TSz.mk AfO
abbrev Aon:=TSz.mk PG
abbrev Aom:=TSz.mk Mx
abbrev Aol:=TSz.mk Tryz.sizeOf80
abbrev Aok:=TSz.mk JZ
abbrev Aoj:=TSz.mk Nj
abbrev fs9:=TSz.mk Ew
abbrev Aoi:=TSz.mk Dq
abbrev AmL:=TUn.mk Tryz.underlying110
abbrev AmK:=TUn.mk Tryz.underlying113
abbrev AmJ:=TUn.mk Tryz.underlying120
abbrev AmI:=TUn.mk Acu
abbrev AmH:=TUn.mk Pn
abbrev AmG:=TUn.mk YI
abbrev AmF:=TUn.mk HB
abbrev AmE:=TUn.mk YG
abbrev Aoh:=TUn.mk Dm
abbrev Aog:=TUn.mk R1
abbrev Aof:=TUn.mk Ai7
abbrev Aoe:=TUn.mk Mw
abbrev Aod:=TUn.mk Tp
abbrev Aoc:=TUn.mk Nw
abbrev Aob:=TUn.mk Tryz.underlying29
abbrev Aoa:=TUn.mk Nv
abbrev AnZ:=TUn.mk Mv
abbrev AnY:=TUn.mk Xo
abbrev AnX:=TUn.mk R0
abbrev AnW:=TUn.mk Rz
abbrev AnV:=TUn.mk E1
abbrev AnU:=TUn.mk Mu
abbrev AnT:=TUn.mk To
abbrev AnS:=TUn.mk Xn
abbrev AnR:=TUn.mk TS
abbrev AnQ:=TUn.mk AaT
abbrev AnP:=TUn.mk PF
abbrev fu9:=TUn.mk Lb
abbrev AnO:=TUn.mk J0
attribute [instance] AmX AmW AmV AmU AmT AmS AoR AoQ AoP AoO AoN AoM AoL fi3 AoK AoJ AoI fi4 AoH AoG fi5 AoF AoE AoD AoC AoB AoA Ao9 Ao8 Ao7 Ao6 fi9 Ao5 AmR AmQ AmP AmO AmN AmM Ao4 Ao3 Ao2 Ao1 Ao0 Aoz Aoy fs3 Aox Aow Aov fs4 Aou Aot fs5 Aos Aor Aoq Aop Aoo Aon Aom Aol Aok Aoj fs9 Aoi AmL AmK AmJ AmI AmH AmG AmF AmE Aoh Aog Aof Aoe Aod Aoc Aob Aoa AnZ AnY AnX AnW AnV AnU AnT AnS AnR AnQ AnP fu9 AnO
instance:TB Tryz.prog:=⟨[(108,_),(111,_),(118,_),(137,_),(147,_),(148,_),(22,_),(23,_),(24,_),(26,_),(27,_),(28,_),(29,_),(3,_),(31,_),(33,_),(37,_),(4,_),(44,_),(48,_),(5,_),(50,_),(53,_),(65,_),(67,_),(73,_),(76,_),(78,_),(80,_),(82,_),(88,_),(9,_),(90,_)],List.forall_mem_cons.2 ⟨Tryz.sizeOf108,List.forall_mem_cons.2 ⟨Acw,List.forall_mem_cons.2 ⟨Tryz.sizeOf118,List.forall_mem_cons.2 ⟨MZ,List.forall_mem_cons.2 ⟨Tryz.sizeOf147,List.forall_mem_cons.2 ⟨Po,List.forall_mem_cons.2 ⟨Ge,List.forall_mem_cons.2 ⟨VB,List.forall_mem_cons.2 ⟨YK,List.forall_mem_cons.2 ⟨LD,List.forall_mem_cons.2 ⟨AdR,List.forall_mem_cons.2 ⟨Nl,List.forall_mem_cons.2 ⟨Tryz.sizeOf29,List.forall_mem_cons.2 ⟨K9,List.forall_mem_cons.2 ⟨Tryz.sizeOf31,List.forall_mem_cons.2 ⟨AiA,List.forall_mem_cons.2 ⟨AdQ,List.forall_mem_cons.2 ⟨TT,List.forall_mem_cons.2 ⟨EW,List.forall_mem_cons.2 ⟨VA,List.forall_mem_cons.2 ⟨ys5,List.forall_mem_cons.2 ⟨AdP,List.forall_mem_cons.2 ⟨Nk,List.forall_mem_cons.2 ⟨Ai9,List.forall_mem_cons.2 ⟨Ai8,List.forall_mem_cons.2 ⟨AfO,List.forall_mem_cons.2 ⟨PG,List.forall_mem_cons.2 ⟨Mx,List.forall_mem_cons.2 ⟨Tryz.sizeOf80,List.forall_mem_cons.2 ⟨JZ,List.forall_mem_cons.2 ⟨Nj,List.forall_mem_cons.2 ⟨Ew,List.forall_mem_cons.2 ⟨Dq,List.forall_mem_nil _⟩⟩⟩⟩⟩⟩⟩⟩⟩⟩⟩⟩⟩⟩⟩⟩⟩⟩⟩⟩⟩⟩⟩⟩⟩⟩⟩⟩⟩⟩⟩⟩⟩⟩
end Go.Proofs.YtphnhpcjnmmhiaaGreatDoor.Q
namespace Go.Proofs
open Go.Shelf
def Tryz.laysM171_ren:Go.Shelf.Ren:=⟨fun | 171=>145 | 243=>170 | 246=>197 | 283=>222 | 284=>223 | 285=>224 | 286=>225 | 129=>185 | 317=>235 | 318=>236 | 319=>237 | 320=>238 | 337=>242 | 338=>243 | n=>n,fun | 3=>3 | 9=>9 | 2=>2 | 4=>4 | 171=>247 | 0=>0 | 53=>225 | 37=>148 | 5=>5 | 173=>249 | 212=>263 | 51=>223 | 20=>20 | 213=>264 | 46=>199 | 232=>273 | 233=>274 | n=>n,fun | 17=>3 | 18=>6 | 19=>7 | n=>n⟩
theorem Tryz.laysM171:Go.Proofs.LaysM.n171 Tryz.prog Tryz.laysM171_ren:={
 mixed:=by kernel_rfl
 f129:=Tryz.func185.trans (congrArg some (by kernel_rfl))
 f171:=Tryz.func145.trans (congrArg some (by kernel_rfl))
 f243:=Tryz.func170.trans (congrArg some (by kernel_rfl))
 f246:=Tryz.func197.trans (congrArg some (by kernel_rfl))
 f283:=Tryz.func222.trans (congrArg some (by kernel_rfl))
 f284:=Tryz.func223.trans (congrArg some (by kernel_rfl))
 f285:=Tryz.func224.trans (congrArg some (by kernel_rfl))
 f286:=Tryz.func225.trans (congrArg some (by kernel_rfl))
 f317:=Tryz.func235.trans (congrArg some (by kernel_rfl))
 f318:=Tryz.func236.trans (congrArg some (by kernel_rfl))
 f319:=Tryz.func237.trans (congrArg some (by kernel_rfl))
 f320:=Tryz.func238.trans (congrArg some (by kernel_rfl))
 f337:=Tryz.func242.trans (congrArg some (by kernel_rfl))
 f338:=Tryz.func243.trans (congrArg some (by kernel_rfl))
 t0:=Tryz.underlying0
 a0:=Tryz.isAgg0
 z0:=Tryz.sizeOf0
 v0:=Tryz.zeroValue0
 t2:=Tryz.underlying2
 a2:=Tryz.isAgg2
 z2:=Tryz.sizeOf2
 v2:=Tryz.zeroValue2
 t3:=Tryz.underlying3
 a3:=Tryz.isAgg3
 z3:=Tryz.sizeOf3
 v3:=Tryz.zeroValue3
 t4:=Tryz.underlying4
 a4:=Tryz.isAgg4
 z4:=Tryz.sizeOf4
 v4:=Tryz.zeroValue4
 t5:=Tryz.underlying5
 a5:=Tryz.isAgg5
 z5:=Tryz.sizeOf5
 v5:=Tryz.zeroValue5
 t9:=Tryz.underlying9
 a9:=Tryz.isAgg9
 z9:=Tryz.sizeOf9
 v9:=Tryz.zeroValue9
 t20:=Tryz.underlying20
 a20:=Tryz.isAgg20
 z20:=Tryz.sizeOf20
 v20:=Tryz.zeroValue20
 t37:=Tryz.underlying148
 a37:=Tryz.isAgg148
 z37:=Tryz.sizeOf148
 v37:=Tryz.zeroValue148
 t46:=Tryz.underlying199
 a46:=Tryz.isAgg199
 z46:=Tryz.sizeOf199
 v46:=Tryz.zeroValue199
 t51:=Tryz.underlying223
 a51:=Tryz.isAgg223
 z51:=Tryz.sizeOf223
 v51:=Tryz.zeroValue223
 t53:=Tryz.underlying225
 a53:=Tryz.isAgg225
 z53:=Tryz.sizeOf225
 v53:=Tryz.zeroValue225
 t171:=Tryz.underlying247
 a171:=Tryz.isAgg247
 z171:=Tryz.sizeOf247
 v171:=Tryz.zeroValue247
 t173:=Tryz.underlying249
 a173:=Tryz.isAgg249
 z173:=Tryz.sizeOf249
 v173:=Tryz.zeroValue249
 t212:=Tryz.underlying263
 a212:=Tryz.isAgg263
 z212:=Tryz.sizeOf263
 v212:=Tryz.zeroValue263
 t213:=Tryz.underlying264
 a213:=Tryz.isAgg264
 z213:=Tryz.sizeOf264
 t232:=Tryz.underlying273
 a232:=Tryz.isAgg273
 z232:=Tryz.sizeOf273
 v232:=Tryz.zeroValue273
 t233:=Tryz.underlying274
 a233:=Tryz.isAgg274
 z233:=Tryz.sizeOf274
 v233:=Tryz.zeroValue274
 g17:=by kernel_rfl
 g18:=by kernel_rfl
 g19:=by kernel_rfl
 i0:=by kernel_rfl
 i2:=by kernel_rfl
 i3:=by kernel_rfl
 i4:=by kernel_rfl
 i5:=by kernel_rfl
 i9:=by kernel_rfl
 i20:=by kernel_rfl
 i37:=by kernel_rfl
 i46:=by kernel_rfl
 i51:=by kernel_rfl
 i53:=by kernel_rfl
 i171:=by kernel_rfl
 i173:=by kernel_rfl
 i212:=by kernel_rfl
 i232:=by kernel_rfl
 i233:=by kernel_rfl
 m17:=by kernel_rfl
 m18:=by kernel_rfl
 m19:=by kernel_rfl }
open Go.RowKit Go.Sort Go.Lib in
theorem Tryz.strconv_Itoa (n : Int) (h0 : -9223372036854775808 ≤ n) (h1 : n ≤ 9223372036854775807) (w : World) (htab : Lib.TabIs Tryz.prog w "internal/strconv.uint64pow10" .u64 Lib.pow10Tab) :
  Calls Tryz.prog 145 #[.int .i64 n] w λe w'=>e = .returned (.string ⟨(Lib.itoa n).toArray⟩)∧∃k os,w'=grow (w.drewN k) os:=Any.strconv_Itoa Tryz.laysM171 n h0 h1 w htab
def Tryz.laysC172_ren:Go.Shelf.Ren:=⟨fun | 172=>165 | 244=>193 | 245=>194 | 247=>216 | 279=>217 | 280=>218 | 281=>219 | 282=>220 | 287=>230 | 316=>231 | 171=>145 | 205=>232 | 321=>240 | 322=>241 | 243=>170 | 246=>197 | 283=>222 | 284=>223 | 285=>224 | 286=>225 | 129=>185 | 317=>235 | 318=>236 | 319=>237 | 320=>238 | 337=>242 | 338=>243 | n=>n,fun | 9=>9 | 3=>3 | 75=>185 | 76=>186 | 4=>4 | 5=>5 | 167=>241 | 37=>148 | 0=>0 | 85=>242 | 2=>2 | 168=>244 | 53=>225 | 175=>258 | 46=>199 | 210=>261 | 127=>193 | 145=>268 | 143=>266 | 21=>21 | 171=>247 | 173=>249 | 212=>263 | 51=>223 | 20=>20 | 213=>264 | 232=>273 | 233=>274 | 80=>152 | n=>n,fun | 15=>1 | 16=>2 | 17=>3 | 18=>6 | 19=>7 | n=>n⟩
theorem Tryz.laysC172:Go.Proofs.LaysC.n172 Tryz.prog Tryz.laysC172_ren:={
 mixed:=by kernel_rfl
 f129:=Tryz.func185.trans (congrArg some (by kernel_rfl))
 f171:=Tryz.func145.trans (congrArg some (by kernel_rfl))
 f172:=Tryz.func165.trans (congrArg some (by kernel_rfl))
 f205:=Tryz.func232.trans (congrArg some (by kernel_rfl))
 f243:=Tryz.func170.trans (congrArg some (by kernel_rfl))
 f244:=Tryz.func193.trans (congrArg some (by kernel_rfl))
 f245:=Tryz.func194.trans (congrArg some (by kernel_rfl))
 f246:=Tryz.func197.trans (congrArg some (by kernel_rfl))
 f247:=Tryz.func216.trans (congrArg some (by kernel_rfl))
 f279:=Tryz.func217.trans (congrArg some (by kernel_rfl))
 f280:=Tryz.func218.trans (congrArg some (by kernel_rfl))
 f281:=Tryz.func219.trans (congrArg some (by kernel_rfl))
 f282:=Tryz.func220.trans (congrArg some (by kernel_rfl))
 f283:=Tryz.func222.trans (congrArg some (by kernel_rfl))
 f284:=Tryz.func223.trans (congrArg some (by kernel_rfl))
 f285:=Tryz.func224.trans (congrArg some (by kernel_rfl))
 f286:=Tryz.func225.trans (congrArg some (by kernel_rfl))
 f287:=Tryz.func230.trans (congrArg some (by kernel_rfl))
 f316:=Tryz.func231.trans (congrArg some (by kernel_rfl))
 f317:=Tryz.func235.trans (congrArg some (by kernel_rfl))
 f318:=Tryz.func236.trans (congrArg some (by kernel_rfl))
 f319:=Tryz.func237.trans (congrArg some (by kernel_rfl))
 f320:=Tryz.func238.trans (congrArg some (by kernel_rfl))
 f321:=Tryz.func240.trans (congrArg some (by kernel_rfl))
 f322:=Tryz.func241.trans (congrArg some (by kernel_rfl))
 f337:=Tryz.func242.trans (congrArg some (by kernel_rfl))
 f338:=Tryz.func243.trans (congrArg some (by kernel_rfl))
 t0:=Tryz.underlying0
 a0:=Tryz.isAgg0
 z0:=Tryz.sizeOf0
 v0:=Tryz.zeroValue0
 t2:=Tryz.underlying2
 a2:=Tryz.isAgg2
 z2:=Tryz.sizeOf2
 v2:=Tryz.zeroValue2
 t3:=Tryz.underlying3
 a3:=Tryz.isAgg3
 z3:=Tryz.sizeOf3
 v3:=Tryz.zeroValue3
 t4:=Tryz.underlying4
 a4:=Tryz.isAgg4
 z4:=Tryz.sizeOf4
 v4:=Tryz.zeroValue4
 t5:=Tryz.underlying5
 a5:=Tryz.isAgg5
 z5:=Tryz.sizeOf5
 v5:=Tryz.zeroValue5
 t9:=Tryz.underlying9
 a9:=Tryz.isAgg9
 z9:=Tryz.sizeOf9
 v9:=Tryz.zeroValue9
 t20:=Tryz.underlying20
 a20:=Tryz.isAgg20
 z20:=Tryz.sizeOf20
 v20:=Tryz.zeroValue20
 t21:=Tryz.underlying21
 a21:=Tryz.isAgg21
 z21:=Tryz.sizeOf21
 v21:=Tryz.zeroValue21
 t37:=Tryz.underlying148
 a37:=Tryz.isAgg148
 z37:=Tryz.sizeOf148
 v37:=Tryz.zeroValue148
 t46:=Tryz.underlying199
 a46:=Tryz.isAgg199
 z46:=Tryz.sizeOf199
 v46:=Tryz.zeroValue199
 t51:=Tryz.underlying223
 a51:=Tryz.isAgg223
 z51:=Tryz.sizeOf223
 v51:=Tryz.zeroValue223
 t53:=Tryz.underlying225
 a53:=Tryz.isAgg225
 z53:=Tryz.sizeOf225
 v53:=Tryz.zeroValue225
 t75:=Tryz.underlying185
 a75:=Tryz.isAgg185
 z75:=Tryz.sizeOf185
 v75:=Tryz.zeroValue185
 t76:=Tryz.underlying186
 a76:=Tryz.isAgg186
 z76:=Tryz.sizeOf186
 v76:=Tryz.zeroValue186
 t85:=Tryz.underlying242
 a85:=Tryz.isAgg242
 z85:=Tryz.sizeOf242
 v85:=Tryz.zeroValue242
 t127:=Tryz.underlying193
 a127:=Tryz.isAgg193
 z127:=Tryz.sizeOf193
 v127:=Tryz.zeroValue193
 t143:=Tryz.underlying266
 a143:=Tryz.isAgg266
 z143:=Tryz.sizeOf266
 v143:=Tryz.zeroValue266
 t145:=Tryz.underlying268
 a145:=Tryz.isAgg268
 z145:=Tryz.sizeOf268
 v145:=Tryz.zeroValue268
 t167:=Tryz.underlying241
 a167:=Tryz.isAgg241
 z167:=Tryz.sizeOf241
 v167:=Tryz.zeroValue241
 t168:=Tryz.underlying244
 a168:=Tryz.isAgg244
 z168:=Tryz.sizeOf244
 v168:=Tryz.zeroValue244
 t171:=Tryz.underlying247
 a171:=Tryz.isAgg247
 z171:=Tryz.sizeOf247
 v171:=Tryz.zeroValue247
 t173:=Tryz.underlying249
 a173:=Tryz.isAgg249
 z173:=Tryz.sizeOf249
 v173:=Tryz.zeroValue249
 t175:=Tryz.underlying258
 a175:=Tryz.isAgg258
 z175:=Tryz.sizeOf258
 v175:=Tryz.zeroValue258
 t210:=Tryz.underlying261
 a210:=Tryz.isAgg261
 z210:=Tryz.sizeOf261
 v210:=Tryz.zeroValue261
 t212:=Tryz.underlying263
 a212:=Tryz.isAgg263
 z212:=Tryz.sizeOf263
 v212:=Tryz.zeroValue263
 t213:=Tryz.underlying264
 a213:=Tryz.isAgg264
 z213:=Tryz.sizeOf264
 t232:=Tryz.underlying273
 a232:=Tryz.isAgg273
 z232:=Tryz.sizeOf273
 v232:=Tryz.zeroValue273
 t233:=Tryz.underlying274
 a233:=Tryz.isAgg274
 z233:=Tryz.sizeOf274
 v233:=Tryz.zeroValue274
 g15:=by kernel_rfl
 g16:=by kernel_rfl
 g17:=by kernel_rfl
 g18:=by kernel_rfl
 g19:=by kernel_rfl
 t80:=Tryz.underlying152
 a80:=Tryz.isAgg152
 z80:=Tryz.sizeOf152
 v80:=Tryz.zeroValue152
 i0:=by kernel_rfl
 i2:=by kernel_rfl
 i3:=by kernel_rfl
 i4:=by kernel_rfl
 i5:=by kernel_rfl
 i9:=by kernel_rfl
 i20:=by kernel_rfl
 i21:=by kernel_rfl
 i37:=by kernel_rfl
 i46:=by kernel_rfl
 i51:=by kernel_rfl
 i53:=by kernel_rfl
 i75:=by kernel_rfl
 i76:=by kernel_rfl
 i80:=by kernel_rfl
 i85:=by kernel_rfl
 i127:=by kernel_rfl
 i143:=by kernel_rfl
 i145:=by kernel_rfl
 i167:=by kernel_rfl
 i168:=by kernel_rfl
 i171:=by kernel_rfl
 i173:=by kernel_rfl
 i175:=by kernel_rfl
 i210:=by kernel_rfl
 i212:=by kernel_rfl
 i232:=by kernel_rfl
 i233:=by kernel_rfl
 m15:=by kernel_rfl
 m16:=by kernel_rfl
 m17:=by kernel_rfl
 m18:=by kernel_rfl
 m19:=by kernel_rfl
 c0:=by kernel_rfl
 c2:=by kernel_rfl
 c3:=by kernel_rfl
 c4:=by kernel_rfl
 c5:=by kernel_rfl
 c9:=by kernel_rfl
 c20:=by kernel_rfl
 c21:=by kernel_rfl
 c37:=by kernel_rfl
 c46:=by kernel_rfl
 c51:=by kernel_rfl
 c53:=by kernel_rfl
 c75:=by kernel_rfl
 c76:=by kernel_rfl
 c80:=by kernel_rfl
 c85:=by kernel_rfl
 c127:=by kernel_rfl
 c143:=by kernel_rfl
 c145:=by kernel_rfl
 c167:=by kernel_rfl
 c168:=by kernel_rfl
 c171:=by kernel_rfl
 c173:=by kernel_rfl
 c175:=by kernel_rfl
 c210:=by kernel_rfl
 c212:=by kernel_rfl
 c213:=by kernel_rfl
 c232:=by kernel_rfl
 c233:=by kernel_rfl }
open Go.RowKit in
theorem Tryz.strconv_Atoi_ok (s:ByteArray)(hmax:s.size≤9223372036854775806)(v:Int)(h:Lib.atoiAll s.data.toList = .ok v)(w:World) :
  Calls Tryz.prog 165 #[.string s] w λe w'=>e = .returned (.tuple #[.int .i64 v,.nilIface])∧(w'=w∨∃t,w'=Lib.bytesWorld w 5 t):=Any.strconv_Atoi_ok Tryz.laysC172 s hmax v h w
open Go.RowKit in
theorem Tryz.strconv_Atoi_range_var (s : ByteArray) (hlim : s.size ≤ 281474976710656) (h : Lib.atoiAll s.data.toList = .range) (tp : TypeId) (p : Value) (w : World) (hvar : w.var? Tryz.prog "strconv.ErrRange" = some #[.iface tp p]) :
  Calls Tryz.prog 165 #[.string s] w λe w'=>∃N,e = .returned (.tuple #[.int .i64 (Lib.atoiSat s.data.toList),.iface 244 (.pointer (some ⟨N,0,none⟩))])∧w.heap.size≤N∧w'.heap[N]? =some (.cells #[.string ⟨#[65,116,111,105]⟩,.string s,.iface tp p] 261 (0,0))∧Below w.heap.size w w':=Any.strconv_Atoi_range_var Tryz.laysC172 s hlim h tp p w hvar
end Go.Proofs
namespace Go.Proofs.YtphnhpcjnmmhiaaGreatDoor
open Go Go.RowKit
set_option linter.unusedVariables false
noncomputable def QS:Nat:=Nat.max (Nat.max 3 2) 7+1
def Ak1:List Int:=Lib.deBruijn64tab.map Int.ofNat
structure Y5 (w:World):Prop where
 pow : Lib.TabIs Tryz.prog w "internal/strconv.uint64pow10" .u64 Lib.pow10Tab
 tz : Lib.TabIs Tryz.prog w "math/bits.deBruijn64tab" .u8 Ak1
 rng : ∃ tp p, w.var? Tryz.prog "strconv.ErrRange" = some #[.iface tp p]
theorem AlL : Tryz.prog.globalNamed "internal/strconv.uint64pow10" = some 3 := by kernel_rfl
theorem AlK : Tryz.prog.globalNamed "strconv.ErrRange" = some 2 := by kernel_rfl
theorem gTz : Tryz.prog.globalNamed "math/bits.deBruijn64tab" = some 7 := by kernel_rfl
theorem Aho:7<QS:=by decide +kernel
theorem AeV:3<QS:=by decide +kernel
theorem AeU:2<QS:=by decide +kernel
theorem Y5.block (w w':World)(h:∀k,k<QS→w'.heap[k]? =w.heap[k]?)(hT:Y5 w):Y5 w':=by
 obtain⟨tp,p,hr⟩:=hT.rng;have hp:=hT.pow;have hz:=hT.tz;unfold Lib.TabIs at hp hz;refine⟨?_,?_,tp,p,?_⟩
 ·unfold Lib.TabIs;unfold World.var? at hp ⊢;rw[AlL] at hp ⊢;simp only[Option.bind_some] at hp ⊢;rw[h _ AeV];exact hp
 ·unfold Lib.TabIs;unfold World.var? at hz ⊢;rw[gTz] at hz ⊢;simp only[Option.bind_some] at hz ⊢;rw[h _ Aho];exact hz
 ·unfold World.var? at hr ⊢;rw[AlK] at hr ⊢;simp only[Option.bind_some] at hr ⊢;rw[h _ AeU];exact hr
def AlX (w:World)(M:List Nat):Prop:=QS≤w.heap.size∧∀k∈M,QS≤k
variable{H:List Ent}
theorem Y5.st {w0 w:World}{M:List Nat}(hT:Y5 w0)(hG:AlX w0 M)(hw:St w0 M H w):Y5 w:=
 Y5.block w0 w (λk hk=>hw.old k (Nat.lt_of_lt_of_le hk hG.1) (λhm=>by have:=hG.2 k hm;omega)) hT
theorem AlX.st {w0 w:World}{M:List Nat}(hG:AlX w0 M)(hw:St w0 M H w):QS≤w.heap.size:=Nat.le_trans hG.1 hw.size
structure Env (w:World):Prop where
 tabs:Y5 w
 size:QS≤w.heap.size
theorem Env.st {w0 w:World}{M:List Nat}{H:List Ent}(hE:Env w0)(hM:∀k∈M,QS≤k)(hw:St w0 M H w):Env w:=
 ⟨hE.tabs.st ⟨hE.size,hM⟩ hw,Nat.le_trans hE.size hw.size⟩
theorem Env.st0 {w0 w:World}(hE:Env w0)(hw:St w0 [] H w):Env w:=hE.st (by simp) hw
theorem Acs (p:List UInt8):(B p).data.toList=p:=by simp[B]
theorem AhB (m:Int)(h0:-9223372036854775808≤m)(h1:m≤9223372036854775807)(w:World)(hE:Env w):Calls Tryz.prog 145 [.int .i64 m].toArray w (Pj w (.string (B (Lib.itoa m)))):=
 (Tryz.strconv_Itoa m h0 h1 w hE.tabs.pow).mono λe w' ⟨he,k,os,hw⟩=>⟨he,by rw[hw];exact St.of_below (Lib.below_grow _ _ (Ap8 _) _ _)⟩
theorem Ako (p:List UInt8)(hp:p.length≤281474976710656)(v:Int)(h:Lib.atoiAll p = .ok v)(w:World):Calls Tryz.prog 165 [.string (B p)].toArray w (Pj w (.tuple #[.int .i64 v,.nilIface])):=
 (Tryz.strconv_Atoi_ok (B p) (by rw[Ie];omega) v (by rw[Acs];exact h) w).mono λe w' ⟨he,hw⟩=>⟨he,by
  rcases hw with rfl | ⟨t,rfl⟩
  ·exact St.refl _ _
  ·exact St.of_below (Joins.below_bytesWorld _ _ _ _ (Ap8 _))⟩
theorem Ack (p:List UInt8)(hp:p.length≤281474976710656)(h:Lib.atoiAll p = .range)(w:World)(hE:Env w) :
  Calls Tryz.prog 165 [.string (B p)].toArray w (Ret w [] (λv H=>∃m t b,v = .tuple #[.int .i64 m,.iface t b]∧H=[])):=by
 obtain⟨tp,q,hr⟩:=hE.tabs.rng;exact(Tryz.strconv_Atoi_range_var (B p) (by rw[Ie];omega) (by rw[Acs];exact h) tp q w hr).mono λe w' ⟨N,he,_,_,hb⟩=>⟨_,_,he,St.of_below hb,_,_,_,rfl,rfl⟩
open Go Go.ChangeShapes Go.WideShapes Go.ChangeAt Go.RowKit Go.WideElems
theorem own:ownKnob Tryz.prog.godebug=none:=by kernel_rfl
theorem AjF:laidOutB Tryz.prog=true:=by kernel_rfl
section
variable {H : Type} {enc : TypeId × Value → H} {P : Program}
theorem Pr (hl:laidOutB P=true){W W':World}(hb:Below W.heap.size W W'){sp:Nat→Bool}:∀{ts:List TypeId} {vs:List Value} {ds:List (DataW H)} {ps:List MemPlace},ts.all (λt=>P.readableRec t&&decide (t<P.types.size))=true→
  DataW.TrodAll enc P W 0 (λ_=>true) true ts vs ds ps→(∀p∈ps,p.block<W.heap.size)→(∀p∈ps,sp p.block=true)→DataW.TrodAll enc P W' 0 sp true ts vs ds ps
 | [],[],[],_,_,h,_,_=>h
 | [],_::_,_,_,_,h,_,_=>h.elim
 | [],[],_::_,_,_,h,_,_=>h.elim
 | _::_,[],_,_,_,h,_,_=>h.elim
 | _::_,_::_,[],_,_,h,_,_=>h.elim
 | t::ts,v::vs,d::ds,ps,ht,⟨p,q,h1,h2,e⟩,hlt,hs=>by
  simp only[List.all_cons,Aps,Apt] at ht;refine⟨p,q,?_,Pr hl hb ht.2 h2 (λx hx=>hlt x (by rw[e];exact List.mem_append_right _ hx)) (λx hx=>hs x (by rw[e];exact List.mem_append_right _ hx)),e⟩;exact Trod_stays hl ht.1.1 ht.1.2 h1 (λx hx=>hb.same (hlt x (by rw[e];exact List.mem_append_left _ hx))) (λx hx=>hs x (by rw[e];exact List.mem_append_left _ hx))
theorem AeH (hl:laidOutB P=true){f:Func}{s:ChangeSpec}{apart fresh handsOn:Bool}{W W':World}{args:Array Value}{ds gs:List (DataW H)}{before:List MemPlace}{tb:TypeId}(hp:f.params.toList.all (λt=>P.readableRec t&&decide (t<P.types.size))=true)
  (hv:s.vars=[]) (hr:f.resultTypes = #[tb]) (hb4:P.underlying tb=some .bool) (hW:DataW.Whole enc P f.params.toList s.vars apart W args.toList ds gs before)
  (h1:(s.fn H (ds++gs)).results=[.lit (.bool true)]) (h2:(s.fn H (ds++gs)).args=ds) (h3:(s.fn H (ds++gs)).vars=[]) (hb:Below W.heap.size W W') :
  s.post enc P f apart fresh handsOn false W args (.bool true) W':=by
 have hlt:∀p∈before,p.block<W.heap.size:=λp hp=>hW.lt p hp;have hW':=hW;obtain⟨p,q,hA,hV,hbf,_,_⟩:=hW';have hq:q=[]:=by
  rw[hv] at hV
  cases gs with
  | nil=>exact hV
  | cons _ _=>exact hV.elim
 subst hq;rw[ApZ] at hbf;subst hbf;refine⟨ds,gs,before,[],before,[],hW,?_,?_,?_,World.keptBut_mono (λp hp=>⟨hp,.inr (.inl hp)⟩) (hb.frame (·∈before)),λh=>by cases h⟩
 ·rw[h1,hr];exact trodAll_mk1 (shut_bool hb4 true)
 ·rw[h2];exact Pr hl hb hp hA hlt (λx hx=>by simpa using hlt x hx)
 ·rw[hv,h3];exact rfl
end
theorem Ach:Tryz.prog.underlying 4=some .bool:=Tryz.underlying4
def UW : List (String × DataW Unit) := [("math/bits.deBruijn32tab", Rows.laid_math_bits_deBruijn32tab), ("math/bits.deBruijn64tab", Rows.laid_math_bits_deBruijn64tab), ("internal/strconv.uint64pow10", Rows.laid_internal_strconv_uint64pow10), ("unicode/utf8.acceptRanges", Rows.laid_unicode_utf8_acceptRanges), ("strconv.ErrRange", Rows.laid_strconv_ErrRange), ("strconv.ErrSyntax", Rows.laid_strconv_ErrSyntax), ("unicode/utf8.first", Rows.laid_unicode_utf8_first)]
theorem AhZ:(Tryz.prog.globals[3]?).map (·.type)=some 263:=by kernel_rfl
theorem AhY:(Tryz.prog.globals[2]?).map (·.type)=some 185:=by kernel_rfl
theorem Af6:Tryz.prog.cellsOf 225=1:=by kernel_rfl
theorem Af7:Tryz.prog.cellsOf 263=20:=by kernel_rfl
theorem AjZ:(Tryz.prog.globals[7]?).map (·.type)=some 274:=by kernel_rfl
theorem Aio:Tryz.prog.cellsOf 5=1:=by kernel_rfl
theorem AaH:Tryz.prog.cellsOf 274=64:=by kernel_rfl
theorem Af8:Tryz.prog.cellsOf 9=1:=by kernel_rfl
theorem Aip:Tryz.prog.cellsOf 268=1:=by kernel_rfl
theorem Ad5 : "*" ++ "errors.errorString" = "*errors.errorString" := by decide
theorem AlM (u : TypeId) (h : Tryz.prog.typeName? 3 u = some "*errors.errorString") : u = 266 :=
 typeName_ptr_named (nm := "errors.errorString") (by rw [Ad5]; kernel_rfl) (by kernel_rfl) (by decide) u (by rw [Ad5]; exact h)
theorem Yt {W:World}{n:String}{g:Nat}{cs:Array Value}(hg:Tryz.prog.globalNamed n=some g)(h:W.var? Tryz.prog n=some cs):g<W.heap.size:=by
 unfold World.var? at h;rw[hg] at h;simp only[Option.bind_some] at h
 cases hh:W.heap[g]? with
 | none=>rw[hh] at h;cases h
 | some o=>exact(Array.getElem?_eq_some_iff.1 hh).1
theorem AlN {W:World}(h:laidMet Tryz.prog UW W):Env W:=by
 have h2:=laidMet.tail h;have hz : Lib.TabIs Tryz.prog W "math/bits.deBruijn64tab" .u8 Ak1 := Lib.tabIs_of_head gTz AjZ Tryz.underlying274 Tryz.underlying5 Aio AaH h2
 have h3:=laidMet.tail h2;have h4:=laidMet.tail h3;have hp : Lib.TabIs Tryz.prog W "internal/strconv.uint64pow10" .u64 Lib.pow10Tab := Lib.tabIs_of_head AlL AhZ Tryz.underlying263 Tryz.underlying225 Af6 Af7 h3
 obtain⟨a,s,hv,_,_,_⟩:=laid_sentinel (laidMet.tail h4) AlK AhY Tryz.underlying185 AlM Tryz.underlying266 Tryz.underlying268 rfl rfl Tryz.underlying9 Aip Af8;refine⟨⟨hp,hz,_,_,hv⟩,?_⟩;have h1:=Yt AlL hp;have h5:=Yt AlK hv;exact Nat.max_lt.2 ⟨Nat.max_lt.2 ⟨h1,h5⟩,Yt gTz hz⟩
noncomputable def OL (os:Os):World:=
 let w0:=World.holding Tryz.prog os ⟨#[],#[],[]⟩
 let put (h:Array Obj) (g:Nat) (cs:Array Value):Array Obj:=h.modify g fun
  | .cells _ t frozen=>.cells cs t frozen
  | o=>o
 let nums (d:DataW Unit):Array Value:=match d with
  | .agg ds=>(ds.map fun | .lit (.int k n)=>Value.int k n | _=>undef).toArray
  | _=>#[]
 let nums2 (d:DataW Unit):Array Value:=match d with
  | .agg ds=>(ds.flatMap fun
   | .agg es=>es.map fun | .lit (.int k n)=>Value.int k n | _=>undef
   | _=>[]).toArray
  | _=>#[]
 let n:=w0.heap.size
 let h1:=put w0.heap 6 (nums Rows.laid_math_bits_deBruijn32tab)
 let h2:=put h1 7 (nums Rows.laid_math_bits_deBruijn64tab)
 let h3:=put h2 3 (nums Rows.laid_internal_strconv_uint64pow10)
 let h4:=put h3 2 #[.iface 266 (.pointer (some ⟨n,0,none⟩))]
 let h5:=put h4 1 #[.iface 266 (.pointer (some ⟨n+1,0,none⟩))]
 let h5a:=put h5 5 (nums2 Rows.laid_unicode_utf8_acceptRanges)
 let h5b:=put h5a 4 (nums Rows.laid_unicode_utf8_first)
 let h6:=h5b.push (.cells #[.string ⟨#[118,97,108,117,101,32,111,117,116,32,111,102,32,114,97,110,103,101]⟩] 268 (0,0))
 let h7:=h6.push (.cells #[.string ⟨#[105,110,118,97,108,105,100,32,115,121,110,116,97,120]⟩] 268 (0,0))
 { w0 with heap:=h7 }
set_option maxRecDepth 100000 in
theorem Ah2 (os:Os)(args:Array Value):laidMet Tryz.prog UW ((OL os).forCall (λ_ _=>0) ⟨#[],args,[]⟩).memory:=
 laidMet_of_run' 8 (by kernel_rfl) (by kernel_rfl)
end Go.Proofs.YtphnhpcjnmmhiaaGreatDoor
namespace Go.Proofs
open Go.Shelf
def Tryz.lays138_ren:Go.Shelf.Ren:=⟨fun | 138=>189 | 195=>207 | 218=>208 | 143=>209 | 219=>191 | 217=>211 | 225=>212 | 224=>213 | 267=>214 | 266=>227 | 314=>228 | n=>n,fun | 9=>9 | 3=>3 | 4=>4 | 5=>5 | 0=>0 | 46=>199 | 146=>254 | 51=>223 | n=>n,fun | 1=>0 | n=>n⟩
theorem Tryz.lays138:Go.Proofs.Lays.n138 Tryz.prog Tryz.lays138_ren:={
 mixed:=by kernel_rfl
 f138:=Tryz.func189.trans (congrArg some (by kernel_rfl))
 f143:=Tryz.func209.trans (congrArg some (by kernel_rfl))
 f195:=Tryz.func207.trans (congrArg some (by kernel_rfl))
 f217:=Tryz.func211.trans (congrArg some (by kernel_rfl))
 f218:=Tryz.func208.trans (congrArg some (by kernel_rfl))
 f219:=Tryz.func191.trans (congrArg some (by kernel_rfl))
 f224:=Tryz.func213.trans (congrArg some (by kernel_rfl))
 f225:=Tryz.func212.trans (congrArg some (by kernel_rfl))
 f266:=Tryz.func227.trans (congrArg some (by kernel_rfl))
 f267:=Tryz.func214.trans (congrArg some (by kernel_rfl))
 f314:=Tryz.func228.trans (congrArg some (by kernel_rfl))
 t0:=Tryz.underlying0
 a0:=Tryz.isAgg0
 z0:=Tryz.sizeOf0
 v0:=Tryz.zeroValue0
 t3:=Tryz.underlying3
 a3:=Tryz.isAgg3
 z3:=Tryz.sizeOf3
 v3:=Tryz.zeroValue3
 t4:=Tryz.underlying4
 a4:=Tryz.isAgg4
 z4:=Tryz.sizeOf4
 v4:=Tryz.zeroValue4
 t5:=Tryz.underlying5
 a5:=Tryz.isAgg5
 z5:=Tryz.sizeOf5
 v5:=Tryz.zeroValue5
 t9:=Tryz.underlying9
 a9:=Tryz.isAgg9
 z9:=Tryz.sizeOf9
 v9:=Tryz.zeroValue9
 t46:=Tryz.underlying199
 a46:=Tryz.isAgg199
 z46:=Tryz.sizeOf199
 v46:=Tryz.zeroValue199
 t51:=Tryz.underlying223
 a51:=Tryz.isAgg223
 z51:=Tryz.sizeOf223
 v51:=Tryz.zeroValue223
 t146:=Tryz.underlying254
 a146:=Tryz.isAgg254
 z146:=Tryz.sizeOf254
 v146:=Tryz.zeroValue254
 g1:=by kernel_rfl }
open Go.RowKit Go.Lib in
theorem Tryz.strings_Count_one (s:ByteArray)(c:UInt8)(w:World) :
  Calls Tryz.prog 189 #[.string s,.string ⟨#[c]⟩] w λe w'=>e = .returned (.int .i64 (Lib.countByte s.data.toList c))∧w'=w:=Any.strings_Count_one Tryz.lays138 s c w
end Go.Proofs
namespace Go.Proofs.YtphnhpcjnmmhiaaGreatDoor.Q
open Go Go.RowKit
set_option linter.unusedVariables false
def GE (Z:Fz):Prop:=∀w,Frz Z w→Env w
theorem GE.mono {Z Z':Fz}(h:Fz.le Z Z')(hg:GE Z):GE Z':=λw hw=>hg w ⟨λb o e=>hw b o (h b o e),λk i b e=>hw.nm k i b (h.nm k i b e)⟩
theorem Fn0.rle {P:Program}{E:Fz→Prop}{f:FuncId}{args:List Rp}{r r':Rp}(h:Fn0 P E f args r)(hr:Hx r r'):Fn0 P E f args r':=λw Z vs hv hs=>
 (h w Z vs hv hs).mono λe w' ⟨q,v,H,Z',he,⟨hq,hH⟩,hp,ht⟩=>⟨r',v,H,Z',he,⟨rfl,hH⟩,hr Z' v (hq▸hp),ht⟩
theorem Hx.tup2 {a b:Value}:Hx (rv (.tuple #[a,b])) (DW [rv a,rv b]):=λZ v h=>⟨[a,b],h,rfl,rfl,trivial⟩
theorem Fn0.of_id {P:Program}{E:Fz→Prop}{f:FuncId}{vs:List Value}{v:Value}(h:∀w,Calls P f vs.toArray w (λe w'=>e = .returned v∧w'=w)):Fn0 P E f (vs.map rv) (rv v):=
 Fn0.of_old λw Z _ _=>(h w).mono λe w' ⟨he,hw⟩=>⟨he,by rw[hw];exact Proofs.YtphnhpcjnmmhiaaGreatDoor.St.refl w []⟩
theorem B9.map_rv {Z:Fz}:∀vs:List Value,B9 Z (vs.map rv) vs
 | []=>trivial
 | v::r=>⟨rfl,B9.map_rv r⟩
theorem Fn0.old {P:Program}{f:FuncId}(vs:List Value){v:Value}(h:Fn0 P (λ_=>True) f (vs.map rv) (rv v))(w:World):Calls P f vs.toArray w (Pj w v):=
 (h w ⟨λ_=>none,λ_ _=>none⟩ vs (B9.map_rv vs) ⟨rfl,rfl,rfl,Ap8 _,λ_ _ _=>rfl,by simp,by simp,.nil,⟨by simp,by simp⟩,Fz.le.refl _,by simp,by simp,trivial,λ_ _=>trivial,Ry.none rfl⟩).mono λe w' ⟨r,u,H,Z',he,⟨hr,hH⟩,hp,ht⟩=>by
  subst hr hH;exact⟨by rw[he,show u=v from hp],ht.os,ht.tape,ht.output,ht.size,λk hk _=>ht.old k hk (by simp),by simp,by simp,.nil⟩
abbrev FN:=Fn Tryz.prog GE
end Go.Proofs.YtphnhpcjnmmhiaaGreatDoor.Q
namespace Go.Proofs.YtphnhpcjnmmhiaaGreatDoor
open Go
def Ic (p q:List UInt8):Bool:=decide (q.length≤p.length)&&decide (p.take q.length=q)
def EA (p q:List UInt8):Bool:=decide (q.length≤p.length)&&decide (p.drop (p.length-q.length)=q)
def M1 (p q:List UInt8):List UInt8:=if EA p q=true then p.take (p.length-q.length) else p
variable{p:List UInt8}
theorem AbW {q:List UInt8}(h:EA p q=true):q.length≤p.length:=by
 simp[EA] at h;exact h.1
theorem Sb (p:List UInt8)(c:UInt8) : -1≤Lib.indexByte p c∧Lib.indexByte p c<p.length:=by
 induction p with
 | nil=>simp[Lib.indexByte]
 | cons b r ih=>
  unfold Lib.indexByte;simp only[Ap2]
  split
  ·omega
  ·split<;>omega
def Acf (p:List UInt8)(c:UInt8):List UInt8:=if 0≤Lib.indexByte p c then p.take (Lib.indexByte p c).toNat else p
def Yy (p:List UInt8)(c:UInt8):List UInt8:=if 0≤Lib.indexByte p c then p.drop (Lib.indexByte p c+1).toNat else[]
def Akg (p:List UInt8)(c:UInt8):Bool:=decide (0≤Lib.indexByte p c)
def J3 (p:List UInt8):Bool:=decide ((0:Int)<p.length)&&decide (C0 p 0=45)
def GQ (p:List UInt8):List UInt8:=if J3 p=true then p.drop 1 else p
theorem Aim (p:List UInt8):(GQ p).length≤p.length:=by unfold GQ;split<;>simp
def Lv (_:Nat)(u:UInt8):Bool:=!(decide ((u.toNat:Int)<48)||decide (57<(u.toNat:Int)))
def IH (p:List UInt8):Bool:=!(decide (GQ p=[])||(decide (C0 (GQ p) 0=48)&&!decide (p=[48])))&&BB Lv 0 (GQ p)
theorem AjD (h:¬ p=[]):(0:Int)<p.length:=by
 cases p with
 | nil=>exact absurd rfl h
 | cons a r=>simp
theorem OT {k:Nat}(h:(k:Int)<p.length):∃u,p[k]? =some u:=⟨p[k]'(by omega),Apw (by omega)⟩
def D1 (p:List UInt8):Int:=if IH p=true then(match Lib.atoiAll p with | .ok v=>if JN v=true then 0 else 2 | _=>2) else 1
def Cc (p:List UInt8):Int:=if IH p=true then(match Lib.atoiAll p with | .ok v=>if JN v=true then v else 0 | _=>0) else 0
theorem Vu:∀(l:List UInt8) (i acc:Nat),BB Lv i l=true→(∃u,Lib.parseUint10 acc l = .ok u)∨Lib.parseUint10 acc l = .range
 | [],_,acc,_=>.inl ⟨acc,rfl⟩
 | c::r,i,acc,h=>by
  simp only[BB,Aps] at h;have hc:48≤c.toNat∧c.toNat≤57:=by have:=h.1;simp[Lv] at this;omega
  unfold Lib.parseUint10;rw[ApW hc]
  split
  ·exact .inr rfl
  ·split
   ·exact .inr rfl
   ·exact Vu r _ _ h.2
theorem Adg {l:List UInt8}(hne:l≠[])(h:BB Lv 0 l=true):(∃u,Lib.parseMag l = .ok u)∨Lib.parseMag l = .range:=by
 unfold Lib.parseMag;rw[ApP hne];exact Vu l 0 0 h
theorem X1 {e:Lib.NumEnd Nat}(h:(∃u,e = .ok u)∨e = .range):(∃v,Lib.signless e = .ok v)∨Lib.signless e = .range:=by
 rcases h with⟨u,rfl⟩ | rfl
 ·unfold Lib.signless
  by_cases h:9223372036854775808≤u
  ·exact .inr (by simp[h])
  ·exact .inl ⟨_,by simp[h];rfl⟩
 ·exact .inr rfl
theorem Abr {e:Lib.NumEnd Nat}(h:(∃u,e = .ok u)∨e = .range):(∃v,Lib.signed e = .ok v)∨Lib.signed e = .range:=by
 rcases h with⟨u,rfl⟩ | rfl
 ·unfold Lib.signed
  by_cases h:9223372036854775808<u
  ·exact .inr (by simp[h])
  ·exact .inl ⟨_,by simp[h];rfl⟩
 ·exact .inr rfl
theorem Aiz (h:IH p=true):(∃v,Lib.atoiAll p = .ok v∧-9223372036854775808≤v∧v≤9223372036854775807)∨Lib.atoiAll p = .range:=by
 have key:(∃v,Lib.atoiAll p = .ok v)∨Lib.atoiAll p = .range:=by
  simp only[IH,Aps,Ap6,ApB,Apx] at h;obtain⟨⟨hne,_⟩,hall⟩:=h
  cases p with
  | nil=>simp[GQ,J3] at hne
  | cons c r=>
   by_cases hc:c=45
   ·subst hc;have hd:GQ (45::r)=r:=by simp[GQ,J3,C0]
    rw[hd] at hne hall;rw[Lib.atoiAll_minus];exact Abr (Adg hne hall)
   ·have hb : ¬ C0 (c::r) 0=45:=by
     simp only[C0,Int.toNat_zero,List.getElem?_cons_zero,ApE];intro e;exact hc (UInt8.toNat_inj.1 (by simpa using(by omega:c.toNat=45)))
    have hd:GQ (c::r)=c::r:=by simp[GQ,J3,hb]
    rw[hd] at hne hall;have he:48≤c.toNat:=by
     simp only[BB,Aps] at hall;have:=hall.1;simp[Lv] at this;omega
    rw[Lib.atoiAll_plain c r (by omega) (by omega)];exact X1 (Adg hne hall)
 rcases key with⟨v,hv⟩ | h
 ·exact .inl ⟨v,hv,Lib.atoiAll_bounds hv⟩
 ·exact .inr h
def Kd (s:List UInt8):Bool:=Mf s||(decide (s=[42])||(Mf (M1 s [42])&&(EA s [42]&&decide ((s.length:Int)≤64))))
def MG (p s:List UInt8):Bool:=Kd p&&(bif EA p [42] then Ic s (M1 p [42]) else decide (p=s))
set_option linter.unusedVariables false
def Yh (c:Int):Option Bool:=
 some ((decide (97≤c))&&(decide (c≤122)))
def Yj (c:Int):Option Bool:=
 some ((decide (48≤c))&&(decide (c≤57)))
def Dv (hb:Bool):Option Bool:=
 some hb
def TJ (c:Int):Option Bool:=
 Ba (Yh c) λhb=>Bj hb (Dv true) (Ba (Yj c) λhd=>Bj hd (Dv true) (Bj (decide (65≤c)) (Bj (decide (c≤90)) (Dv true) (Bj (decide (c=45)) (Dv true) (Bj (decide (c=95)) (Dv true) (Bj (decide (c=46)) (Dv true) (Bj (decide (c=58)) (Dv true) (Dv (decide (c=47)))))))) (Bj (decide (c=45)) (Dv true) (Bj (decide (c=95)) (Dv true) (Bj (decide (c=46)) (Dv true) (Bj (decide (c=58)) (Dv true) (Dv (decide (c=47)))))))))
def DJ (n:Int):Option Bool:=
 some ((decide ((-1000000000000)≤n))&&(decide (n≤1000000000000)))
def Lm (hd:Ac)(hb:Int):Option (Stp Int (Out Bool Unit)):=
 Bj (decide (hb<(hd.length:Int))) (AM (Cn hb (hd.length:Int))<|Bj (((decide ((C0 hd hb)<48))||(decide (57<(C0 hd hb))))) (some (.out (.ret false))) (AM (BT .i64 (hb+1))<|some (.next (hb+1)))) (some (.out (.go ())))
def Ll :Option Bool:=
 some true
def Io (F:Nat)(s hb:Ac):Option Bool:=
 AM (imp (!(decide (hb=([]:Ac)))) (Cn 0 (hb.length:Int)))<|Bj (((decide (hb=([]:Ac)))||((decide ((C0 hb 0)=48))&&(!decide (s=([48]:Ac)))))) (some false) (Ba (Cg (λσ=>Lm hb σ) F 0) (Cm λν=>Ll ))
def UR (F:Nat)(s:Ac):Option Bool:=
 AM (imp (decide (0<(s.length:Int))) (Cn 0 (s.length:Int)))<|Bj (((decide (0<(s.length:Int)))&&(decide ((C0 s 0)=45)))) (AM (IG 1 (s.length:Int))<|Io F s (List.drop (Int.toNat 1) s)) (Io F s s)
def Gh (c:Int):Option Bool:=
 some ((decide (97≤c))&&(decide (c≤122)))
def I8 (c:Int):Option Bool:=
 some ((decide (48≤c))&&(decide (c≤57)))
def D7 (hb:Bool):Option Bool:=
 some hb
def KS (c:Int):Option Bool:=
 Ba (Gh c) λhb=>Bj hb (D7 true) (Bj (decide (65≤c)) (Bj (decide (c≤90)) (D7 true) (Ba (I8 c) λhd=>Bj hd (D7 true) (Bj (decide (c=45)) (D7 true) (Bj (decide (c=95)) (D7 true) (Bj (decide (c=46)) (D7 true) (Bj (decide (c=58)) (D7 true) (D7 (decide (c=47))))))))) (Ba (I8 c) λhe=>Bj he (D7 true) (Bj (decide (c=45)) (D7 true) (Bj (decide (c=95)) (D7 true) (Bj (decide (c=46)) (D7 true) (Bj (decide (c=58)) (D7 true) (D7 (decide (c=47)))))))))
def Mi (s:Ac)(hb:Int):Option (Stp Int (Out Bool Unit)):=
 Bj (decide (hb<(s.length:Int))) (AM (Cn hb (s.length:Int))<|AM (Gh (C0 s hb)).isSome<|AM (imp (!(ov (Gh (C0 s hb)))) (I8 (C0 s hb)).isSome)<|Bj (((!(ov (Gh (C0 s hb))))&&((!(ov (I8 (C0 s hb))))&&((!decide ((C0 s hb)=45))&&(!decide ((C0 s hb)=95)))))) (some (.out (.ret false))) (AM (BT .i64 (hb+1))<|some (.next (hb+1)))) (some (.out (.go ())))
def OP :Option Bool:=
 some true
def AbU (F:Nat)(s:Ac):Option Bool:=
 AM (imp (!(decide ((s.length:Int)<1))) (imp (!(decide (24<(s.length:Int)))) (Cn 0 (s.length:Int))))<|AM (imp (!(decide ((s.length:Int)<1))) (imp (!(decide (24<(s.length:Int)))) (Gh (C0 s 0)).isSome))<|Bj (((decide ((s.length:Int)<1))||((decide (24<(s.length:Int)))||(!(ov (Gh (C0 s 0))))))) (some false) (Ba (Cg (λσ=>Mi s σ) F 1) (Cm λν=>OP ))
def Re (s:Ac)(hb:Int):Option (Stp Int (Out Bool Unit)):=
 Bj (decide (hb<(s.length:Int))) (AM (Cn hb (s.length:Int))<|Ba (KS (C0 s hb)) λhd=>Bj (!hd) (some (.out (.ret false))) (AM (BT .i64 (hb+1))<|some (.next (hb+1)))) (some (.out (.go ())))
def TK :Option Bool:=
 some true
def AjR (F:Nat)(s:Ac):Option Bool:=
 Bj (((decide ((s.length:Int)<1))||(decide (64<(s.length:Int))))) (some false) (Ba (Cg (λσ=>Re s σ) F 0) (Cm λν=>TK ))
def OJ (hd:Ac)(hb:Int):Option (Stp Int (Out Bool Unit)):=
 Bj (decide (hb<(hd.length:Int))) (AM (Cn hb (hd.length:Int))<|Bj (((decide ((C0 hd hb)<48))||(decide (57<(C0 hd hb))))) (some (.out (.ret false))) (AM (BT .i64 (hb+1))<|some (.next (hb+1)))) (some (.out (.go ())))
def OI :Option Bool:=
 some true
def Kw (F:Nat)(hb:Ac):Option Bool:=
 AM (imp (!(decide ((hb.length:Int)=0))) (imp (decide (1<(hb.length:Int))) (Cn 0 (hb.length:Int))))<|Bj (((decide ((hb.length:Int)=0))||((decide (1<(hb.length:Int)))&&(decide ((C0 hb 0)=48))))) (some false) (Ba (Cg (λσ=>OJ hb σ) F 0) (Cm λν=>OI ))
def Yc (F:Nat)(s:Ac):Option Bool:=
 AM (imp (decide (0<(s.length:Int))) (Cn 0 (s.length:Int)))<|Bj (((decide (0<(s.length:Int)))&&(decide ((C0 s 0)=45)))) (AM (IG 1 (s.length:Int))<|AM (imp (decide (0<((List.drop (Int.toNat 1) s).length:Int))) (Cn 0 ((List.drop (Int.toNat 1) s).length:Int)))<|Bj (((decide (0<((List.drop (Int.toNat 1) s).length:Int)))&&(decide ((C0 (List.drop (Int.toNat 1) s) 0)=48)))) (some false) (Kw F (List.drop (Int.toNat 1) s))) (Kw F s)
def KO (hb hd:Int):Option (Stp (Int×Int) (Out (Int×Int) Int)):=
 AM (BT .i64 (hb+1))<|some (.next (hd,hb+1))
def Es (s:Ac)(hd hb:Int):Option (Stp (Int×Int) (Out (Int×Int) Int)):=
 Bj (decide (hb<(s.length:Int))) (AM (Cn hb (s.length:Int))<|Bj (decide ((C0 s hb)=45)) (KO hb hd) (AM (BT .i64 (10*hd))<|AM (BT .u8 ((C0 s hb)-48))<|AM (BT .i64 ((C0 s hb)-48))<|AM (BT .i64 ((10*hd)+((C0 s hb)-48)))<|Bj (decide (1000000000000<((10*hd)+((C0 s hb)-48)))) (some (.out (.ret (0,2)))) (KO hb ((10*hd)+((C0 s hb)-48))))) (some (.out (.go hd)))
def KN (s:Ac)(hb:Int):Option (Int×Int):=
 Bj (((decide (0<(s.length:Int)))&&(decide ((C0 s 0)=45)))) (AM (BT .i64 (-hb))<|some ((-hb),0)) (some (hb,0))
def Yb (F:Nat)(s:Ac):Option (Int×Int):=
 AM (imp (decide (0<(s.length:Int))) (Cn 0 (s.length:Int)))<|Ba (Yc F s) λr4=>Bj (!r4) (some (0,1)) (Ba (Cg (λσ=>Es s σ.1 σ.2) F (0,0)) (Cm λν=>KN s ν))
end Go.Proofs.YtphnhpcjnmmhiaaGreatDoor
namespace Go.Proofs.YtphnhpcjnmmhiaaGreatDoor.Q
open Go Go.RowKit
set_option linter.unusedVariables false
set_option linter.unusedSimpArgs false
set_option maxRecDepth 100000
set_option maxHeartbeats 4000000
variable{E:Fz→Prop}
theorem iSmall_w (c:Int)(r:Bool)(h:Yh c=some r):Fn Tryz.prog E 97 [rI .i32 c] [] (PO (rB r)):=en Tryz.func97 Tryz.ntmps97 Aa λw Z=>by unfold Yh at h;exact AA Aa<|AJ<|Ar [(2,rB ((Bm (97≤c))&&(Bm (c≤122))))] [] (B7 Aa<|wv DK<|ms Aa<|AF (Bm (97≤c)) (λc1=>wo c1<|ms Aa<|Bq c1 Iu<|Ej Aa c1 Aa<|Bg Aa<|BR c1) λc1=>CB c1 Aa<|wv (Am c1)<|Bg Aa<|BR c1)<|BO<|cs h▸CY Tryz.results97 ⟨Aa,Aa⟩
theorem iDigit_w (c:Int)(r:Bool)(h:Yj c=some r):Fn Tryz.prog E 98 [rI .i32 c] [] (PO (rB r)):=en Tryz.func98 Tryz.ntmps98 Aa λw Z=>by unfold Yj at h;exact AA Aa<|AJ<|Ar [(2,rB ((Bm (48≤c))&&(Bm (c≤57))))] [] (B7 Aa<|wv DK<|ms Aa<|AF (Bm (48≤c)) (λc1=>wo c1<|ms Aa<|Bq c1 Iu<|Ej Aa c1 Aa<|Bg Aa<|BR c1) λc1=>CB c1 Aa<|wv (Am c1)<|Bg Aa<|BR c1)<|BO<|cs h▸CY Tryz.results98 ⟨Aa,Aa⟩
theorem iLetter_w (c:Int)(r:Bool)(h:TJ c=some r):Fn Tryz.prog E 113 [rI .i32 c] [] (PO (rB r)):=en Tryz.func113 Tryz.ntmps113 Aa λw Z=>by unfold TJ at h;exact AA Aa<|AJ<|EY (S:=Bool×Unit) (λσ=>Dv σ.1=some r) (λσ=>[(2,rB σ.1)]) (λσ=>[]) (B7 Aa<|ob h λhn hp hq=>BV Tryz.call97 (iSmall_w c hn hp)<|ms Aa<|bz hq (λhb hr=>CB hb Aa<|wv (Aj hb)<|ms Aa<|Dx Aa<|wu<|wu<|vz Aa<|wv (Aj Aa)<|ms Aa<|Dx Aa<|wv (Aj Aa)<|ms Aa<|Dx Aa<|wv (Aj Aa)<|ms Aa<|Dx Aa<|wv (Aj Aa)<|ms Aa<|Dx Aa<|wv (Aj Aa)<|ms Aa<|Dx Aa<|wv (Aj Aa)<|Bg Aa<|Ax (As (true,()) hr (A7 Aa) sN)) λhb hs=>wo hb<|ms Aa<|wo hb<|ob hs λht hu hw=>BV Tryz.call98 (iDigit_w c ht hu)<|Ep Aa hb Aa<|ms Aa<|bz hw (λc53 hx=>CB c53 Aa<|wu<|wu<|wf c53<|wv (Aj c53)<|ms Aa<|Dx Aa<|wv (Aj Aa)<|ms Aa<|Dx Aa<|wv (Aj Aa)<|ms Aa<|Dx Aa<|wv (Aj Aa)<|ms Aa<|Dx Aa<|wv (Aj Aa)<|ms Aa<|Dx Aa<|wv (Aj Aa)<|Bg Aa<|Ax (As (true,()) hx (A7 Aa) sN)) λc53 hy=>wo c53<|ms Aa<|Bq c53 DK<|wo c53<|ms Aa<|bz hy (λhd hz=>wo hd<|ms Aa<|Bq hd Iu<|wo c53<|Ej Aa hd Aa<|Ep Aa c53 Aa<|ms Aa<|bz hz (λhe h0=>CB he Aa<|wv (Aj he)<|ms Aa<|Dx Aa<|wv (Aj Aa)<|ms Aa<|Dx Aa<|wv (Aj Aa)<|ms Aa<|Dx Aa<|wv (Aj Aa)<|ms Aa<|Dx Aa<|wv (Aj Aa)<|Bg Aa<|Ax (As (true,()) h0 (A7 Aa) sN)) λhe h1=>wo he<|ms Aa<|Bq he Bx<|Ep Aa he Aa<|ms Aa<|bz h1 (λhf h2=>CB hf Aa<|wv (Aj hf)<|ms Aa<|Dx Aa<|wv (Aj Aa)<|ms Aa<|Dx Aa<|wv (Aj Aa)<|ms Aa<|Dx Aa<|wv (Aj Aa)<|Bg Aa<|Ax (As (true,()) h2 (A7 Aa) sN)) λhf h3=>wo hf<|ms Aa<|Bq hf Bx<|Ep Aa hf Aa<|ms Aa<|bz h3 (λhg h4=>by exact CB hg Aa<|wv (Aj hg)<|ms Aa<|Dx Aa<|wv (Aj Aa)<|ms Aa<|Dx Aa<|wv (Aj Aa)<|Bg Aa<|Ax (As (true,()) h4 (A7 Aa) sN)) λhg h5=>by exact wo hg<|ms Aa<|Bq hg Bx<|Ep Aa hg Aa<|ms Aa<|bz h5 (λhh h6=>CB hh Aa<|wv (Aj hh)<|ms Aa<|Dx Aa<|wv (Aj Aa)<|Bg Aa<|Ax (As (true,()) h6 (A7 Aa) sN)) λhh h7=>wo hh<|ms Aa<|Bq hh Bx<|Ep Aa hh Aa<|ms Aa<|bz h7 (λhi h8=>CB hi Aa<|wv (Aj hi)<|Bg Aa<|Ax (As (true,()) h8 (A7 Aa) sN)) λhi h9=>wo hi<|ms Aa<|Bq hi Bx<|Ep Aa hi Aa<|Bg Aa<|Ax (As (Bm (c=47),()) h9 (A7 Aa) sN)) λhd hA=>CB hd Aa<|Bq c53 (Am hd)<|Ep Aa c53 Aa<|ms Aa<|Iw Aa<|ms Aa<|Iw Aa<|wv Bx<|wv (Am Aa)<|ms Aa<|bz hA (λhj hB=>CB hj Aa<|wv (Aj hj)<|ms Aa<|Dx Aa<|wv (Aj Aa)<|ms Aa<|Dx Aa<|wv (Aj Aa)<|ms Aa<|Dx Aa<|wv (Aj Aa)<|Bg Aa<|Ax (As (true,()) hB (A7 Aa) sN)) λhj hC=>wo hj<|ms Aa<|Bq hj Bx<|Ep Aa hj Aa<|ms Aa<|bz hC (λhk hD=>by exact CB hk Aa<|wv (Aj hk)<|ms Aa<|Dx Aa<|wv (Aj Aa)<|ms Aa<|Dx Aa<|wv (Aj Aa)<|Bg Aa<|Ax (As (true,()) hD (A7 Aa) sN)) λhk hE=>by exact wo hk<|ms Aa<|Bq hk Bx<|Ep Aa hk Aa<|ms Aa<|bz hE (λc80 hG=>CB c80 Aa<|wv (Aj c80)<|ms Aa<|Dx Aa<|wv (Aj Aa)<|Bg Aa<|Ax (As (true,()) hG (A7 Aa) sN)) λc80 hH=>wo c80<|ms Aa<|Bq c80 Bx<|Ep Aa c80 Aa<|ms Aa<|bz hH (λhl hI=>CB hl Aa<|wv (Aj hl)<|Bg Aa<|Ax (As (true,()) hI (A7 Aa) sN)) λhl hJ=>wo hl<|ms Aa<|Bq hl Bx<|Ep Aa hl Aa<|Bg Aa<|Ax (As (Bm (c=47),()) hJ (A7 Aa) sN))<|by rintro⟨hK,⟨⟩⟩ hm;refine EG ?_;exact have hm:Dv hK=some r:=hm;by unfold Dv at hm;exact BO<|cs hm▸CY Tryz.results113 ⟨Aa,Aa⟩
theorem nValid_w (n:Int)(r:Bool)(h:DJ n=some r):Fn Tryz.prog E 157 [AZ n] [] (PO (rB r)):=en Tryz.func157 Tryz.ntmps157 Aa λw Z=>by unfold DJ at h;exact AA Aa<|AJ<|Ar [(2,rB ((Bm ((-1000000000000)≤n))&&(Bm (n≤1000000000000))))] [] (B7 Aa<|wv Iu<|ms Aa<|AF (Bm ((-1000000000000)≤n)) (λc1=>wo c1<|ms Aa<|Bq c1 Iu<|Ej Aa c1 Aa<|Bg Aa<|BR c1) λc1=>CB c1 Aa<|wv (Am c1)<|Bg Aa<|BR c1)<|BO<|cs h▸CY Tryz.results157 ⟨Aa,Aa⟩
theorem nDecimal_w (F:Nat)(s:Ac)(r:Bool)(h:UR F s=some r):Fn Tryz.prog E 164 [rS s] [] (PO (rB r)):=en Tryz.func164 Tryz.ntmps164 Aa λw Z=>AA Aa<|BM Aa<|BU<|ck h λg1 h2=>Ar [(0,rS s),(3,rS s),(13,rB ((Bm (0<(s.length:Int)))&&(Bm ((C0 s 0)=45))))] [] (B7 Aa<|wv Bo<|wv C9<|ms Aa<|AF (Bm (0<(s.length:Int))) (λc3=>wo c3<|ms Aa<|Bq c3 (BH (BL g1 c3))<|Bq c3 Bx<|Ej Aa c3 Aa<|Az<|BR c3) λc3=>CB c3 Aa<|wv (Am c3)<|Az<|BR c3)<|SJ (S:=Ac×Unit) (λσ=>Io F s σ.1=some r) (λσ=>[(0,rS s),(3,rS σ.1)]) (λσ=>[]) (B2 h2 (λhm hn=>B7 Aa<|ck hn λg15 hp=>wv (Gy Lb Aa Aa g15)<|Bg Aa<|Ax (As (List.drop (D3 1) s,()) hp (A7 Aa) sN)) λhm hq=>B3<|Ax (As (s,()) hq (A7 Aa) sN))<|by rintro⟨hb,⟨⟩⟩ hh;refine EG ?_;exact have hh:Io F s hb=some r:=hh;AV<|ck hh λg19 hr=>Ar [(3,rS hb),(26,rB ((Bm (hb=([]:Ac)))||((Bm ((C0 hb 0)=48))&&(!Bm (s=([48]:Ac))))))] [] (B7 Aa<|wv BA<|ms Aa<|AF (Bm (hb=([]:Ac))) (λc21=>CB c21 Aa<|wu<|wu<|wf c21<|wv (Aj c21)<|Az<|BR c21) λc21=>wo c21<|ms Aa<|Bq c21 (BH (CM g19 c21))<|Bq c21 Bx<|wo c21<|ms Aa<|AF (Bm ((C0 hb 0)=48)) (λhe=>wo he<|ms Aa<|Bq he (JB Aa Aa)<|wo c21<|Ej Aa he Aa<|Ep Aa c21 Aa<|Az<|BR (Db c21 he)) λhe=>CB he Aa<|Bq c21 (Am he)<|Ep Aa c21 Aa<|Az<|BR (Db c21 he))<|B2 hr (λhs ht=>Bw Aa<|cs ht▸CY Tryz.results164 ⟨Aa,Aa⟩) λhs hu=>Bt<|AA Aa<|wv Bo<|Cs Aa<|Au<|ob hu λhw hx hk=>Bk (V:=Unit×Unit) 0 (λσ=>Cg (λσ=>Lm hb σ) σ.1 σ.2.1=some hw) (λσ=>[(3,rS hb),(28,AZ (hb.length:Int)),(29,AZ σ.2.1)]) (λσ=>[]) (λσ=>σ.1) (F,0,()) hx (A7 Aa) sN (λσ=>Ll =some r) (λσ=>[]) (λσ=>[]) (by rintro⟨hE,hf,⟨⟩⟩ hy;refine EG ?_;obtain⟨hz,rfl,h0,hi,hj⟩:=Cq hy;have hi:Lm hb hf=some h0:=hi;exact Ay<|wv BI<|BU<|B2 hi (λh1 h3=>Bt<|Au<|AA Aa<|AJ<|ck h3 λhl h4=>Ar [(3,rS hb),(28,AZ (hb.length:Int)),(29,AZ hf),(41,rB ((Bm ((C0 hb hf)<48))||(Bm (57<(C0 hb hf)))))] [] (B7 Aa<|wv (BH hl)<|wv BI<|ms Aa<|AF (Bm ((C0 hb hf)<48)) (λhd=>CB hd Aa<|wv (Aj hd)<|Az<|BR hd) λhd=>wo hd<|ms Aa<|wo hd<|ms Aa<|Bq hd (BH hl)<|Bq hd C9<|Ep Aa hd Aa<|Az<|BR hd)<|B2 h4 (λh5 h6=>B6 Aa<|B8<|Ao<|Bf<|have h7:=BE h6 hj hk;B8<|cs h7▸CY Tryz.results164 ⟨Aa,Aa⟩) λh5 h8=>B3<|CR<|A4<|ck h8 λh9 hA=>wv (Bh h9)<|Bg Aa<|have hB:=Bd hA hj;Ax (As (hz,hf+1,()) ⟨hB,Apu _⟩ (A7 Aa) sN)) λh1 hC=>Bs<|Ah<|have hD:=BG hC hj hk;Ah (AN (As ((),()) hD Hw.nil sN)))<|by rintro⟨⟨⟩,⟨⟩⟩ hg;refine Gw ?_;exact have hg:Ll =some r:=hg;by unfold Ll at hg;exact AR<|Cy<|B6 Aa<|cs hg▸CY Tryz.results164 ⟨Aa,Aa⟩
theorem Sd (c:Int)(r:Bool)(h:Gh c=some r):Fn Tryz.prog E 101 [rI .u8 c] [] (PO (rB r)):=en Tryz.func101 Tryz.ntmps101 Aa λw Z=>by unfold Gh at h;exact AA Aa<|AJ<|Ar [(2,rB ((Bm (97≤c))&&(Bm (c≤122))))] [] (B7 Aa<|wv DK<|ms Aa<|AF (Bm (97≤c)) (λc1=>wo c1<|ms Aa<|Bq c1 Iu<|Ej Aa c1 Aa<|Bg Aa<|BR c1) λc1=>CB c1 Aa<|wv (Am c1)<|Bg Aa<|BR c1)<|BO<|cs h▸CY Tryz.results101 ⟨Aa,Aa⟩
theorem Sf (c:Int)(r:Bool)(h:I8 c=some r):Fn Tryz.prog E 102 [rI .u8 c] [] (PO (rB r)):=en Tryz.func102 Tryz.ntmps102 Aa λw Z=>by unfold I8 at h;exact AA Aa<|AJ<|Ar [(2,rB ((Bm (48≤c))&&(Bm (c≤57))))] [] (B7 Aa<|wv DK<|ms Aa<|AF (Bm (48≤c)) (λc1=>wo c1<|ms Aa<|Bq c1 Iu<|Ej Aa c1 Aa<|Bg Aa<|BR c1) λc1=>CB c1 Aa<|wv (Am c1)<|Bg Aa<|BR c1)<|BO<|cs h▸CY Tryz.results102 ⟨Aa,Aa⟩
theorem Vd (c:Int)(r:Bool)(h:KS c=some r):Fn Tryz.prog E 119 [rI .u8 c] [] (PO (rB r)):=en Tryz.func119 Tryz.ntmps119 Aa λw Z=>by unfold KS at h;exact AA Aa<|AJ<|EY (S:=Bool×Unit) (λσ=>D7 σ.1=some r) (λσ=>[(2,rB σ.1)]) (λσ=>[]) (B7 Aa<|ob h λhp hq hr=>BV Tryz.call101 (Sd c hp hq)<|ms Aa<|bz hr (λc53 hs=>CB c53 Aa<|wu<|wu<|wf c53<|wv (Aj c53)<|ms Aa<|Dx Aa<|wv (Aj Aa)<|ms Aa<|Dx Aa<|wv (Aj Aa)<|ms Aa<|Dx Aa<|wv (Aj Aa)<|ms Aa<|Dx Aa<|wv (Aj Aa)<|ms Aa<|Dx Aa<|wv (Aj Aa)<|ms Aa<|Dx Aa<|wv (Aj Aa)<|Bg Aa<|Ax (As (true,()) hs (A7 Aa) sN)) λc53 ht=>wo c53<|ms Aa<|Bq c53 DK<|wo c53<|ms Aa<|bz ht (λhb hu=>wo hb<|ms Aa<|Bq hb Iu<|wo c53<|Ej Aa hb Aa<|Ep Aa c53 Aa<|ms Aa<|bz hu (λhd hw=>CB hd Aa<|wv (Aj hd)<|ms Aa<|Dx Aa<|wv (Aj Aa)<|ms Aa<|Dx Aa<|wv (Aj Aa)<|ms Aa<|Dx Aa<|wv (Aj Aa)<|ms Aa<|Dx Aa<|wv (Aj Aa)<|ms Aa<|Dx Aa<|wv (Aj Aa)<|ms Aa<|by exact Az<|Ax (As (true,()) hw (A7 Aa) sN)) λhd hx=>wo hd<|ms Aa<|wo hd<|ob hx λhy hz h0=>BV Tryz.call102 (Sf c hy hz)<|Ep Aa hd Aa<|ms Aa<|bz h0 (λhe h1=>CB he Aa<|wv (Aj he)<|ms Aa<|Dx Aa<|wv (Aj Aa)<|ms Aa<|Dx Aa<|wv (Aj Aa)<|ms Aa<|Dx Aa<|wv (Aj Aa)<|ms Aa<|Dx Aa<|wv (Aj Aa)<|Bg Aa<|Ax (As (true,()) h1 (A7 Aa) sN)) λhe h2=>wo he<|ms Aa<|Bq he Bx<|Ep Aa he Aa<|ms Aa<|bz h2 (λhf h3=>CB hf Aa<|wv (Aj hf)<|ms Aa<|Dx Aa<|wv (Aj Aa)<|ms Aa<|Dx Aa<|wv (Aj Aa)<|ms Aa<|Dx Aa<|wv (Aj Aa)<|Bg Aa<|Ax (As (true,()) h3 (A7 Aa) sN)) λhf h4=>wo hf<|ms Aa<|Bq hf Bx<|Ep Aa hf Aa<|ms Aa<|bz h4 (λhg h5=>by exact CB hg Aa<|wv (Aj hg)<|ms Aa<|Dx Aa<|wv (Aj Aa)<|ms Aa<|Dx Aa<|wv (Aj Aa)<|Bg Aa<|Ax (As (true,()) h5 (A7 Aa) sN)) λhg h6=>by exact wo hg<|ms Aa<|Bq hg Bx<|Ep Aa hg Aa<|ms Aa<|bz h6 (λhh h7=>CB hh Aa<|wv (Aj hh)<|ms Aa<|Dx Aa<|wv (Aj Aa)<|Bg Aa<|Ax (As (true,()) h7 (A7 Aa) sN)) λhh h8=>wo hh<|ms Aa<|Bq hh Bx<|Ep Aa hh Aa<|ms Aa<|bz h8 (λc76 h9=>CB c76 Aa<|wv (Aj c76)<|Bg Aa<|Ax (As (true,()) h9 (A7 Aa) sN)) λc76 hA=>wo c76<|ms Aa<|Bq c76 Bx<|Ep Aa c76 Aa<|Bg Aa<|Ax (As (Bm (c=47),()) hA (A7 Aa) sN)) λhb hB=>CB hb Aa<|Bq c53 (Am hb)<|Ep Aa c53 Aa<|ms Aa<|Iw Aa<|ms Aa<|Iw Aa<|ob hB λhC hD hE=>BV Tryz.call102 (Sf c hC hD)<|wv (Am Aa)<|ms Aa<|bz hE (λhi hG=>CB hi Aa<|wv (Aj hi)<|ms Aa<|Dx Aa<|wv (Aj Aa)<|ms Aa<|Dx Aa<|wv (Aj Aa)<|ms Aa<|Dx Aa<|wv (Aj Aa)<|ms Aa<|Dx Aa<|wv (Aj Aa)<|Bg Aa<|Ax (As (true,()) hG (A7 Aa) sN)) λhi hH=>wo hi<|ms Aa<|Bq hi Bx<|Ep Aa hi Aa<|ms Aa<|bz hH (λhj hI=>CB hj Aa<|wv (Aj hj)<|ms Aa<|Dx Aa<|wv (Aj Aa)<|ms Aa<|Dx Aa<|wv (Aj Aa)<|ms Aa<|Dx Aa<|wv (Aj Aa)<|Bg Aa<|Ax (As (true,()) hI (A7 Aa) sN)) λhj hJ=>wo hj<|ms Aa<|Bq hj Bx<|Ep Aa hj Aa<|ms Aa<|bz hJ (λhk hK=>by exact CB hk Aa<|wv (Aj hk)<|ms Aa<|Dx Aa<|wv (Aj Aa)<|ms Aa<|Dx Aa<|wv (Aj Aa)<|Bg Aa<|Ax (As (true,()) hK (A7 Aa) sN)) λhk hL=>by exact wo hk<|ms Aa<|Bq hk Bx<|Ep Aa hk Aa<|ms Aa<|bz hL (λhl hN=>CB hl Aa<|wv (Aj hl)<|ms Aa<|Dx Aa<|wv (Aj Aa)<|Bg Aa<|Ax (As (true,()) hN (A7 Aa) sN)) λhl hO=>wo hl<|ms Aa<|Bq hl Bx<|Ep Aa hl Aa<|ms Aa<|bz hO (λhm hP=>CB hm Aa<|wv (Aj hm)<|Bg Aa<|Ax (As (true,()) hP (A7 Aa) sN)) λhm hQ=>wo hm<|ms Aa<|Bq hm Bx<|Ep Aa hm Aa<|Bg Aa<|Ax (As (Bm (c=47),()) hQ (A7 Aa) sN))<|by rintro⟨hR,⟨⟩⟩ hn;refine EG ?_;exact have hn:D7 hR=some r:=hn;by unfold D7 at hn;exact BO<|cs hn▸CY Tryz.results119 ⟨Aa,Aa⟩
theorem AhM (F:Nat)(s:Ac)(r:Bool)(h:AbU F s=some r):Fn Tryz.prog E 59 [rS s] [] (PO (rB r)):=en Tryz.func59 Tryz.ntmps59 Aa λw Z=>AA Aa<|BU<|ck h λg1 h2=>ck h2 λg3 h4=>Ar [(0,rS s),(17,rB ((Bm ((s.length:Int)<1))||((Bm (24<(s.length:Int)))||(!(ov (Gh (C0 s 0)))))))] [] (B7 Aa<|wv Bo<|wv BI<|ms Aa<|AF (Bm ((s.length:Int)<1)) (λc5=>CB c5 Aa<|wv (Aj c5)<|ms Aa<|Dx Aa<|wv (Aj Aa)<|Az<|BR c5) λc5=>wo c5<|ms Aa<|Bq c5 Bo<|Bq c5 C9<|Ep Aa c5 Aa<|ms Aa<|AF (Bm (24<(s.length:Int))) (λc6=>CB c6 Aa<|wv (Aj c6)<|Az<|BR (Db c5 c6)) λc6=>wo c6<|ms Aa<|Bq c6 (BH (CM (CM g1 c5) c6))<|wo c6<|BV Tryz.call101 (Sd (C0 s 0) (ov (Gh (C0 s 0))) (Dr (CM (CM g3 c5) c6)))<|Bq c6 BQ<|Ep Aa c6 Aa<|Az<|BR (Db c5 c6))<|B2 h4 (λc7 h8=>Bw Aa<|cs h8▸CY Tryz.results59 ⟨Aa,Aa⟩) λc7 h9=>Bt<|AA Aa<|AJ<|Au<|ob h9 λhk hl hj=>Bk (V:=Unit×Unit) 0 (λσ=>Cg (λσ=>Mi s σ) σ.1 σ.2.1=some hk) (λσ=>[(0,rS s),(3,AZ σ.2.1)]) (λσ=>[]) (λσ=>σ.1) (F,1,()) hl (A7 Aa) sN (λσ=>OP =some r) (λσ=>[]) (λσ=>[]) (by rintro⟨hB,hb,⟨⟩⟩ hm;refine EG ?_;obtain⟨hn,rfl,hp,hh,hi⟩:=Cq hm;have hh:Mi s hb=some hp:=hh;exact AV<|AA Aa<|wv Bo<|wv BI<|AJ<|B2 hh (λhq hr=>Bt<|Au<|ck hr λhf hs=>ck hs λht hu=>ck hu λhw hx=>Ar [(0,rS s),(3,AZ hb),(47,rB ((!(ov (Gh (C0 s hb))))&&((!(ov (I8 (C0 s hb))))&&((!Bm ((C0 s hb)=45))&&(!Bm ((C0 s hb)=95))))))] [] (B7 Aa<|wv (BH hf)<|BV Tryz.call101 (Sd (C0 s hb) (ov (Gh (C0 s hb))) (Dr ht))<|wv BQ<|ms Aa<|AF (!(ov (Gh (C0 s hb)))) (λhd=>wo hd<|ms Aa<|wo hd<|ms Aa<|Bq hd (BH hf)<|wo hd<|BV Tryz.call102 (Sf (C0 s hb) (ov (I8 (C0 s hb))) (Dr (BL hw hd)))<|Bq hd BQ<|Ej Aa hd Aa<|ms Aa<|AF (!(ov (I8 (C0 s hb)))) (λhe=>wo he<|ms Aa<|wo he<|ms Aa<|Bq he (BH hf)<|Bq he Ci<|Ej Aa he Aa<|ms Aa<|AF (!Bm ((C0 s hb)=45)) (λc80=>by exact wo c80<|ms Aa<|wo c80<|ms Aa<|Bq c80 (BH hf)<|Bq c80 Ci<|Ej Aa c80 Aa<|Az<|BR (Db hd (Db he c80))) λc80=>by exact CB c80 Aa<|wv (Am c80)<|Az<|BR (Db hd (Db he c80))) λhe=>CB he Aa<|wv (Am he)<|ms Aa<|Dx Aa<|wv (Am Aa)<|Az<|by exact BR (Db hd he)) λhd=>CB hd Aa<|wv (Am hd)<|ms Aa<|Dx Aa<|wv (Am Aa)<|ms Aa<|Dx Aa<|wv (Am Aa)<|Az<|BR hd)<|B2 hx (λhy hz=>B6 Aa<|B8<|Ao<|Bf<|have h0:=BE hz hi hj;B8<|cs h0▸CY Tryz.results59 ⟨Aa,Aa⟩) λhy h1=>B3<|CR<|B7 Aa<|ck h1 λh3 h5=>wv (Bh h3)<|Bg Aa<|have h6:=Bd h5 hi;Ax (As (hn,hb+1,()) ⟨h6,Apu _⟩ (A7 Aa) sN)) λhq h7=>Bs<|Ah<|have hA:=BG h7 hi hj;Ah (AN (As ((),()) hA Hw.nil sN)))<|by rintro⟨⟨⟩,⟨⟩⟩ hg;refine Gw ?_;exact have hg:OP =some r:=hg;by unfold OP at hg;exact AR<|Cy<|B6 Aa<|cs hg▸CY Tryz.results59 ⟨Aa,Aa⟩
theorem AlE (F:Nat)(s:Ac)(r:Bool)(h:AjR F s=some r):Fn Tryz.prog E 72 [rS s] [] (PO (rB r)):=en Tryz.func72 Tryz.ntmps72 Aa λw Z=>by unfold AjR at h;exact AA Aa<|BU<|Ar [(0,rS s),(11,rB ((Bm ((s.length:Int)<1))||(Bm (64<(s.length:Int)))))] [] (B7 Aa<|wv Bo<|wv BI<|ms Aa<|AF (Bm ((s.length:Int)<1)) (λc1=>CB c1 Aa<|wv (Aj c1)<|Az<|BR c1) λc1=>wo c1<|ms Aa<|Bq c1 Bo<|Bq c1 C9<|Ep Aa c1 Aa<|Az<|BR c1)<|B2 h (λc2 h3=>Bw Aa<|cs h3▸CY Tryz.results72 ⟨Aa,Aa⟩) λc2 h4=>Bt<|AA Aa<|AJ<|Au<|ob h4 λhh hi hg=>Bk (V:=Unit×Unit) 0 (λσ=>Cg (λσ=>Re s σ) σ.1 σ.2.1=some hh) (λσ=>[(0,rS s),(3,AZ σ.2.1)]) (λσ=>[]) (λσ=>σ.1) (F,0,()) hi (A7 Aa) sN (λσ=>TK =some r) (λσ=>[]) (λσ=>[]) (by rintro⟨h5,hd,⟨⟩⟩ hj;refine EG ?_;obtain⟨hk,rfl,hl,he,hf⟩:=Cq hj;have he:Re s hd=some hl:=he;exact AV<|AA Aa<|wv Bo<|wv BI<|AJ<|B2 he (λc53 hm=>Bt<|Au<|AA Aa<|ck hm λhn hp=>wv (BH hn)<|ob hp λhq hr hs=>BV Tryz.call119 (Vd (C0 s hd) hq hr)<|wv BQ<|AJ<|B2 hs (λht hu=>B6 Aa<|B8<|Ao<|Bf<|have hw:=BE hu hf hg;B8<|cs hw▸CY Tryz.results72 ⟨Aa,Aa⟩) λht hx=>B3<|CR<|B7 Aa<|ck hx λhy hz=>wv (Bh hy)<|Bg Aa<|have h0:=Bd hz hf;Ax (As (hk,hd+1,()) ⟨h0,Apu _⟩ (A7 Aa) sN)) λc53 h1=>Bs<|Ah<|have h2:=BG h1 hf hg;Ah (AN (As ((),()) h2 Hw.nil sN)))<|by rintro⟨⟨⟩,⟨⟩⟩ hb;refine Gw ?_;exact have hb:TK =some r:=hb;by unfold TK at hb;exact AR<|Cy<|B6 Aa<|cs hb▸CY Tryz.results72 ⟨Aa,Aa⟩
theorem Ahp (F:Nat)(s:Ac)(r:Bool)(h:Yc F s=some r):Fn Tryz.prog E 169 [rS s] [] (PO (rB r)):=en Tryz.func169 Tryz.ntmps169 Aa λw Z=>AA Aa<|BM Aa<|BU<|ck h λg1 h2=>Ar [(3,rS s),(13,rB ((Bm (0<(s.length:Int)))&&(Bm ((C0 s 0)=45))))] [] (B7 Aa<|wv Bo<|wv C9<|ms Aa<|AF (Bm (0<(s.length:Int))) (λc3=>wo c3<|ms Aa<|Bq c3 (BH (BL g1 c3))<|Bq c3 Bx<|Ej Aa c3 Aa<|Az<|BR c3) λc3=>CB c3 Aa<|wv (Am c3)<|Az<|BR c3)<|SJ (S:=Ac×Unit) (λσ=>Kw F σ.1=some r) (λσ=>[(3,rS σ.1)]) (λσ=>[]) (B2 h2 (λhp hq=>AA Aa<|ck hq λg18 hr=>wv (Gy Lb Aa Aa g18)<|Cs Aa<|ck hr λhs ht=>Ar [(3,rS (List.drop (D3 1) s)),(23,rB ((Bm (0<((List.drop (D3 1) s).length:Int)))&&(Bm ((C0 (List.drop (D3 1) s) 0)=48))))] [] (B7 Aa<|wv Bo<|wv C9<|ms Aa<|AF (Bm (0<((List.drop (D3 1) s).length:Int))) (λhe=>wo he<|ms Aa<|Bq he (BH (BL hs he))<|Bq he Bx<|Ej Aa he Aa<|Az<|BR he) λhe=>CB he Aa<|wv (Am he)<|Az<|BR he)<|B2 ht (λhu hw=>Bw Aa<|cs hw▸CY Ac0 ⟨Aa,Aa⟩) λhu hx=>B3<|Ax (As (List.drop (D3 1) s,()) hx (A7 Aa) sN)) λhp hy=>B3<|Ax (As (s,()) hy (A7 Aa) sN))<|by rintro⟨hb,⟨⟩⟩ hj;refine EG ?_;exact have hj:Kw F hb=some r:=hj;AV<|ck hj λhz h0=>Ar [(3,rS hb),(36,rB ((Bm ((hb.length:Int)=0))||((Bm (1<(hb.length:Int)))&&(Bm ((C0 hb 0)=48)))))] [] (B7 Aa<|wv Bo<|wv Bx<|ms Aa<|AF (Bm ((hb.length:Int)=0)) (λhd=>CB hd Aa<|wu<|wu<|wu<|wf hd<|wv (Aj hd)<|Az<|BR hd) λhd=>wo hd<|ms Aa<|Bq hd Bo<|Bq hd C9<|wo hd<|ms Aa<|AF (Bm (1<(hb.length:Int))) (λhf=>wo hf<|ms Aa<|Bq hf (BH (BL (CM hz hd) hf))<|Bq hf Bx<|wo hd<|Ej Aa hf Aa<|Ep Aa hd Aa<|Az<|BR (Db hd hf)) λhf=>CB hf Aa<|Bq hd (Am hf)<|Ep Aa hd Aa<|Az<|BR (Db hd hf))<|B2 h0 (λh1 h3=>Bw Aa<|cs h3▸CY Ac0 ⟨Aa,Aa⟩) λh1 h4=>Bt<|AA Aa<|wv Bo<|Cs Aa<|Au<|ob h4 λh5 h6 hm=>Bk (V:=Unit×Unit) 0 (λσ=>Cg (λσ=>OJ hb σ) σ.1 σ.2.1=some h5) (λσ=>[(3,rS hb),(38,AZ (hb.length:Int)),(39,AZ σ.2.1)]) (λσ=>[]) (λσ=>σ.1) (F,0,()) h6 (A7 Aa) sN (λσ=>OI =some r) (λσ=>[]) (λσ=>[]) (by rintro⟨hO,hh,⟨⟩⟩ h7;refine EG ?_;obtain⟨h8,rfl,h9,hk,hl⟩:=Cq h7;have hk:OJ hb hh=some h9:=hk;exact Ay<|wv BI<|BU<|B2 hk (λhA hB=>Bt<|Au<|AA Aa<|AJ<|ck hB λhn hC=>Ar [(3,rS hb),(38,AZ (hb.length:Int)),(39,AZ hh),(51,rB ((Bm ((C0 hb hh)<48))||(Bm (57<(C0 hb hh)))))] [] (B7 Aa<|wv (BH hn)<|wv BI<|ms Aa<|AF (Bm ((C0 hb hh)<48)) (λhg=>CB hg Aa<|wv (Aj hg)<|Az<|BR hg) λhg=>wo hg<|ms Aa<|wo hg<|ms Aa<|Bq hg (BH hn)<|Bq hg C9<|Ep Aa hg Aa<|Az<|BR hg)<|B2 hC (λhD hE=>B6 Aa<|B8<|Ao<|Bf<|have hG:=BE hE hl hm;B8<|cs hG▸CY Ac0 ⟨Aa,Aa⟩) λhD hH=>B3<|CR<|A4<|ck hH λhI hJ=>wv (Bh hI)<|Bg Aa<|have hK:=Bd hJ hl;Ax (As (h8,hh+1,()) ⟨hK,Apu _⟩ (A7 Aa) sN)) λhA hL=>Bs<|Ah<|have hN:=BG hL hl hm;Ah (AN (As ((),()) hN Hw.nil sN)))<|by rintro⟨⟨⟩,⟨⟩⟩ hi;refine Gw ?_;exact have hi:OI =some r:=hi;by unfold OI at hi;exact AR<|Cy<|B6 Aa<|cs hi▸CY Ac0 ⟨Aa,Aa⟩
theorem AeW (F:Nat)(s:Ac)(r:Int×Int)(h:Yb F s=some r):Fn Tryz.prog E 143 [rS s] [] (PO (DW [AZ r.1,AZ r.2])):=en Tryz.func143 Tryz.ntmps143 Aa λw Z=>AA Aa<|AJ<|ck h λg1 h2=>Ar [(0,rS s),(4,rB ((Bm (0<(s.length:Int)))&&(Bm ((C0 s 0)=45))))] [] (B7 Aa<|wv Bo<|wv C9<|ms Aa<|AF (Bm (0<(s.length:Int))) (λc3=>wo c3<|ms Aa<|Bq c3 (BH (BL g1 c3))<|Bq c3 Bx<|Ej Aa c3 Aa<|Bg Aa<|BR c3) λc3=>CB c3 Aa<|wv (Am c3)<|Bg Aa<|BR c3)<|AV<|AA Aa<|ob h2 λr4 e6 h5=>BV Tryz.call169 (Ahp F s r4 e6)<|wv BQ<|AJ<|B2 h5 (λc7 h8=>Bw Aa<|cs h8▸VH Ac2 ⟨Aa,Aa⟩) λc7 h9=>BW<|AA Aa<|BD Aa<|wv Bo<|Cs Aa<|Au<|ob h9 λhm hn hj=>Bk (V:=Int×Unit) 0 (λσ=>Cg (λσ=>Es s σ.1 σ.2) σ.1 σ.2.1=some hm) (λσ=>[(0,rS s),(4,rB ((Bm (0<(s.length:Int)))&&(Bm ((C0 s 0)=45)))),(5,AZ σ.2.1.1),(19,AZ (s.length:Int)),(20,AZ σ.2.1.2)]) (λσ=>[]) (λσ=>σ.1) (F,(0,0),()) hn (A7 Aa) sN (λσ=>KN s σ.1=some r) (λσ=>[(4,rB ((Bm (0<(s.length:Int)))&&(Bm ((C0 s 0)=45)))),(5,AZ σ.1)]) (λσ=>[]) (by rintro⟨hQ,⟨hd,hb⟩,⟨⟩⟩ hp;refine EG ?_;obtain⟨hq,rfl,he,hf,hg⟩:=Cq hp;have hf:Es s hd hb=some he:=hf;exact Ay<|wv BI<|BU<|B2 hf (λhr hs=>BW<|EY (S:=Int×Unit) (λσ=>KO hb σ.1=some he) (λσ=>[(0,rS s),(4,rB ((Bm (0<(s.length:Int)))&&(Bm ((C0 s 0)=45)))),(5,AZ σ.1),(6,AZ hb),(19,AZ (s.length:Int)),(20,AZ hb),(21,rB (Bm (hb<(s.length:Int)))),(22,AZ hb),(23,rS s),(24,AZ hb),(25,rI .u8 (C0 s hb)),(26,rB (Bm ((C0 s hb)=45)))]) (λσ=>[]) (Au<|AA Aa<|BD Aa<|ck hs λhk ht=>wv (BH hk)<|wv Bx<|AJ<|B2 ht (λhu hw=>Bs<|Ah<|AR<|Ax (As (hd,()) hw (A7 Aa) sN)) λhu hx=>BW<|AA Aa<|ck hx λhy hz=>wv (Ahf Aa Aa hy)<|ms Aa<|wv (BH hk)<|ck hz λh0 h1=>wv (DV h0)<|ck h1 λh3 h4=>wv (AbB ⟨_,Tryz.underlying5⟩ yu3 Aa h3)<|ck h4 λh6 h7=>wv (Bh h6)<|ms Aa<|BM Aa<|wv C9<|AJ<|B2 h7 (λc167 hA=>B6 Aa<|B8<|Ao<|Bf<|by exact have hB:=BE hA hg hj;B8<|cs hB▸VH Ac2 ⟨Aa,Aa⟩) λc167 hC=>B3<|Ca<|Ax (As ((10*hd)+((C0 s hb)-48),()) hC (A7 Aa) sN))<|by rintro⟨hl,⟨⟩⟩ hh;refine EG ?_;exact have hh:KO hb hl=some he:=hh;A4<|ck hh λhD hE=>wv (Bh hD)<|Bg Aa<|have hG:=Bd hE hg;Ax (As (hq,(hl,hb+1),()) ⟨hG,Apu _⟩ (A7 Aa) sN)) λhr hH=>Bs<|Ah<|have hI:=BG hH hg hj;Ah (AN (As (hd,()) hI (A7 Aa) sN)))<|by rintro⟨hJ,⟨⟩⟩ hi;refine Gw ?_;exact have hi:KN s hJ=some r:=hi;AR<|Cy<|AV<|AA Aa<|AJ<|B2 hi (λhK hL=>AA Aa<|ck hL λhN hO=>wv (Am1 Aa hN)<|By Aa<|Ao<|cs hO▸VH Ac2 ⟨Aa,Aa⟩) λhK hP=>BW<|B6 Aa<|cs hP▸VH Ac2 ⟨Aa,Aa⟩
end Go.Proofs.YtphnhpcjnmmhiaaGreatDoor.Q
namespace Go.Proofs.YtphnhpcjnmmhiaaGreatDoor
open Go
set_option linter.unusedVariables false
set_option linter.unusedSimpArgs false
theorem Y2 {f:Nat→UInt8→Bool}:∀{l:List UInt8} {i:Nat},BB f i l=true→∀u∈l,∃j,f j u=true
 | [],_,_,u,hu=>by simp at hu
 | x::r,i,h,u,hu=>by
  simp only[BB,Aps] at h;rcases List.mem_cons.1 hu with rfl | hu
  ·exact⟨i,h.1⟩
  ·exact Y2 h.2 u hu
variable{p:List UInt8}
theorem T5 {c:UInt8}:EA p [c]=true↔∃r,p=r++[c]:=by
 simp only[EA,Aps,Apt];constructor
 ·rintro⟨_,h⟩;refine⟨p.take (p.length-1),?_⟩;rw[show(p.length-[c].length)=p.length-1 from rfl] at h;have:=Aqk (p.length-1) p;rw[h] at this;exact this.symm
 ·rintro⟨r,rfl⟩;simp
theorem AcB (r:List UInt8)(c:UInt8):M1 (r++[c]) [c]=r:=by
 have:EA (r++[c]) [c]=true:=T5.2 ⟨r,rfl⟩;simp[M1,this]
theorem AgY {q:List UInt8}(h:1≤q.length):C0 q ((q.length:Int)-1)=42↔EA q [42]=true:=by
 have e:((q.length:Int)-1).toNat=q.length-1:=by omega
 have h1:q.length-1<q.length:=by omega
 unfold C0;rw[e,Apw h1,ApE];have hd:q.drop (q.length-1)=[q[q.length-1]]:=by rw[List.drop_eq_getElem_cons h1,List.drop_of_length_le (by omega)]
 simp only[EA,Ap2,Aqh,ApQ,hd,Aps,Apt,h,true_and,List.cons.injEq,and_true];constructor
 ·intro hx;exact UInt8.toNat_inj.1 (by simpa using(by omega:q[q.length-1].toNat=42))
 ·intro hx;rw[hx];rfl
theorem Aln {q:List UInt8}(ho:EA q [42]=true):q.take ((q.length:Int)-1).toNat=M1 q [42]:=by
 obtain⟨r,rfl⟩:=T5.1 ho;rw[AcB];simp
def Qc (c:Int):Bool:=DT c||(G5 c||(decide (c=45)||decide (c=95)))
variable{k:Nat}
theorem AbE (hk:1≤k)(u:UInt8):Gb k u=Qc u.toNat:=by
 have:decide (k=0)=false:=by simp;omega
 simp only[Gb,Qc,this]
 cases DT u.toNat<;>cases G5 u.toNat<;>simp
theorem Aj2 (h:(!(decide ((p.length:Int)<1)||(decide ((24:Int)<p.length)||!DT (C0 p 0))))=true):1≤p.length∧D0 p=BB Gb 1 (p.drop 1):=by
 simp only[Ap6,ApB,Apx,ApX] at h;obtain⟨h1,h2,h3⟩:=h
 cases p with
 | nil=>simp at h1
 | cons u r=>
  have h4:DT u.toNat=true:=h3;refine⟨by simp,?_⟩;have h5:r.length+1≤24:=by simp at h2;omega
  simp[D0,BB,Gb,h4,h5]
theorem Ahn (h:(decide ((p.length:Int)<1)||(decide ((24:Int)<p.length)||!DT (C0 p 0)))=true):D0 p=false:=by
 simp only[ApD,Apt,Ap6] at h;rcases h with h | h | h
 ·simp[D0];omega
 ·simp[D0];omega
 ·cases p with
  | nil=>rfl
  | cons u r=>
   have h4:DT u.toNat=false:=h;simp[D0,BB,Gb,h4]
theorem AhI (k:Nat)(u:UInt8):L3 k u=ED u.toNat:=rfl
theorem AkG (h:(decide ((p.length:Int)<1)||decide ((64:Int)<p.length))=false):Mf p=BB L3 0 p:=by
 simp only[ApB,Apx] at h;have h1:1≤p.length:=by omega
 have h2:p.length≤64:=by omega
 simp[Mf,h1,h2]
theorem AhH (h:(decide ((p.length:Int)<1)||decide ((64:Int)<p.length))=true):Mf p=false:=by
 simp only[ApD,Apt] at h;simp[Mf];omega
theorem AcT (h:(decide ((p.length:Int)<1)||decide ((64:Int)<p.length))=true):Kd p=false:=by
 have h1:=AhH h;simp only[ApD,Apt] at h;have h2:p≠[42]:=by rintro rfl;simp at h
 rcases h with h | h
 ·cases p with
  | nil=>decide
  | cons a r=>simp at h;omega
 ·have h3:decide ((p.length:Int)≤64)=false:=by simp;omega
  simp[Kd,h1,h2,h3]
theorem Tm {f:Nat→UInt8→Bool}:∀(r:List UInt8) (i:Nat) (u:UInt8),BB f i (r++[u])=(BB f i r&&f (i+r.length) u)
 | [],i,u=>by simp[BB]
 | x::r,i,u=>by
  have:=Tm (f:=f) r (i+1) u;simp only[Aqn,BB,this,Ap2];rw[show i+1+r.length=i+(r.length+1) from by omega,Bool.and_assoc]
theorem Aix (r:List UInt8)(u:UInt8):C0 (r++[u]) (((r++[u]).length:Int)-1)=u.toNat:=by
 have e:(((r++[u]).length:Int)-1).toNat=r.length:=by simp
 unfold C0;rw[e];simp
theorem AnD (h:(decide ((p.length:Int)<1)||decide ((64:Int)<p.length))=false) :
  Kd p=(BB L3 0 (p.take (p.length-1))&&(ED (C0 p ((p.length:Int)-1))||decide (C0 p ((p.length:Int)-1)=42))):=by
 have hid:=AkG h;simp only[ApB,Apx] at h;obtain⟨h1,h2⟩:=h;obtain⟨r,u,rfl⟩:∃r u,p=r++[u]:=by
  rcases List.eq_nil_or_concat p with rfl | ⟨r,u,rfl⟩
  ·simp at h1
  ·exact⟨r,u,by simp⟩
 have ht:(r++[u]).take ((r++[u]).length-1)=r:=by simp
 rw[ht,Aix];unfold Kd;rw[hid,Tm];have hlen:r.length+1≤64:=by simp at h2;omega
 have hd:decide (((r++[u]).length:Int)≤64)=true:=by simp;omega
 rw[hd]
 by_cases hu:u=42
 ·subst hu;have hl:L3 (0+r.length) 42=false:=by simp[L3];decide
  have hs:EA (r++[42]) [42]=true:=T5.2 ⟨r,rfl⟩;rw[hl,hs,AcB];have hx:Mf r=(BB L3 0 r&&decide (1≤r.length)):=by
   have:decide (r.length≤64)=true:=by simp;omega
   simp[Mf,this]
  cases r with
  | nil=>simp[BB]
  | cons a r'=>
   rw[hx];simp
 ·have hne : ¬ ((u.toNat:Int)=42):=λe=>hu (UInt8.toNat_inj.1 (by simpa using(by omega:u.toNat=42)));have hs:EA (r++[u]) [42]=false:=by
   cases hx:EA (r++[u]) [42] with
   | false=>rfl
   | true=>
    obtain⟨r',e⟩:=T5.1 hx;exact absurd (List.append_inj_right' e rfl) (by simpa using hu)
  have hb:decide (r++[u]=[42])=false:=by
   rw[Apx];intro e;have e2:r++[u]=[]++[42]:=e;have:=List.append_inj_right' e2 rfl;exact hu (by simpa using this)
  rw[hs,hb];simp[L3,hne]
theorem Ams (h:1≤p.length):decide (C0 p ((p.length:Int)-1)=42)=EA p [42]:=by
 rw[ApM,Apt];exact AgY h
theorem Akm (p q:List UInt8):(decide ((q.length:Int)≤p.length)&&decide (List.take (Int.toNat (q.length:Int)) p=q))=Ic p q:=by
 simp[Ic]
theorem Aj8 {s:List UInt8}(h:Kd p=false):MG p s=false:=by simp[MG,h]
theorem Aff {s:List UInt8}(hp:Kd p=true)(ho:EA p [42]=true):Ic s (List.take (Int.toNat ((p.length:Int)-1)) p)=MG p s:=by
 rw[Aln ho];simp[MG,hp,ho]
theorem Afe {s:List UInt8}(hp:Kd p=true)(ho:EA p [42]=false):decide (s=p)=MG p s:=by
 simp[MG,hp,ho,eq_comm]
theorem Aif (h:J3 p=true)(h2:C0 (p.drop 1) 0=48):IH p=false:=by
 have hd:GQ p=p.drop 1:=by simp[GQ,h]
 have hp:p≠[48]:=by rintro rfl;revert h;decide
 unfold IH;rw[hd,h2];simp[hp]
theorem Aie {dg:List UInt8}(hdg:GQ p=dg)(h:(decide ((dg.length:Int)=0)||(decide ((1:Int)<dg.length)&&decide (C0 dg 0=48)))=true):IH p=false:=by
 simp only[ApD,Apt,Aps] at h;rcases h with h | ⟨h,h2⟩
 ·have:dg=[]:=ApK (by omega);simp[IH,hdg,this]
 ·have hp:p≠[48]:=by rintro rfl;have:=Aim [48];rw[hdg] at this;simp at this;omega
  simp[IH,hdg,h2,hp]
theorem Aid {dg:List UInt8}(hdg:GQ p=dg)(h0:J3 p=true→¬ ((0:Int)<dg.length∧C0 dg 0=48))(h:(decide ((dg.length:Int)=0)||(decide ((1:Int)<dg.length)&&decide (C0 dg 0=48)))=false)(ha:BB Lv 0 dg=true):IH p=true:=by
 simp only[ApB,Apx,ApN] at h;have hne:dg≠[]:=by rintro rfl;exact h.1 rfl
 have hpos:=AjD hne;simp only[IH,hdg,ha,ApT,Ap6,ApB,Apx,hne,not_false_eq_true,true_and,ApN,ApX,Apt]
 by_cases hb:C0 dg 0=48
 ·right
  cases hs:J3 p
  ·have hd:dg=p:=by rw[← hdg];simp[GQ,hs]
   subst hd;have hl:dg.length=1:=by rcases h.2 with h | h<;>omega
   match dg,hl with
   | [u],_=>
    have:(u.toNat:Int)=48:=hb;rw[show u=48 from UInt8.toNat_inj.1 (by simpa using(by omega:u.toNat=48))]
  ·exact absurd ⟨hpos,hb⟩ (h0 hs)
 ·exact .inl hb
def H8:Nat→List UInt8→Option Nat
 | n,[]=>some n
 | n,u::r=>if u.toNat=45 then H8 n r else if 1000000000000<10*n+(u.toNat-48) then none else H8 (10*n+(u.toNat-48)) r
theorem Vv (h:IH p=true)(hk:(k:Int)<p.length)(hb:¬ C0 p k=45):48≤C0 p k∧C0 p k≤57:=by
 simp only[IH,Aps] at h;obtain⟨u,hu⟩:=OT hk;rw[V1 hu] at hb ⊢;have key:u∈GQ p:=by
  have hm:=Ap4 hu;unfold GQ
  split
  ·rename_i hs
   cases p with
   | nil=>simp at hm
   | cons c r=>
    rcases List.mem_cons.1 hm with rfl | hm
    ·simp only[J3,Aps,Apt] at hs;exact absurd hs.2 hb
    ·simpa using hm
  ·exact hm
 obtain⟨j,hj⟩:=Y2 h.2 u key;simp[Lv] at hj;omega
def Akd (l:List UInt8):Prop:=∀u∈l,48≤u.toNat∧u.toNat≤57
theorem Yw {l:List UInt8}(h:BB Lv 0 l=true):Akd l:=λu hu=>by
 obtain⟨j,hj⟩:=Y2 h u hu;simp[Lv] at hj;omega
theorem AgQ:∀(l:List UInt8) (acc:Nat),Akd l→1000000000000<acc→Lib.parseUint10 acc l = .range∨∃u,Lib.parseUint10 acc l = .ok u∧1000000000000<u
 | [],acc,_,h=>.inr ⟨acc,rfl,h⟩
 | c::r,acc,hd,h=>by
  have hc:=hd c (by simp);unfold Lib.parseUint10;rw[ApW hc]
  split
  ·exact .inl rfl
  ·split
   ·exact .inl rfl
   ·exact AgQ r _ (λu hu=>hd u (by simp[hu])) (by omega)
theorem Ab3:∀(l:List UInt8) (acc:Nat),Akd l→acc≤1000000000000→(∃u,H8 acc l=some u∧Lib.parseUint10 acc l = .ok u∧u≤1000000000000)∨(H8 acc l=none∧(Lib.parseUint10 acc l = .range∨∃u,Lib.parseUint10 acc l = .ok u∧1000000000000<u))
 | [],acc,_,h=>.inl ⟨acc,rfl,rfl,h⟩
 | c::r,acc,hd,h=>by
  have hc:=hd c (by simp);have hr:Akd r:=λu hu=>hd u (by simp[hu]);have e1:Lib.parseUint10 acc (c::r)=Lib.parseUint10 (acc*10+(c.toNat-48)) r:=by
   conv=>lhs;unfold Lib.parseUint10
   rw[ApW hc,ApP (by omega),ApP (by omega)]
  have e2:H8 acc (c::r)=if 1000000000000<acc*10+(c.toNat-48) then none else H8 (acc*10+(c.toNat-48)) r:=by
   conv=>lhs;unfold H8
   rw[ApP (by omega),show 10*acc+(c.toNat-48)=acc*10+(c.toNat-48) from by omega]
  rw[e1,e2]
  by_cases hb:1000000000000<acc*10+(c.toNat-48)
  ·rw[ApW hb];exact .inr ⟨rfl,AgQ r _ hr hb⟩
  ·rw[ApP hb];exact Ab3 r _ hr (by omega)
theorem Zm:H8 0 p=H8 0 (GQ p):=by
 unfold GQ
 split
 ·rename_i hs
  cases p with
  | nil=>rfl
  | cons c r=>
   simp only[J3,Aps,Apt] at hs;have:c.toNat=45:=by have:=hs.2;simp[C0] at this;omega
   simp[H8,this]
 ·rfl
theorem AeM (h:IH p=true):(∀u,H8 0 p=some u→D1 p=0∧Cc p=if J3 p=true then -(u:Int) else u)∧(H8 0 p=none→D1 p=2∧Cc p=0):=by
 have h':=h;simp only[IH,Aps,Ap6,ApB,Apx] at h';obtain⟨⟨hne,_⟩,hall⟩:=h';have hrun:=Ab3 (GQ p) 0 (Yw hall) (by omega);have hmag:Lib.parseMag (GQ p)=Lib.parseUint10 0 (GQ p):=by unfold Lib.parseMag;rw[ApP hne]
 have hat:Lib.atoiAll p=if J3 p=true then Lib.signed (Lib.parseUint10 0 (GQ p)) else Lib.signless (Lib.parseUint10 0 (GQ p)):=by
  cases p with
  | nil=>simp[GQ,J3] at hne
  | cons c r=>
   cases hs:J3 (c::r)
   ·have hd:GQ (c::r)=c::r:=by simp[GQ,hs]
    rw[hd] at hall hmag ⊢;have hc:=Yw hall c (by simp);rw[Lib.atoiAll_plain c r (by omega) (by omega),hmag];simp
   ·have hc:c=45:=by
     simp only[J3,Aps,Apt] at hs;exact UInt8.toNat_inj.1 (by have:=hs.2;simp[C0] at this;simpa using(by omega:c.toNat=45))
    subst hc;have hd:GQ (45::r)=r:=by simp[GQ,hs]
    rw[hd] at hmag ⊢;rw[Lib.atoiAll_minus,hmag];simp
 rw[Zm];have hbig:∀u:Nat,1000000000000<u→∀v:Int,(v=u∨v = -(u:Int))→JN v=false:=λu hu v hv=>by
  rcases hv with rfl | rfl<;>simp[JN]<;>omega
 constructor
 ·intro u hu;rcases hrun with⟨u',h1,h2,h3⟩ | ⟨h1,_⟩
  ·rw[hu] at h1;cases h1;rw[h2] at hat;simp only[D1,Cc,h,Aqp,hat]
   cases J3 p
   ·have hv:JN (u:Int)=true:=by simp[JN];omega
    simp only[ApL,Aqe,Lib.signless];rw[ApP (by omega)];simp[hv]
   ·have hv:JN (-(u:Int))=true:=by simp[JN];omega
    simp only[Aqp,Lib.signed];rw[ApP (by omega)];simp[hv]
  ·rw[hu] at h1;cases h1
 ·intro hn;rcases hrun with⟨u',h1,h2,h3⟩ | ⟨_,h1⟩
  ·rw[hn] at h1;cases h1
  ·simp only[D1,Cc,h,Aqp,hat];rcases h1 with h1 | ⟨u,h1,h2⟩
   ·rw[h1];cases J3 p<;>simp[Lib.signed,Lib.signless]
   ·rw[h1]
    cases J3 p
    ·simp only[ApL,Aqe,Lib.signless]
     by_cases h9:9223372036854775808≤u<;>simp[h9,hbig u h2 _ (.inl rfl)]
    ·simp only[Aqp,Lib.signed]
     by_cases h9:9223372036854775808<u<;>simp[h9,hbig u h2 _ (.inr rfl)]
variable{n:Nat}
theorem Ag9 (hk:(k:Int)<p.length)(hi:H8 0 p=H8 n (p.drop k))(h:C0 p k=45):H8 0 p=H8 n (p.drop (k+1)):=by
 obtain⟨u,hu⟩:=OT hk;rw[V1 hu] at h;rw[hi,Mp hu,H8,ApW (by omega)]
theorem Alf (hd:IH p=true)(hk:(k:Int)<p.length)(hi:H8 0 p=H8 n (p.drop k))(h:¬ C0 p k=45)(hle:¬ (1000000000000:Int)<10*(n:Int)+(C0 p k-48)) :
  (10*(n:Int)+(C0 p k-48))=((10*n+(C0 p k-48).toNat:Nat):Int)∧H8 0 p=H8 (10*n+(C0 p k-48).toNat) (p.drop (k+1))∧10*n+(C0 p k-48).toNat≤1000000000000:=by
 have hb:=Vv hd hk h;obtain⟨u,hu⟩:=OT hk;rw[V1 hu] at h hle hb ⊢;have e:((u.toNat:Int)-48).toNat=u.toNat-48:=by omega
 refine⟨by omega,?_,by omega⟩;rw[hi,Mp hu,H8,ApP (by omega),ApP (by omega),e]
theorem Ag8 (hd:IH p=true)(hk:(k:Int)<p.length)(hi:H8 0 p=H8 n (p.drop k))(h:¬ C0 p k=45)(hle:(1000000000000:Int)<10*(n:Int)+(C0 p k-48)):H8 0 p=none:=by
 have hb:=Vv hd hk h;obtain⟨u,hu⟩:=OT hk;rw[V1 hu] at h hle hb;rw[hi,Mp hu,H8,ApP (by omega),ApW (by omega)]
theorem Aja (hi:H8 0 p=H8 n (p.drop k))(h:¬ (k:Int)<p.length):H8 0 p=some n:=by
 rw[hi,List.drop_of_length_le (by omega)];rfl
theorem Ain {p q r:Bool}:Bj p (some q) (some r)=some (bif p then q else r):=by cases p<;>rfl
theorem WR (c:Int):Yh c=some (DT c):=rfl
theorem WT (c:Int):Yj c=some (G5 c):=rfl
theorem Aad {a b c d e f g h k:Bool}:(a||(b||bif c then(d||(e||(f||(g||(h||k))))) else(e||(f||(g||(h||k))))))=(a||b||(c&&d)||e||f||g||h||k):=by cases c<;>simp[Bool.or_assoc]
theorem AbR (c:Int):TJ c=some (ED c):=by
 unfold TJ Dv;rw[WR,Ck rfl,WT,Ck rfl];simp only[Ain,Bool.cond_true_left,Aad];rfl
theorem AeL {a b c d e f g h k:Bool}:(a||bif c then(d||(b||(e||(f||(g||(h||k)))))) else(b||(e||(f||(g||(h||k))))))=(a||b||(c&&d)||e||f||g||h||k):=by cases a<;>cases b<;>cases c<;>simp[Bool.or_assoc]
theorem Se (c:Int):KS c=some (ED c):=by
 unfold KS D7;rw[show Gh c=some (DT c) from rfl,Ck rfl,show I8 c=some (G5 c) from rfl,Ck rfl];simp only[Ain,Bool.cond_true_left,AeL];rfl
theorem QV {R U:Type}{f:Nat→UInt8→Bool}{p:Ac}{body:Int→Option (Stp Int (Out R U))}{u:U}{q:R}(hp:p.length≤281474976710656)
  (hb:∀x:Int,body x=Bj (decide (x<(p.length:Int))) (AM (Cn x (p.length:Int))<|Bj (!f x.toNat ((p[x.toNat]?).getD 0)) (some (.out (.ret q))) (AM (BT .i64 (x+1))<|some (.next (x+1)))) (some (.out (.go u)))) :
  ∀(d i F:Nat),i+d=p.length→d<F→Cg body F (i:Int)=some (bif BB f i (p.drop i) then .go u else .ret q)
 | _,_,0,_,h=>by omega
 | 0,i,F+1,h,_=>by
  rw[Cg,hb,AC (Apq (by omega)),List.drop_of_length_le (by omega)];rfl
 | d+1,i,F+1,h,hF=>by
  have hi:i<p.length:=by omega
  rw[Cg,hb,AO (Apr (by omega)),AI (by omega) (by omega),A8 (by omega) (by omega),List.drop_eq_getElem_cons hi,show((i:Int)).toNat=i from by omega,Apw hi,ApE,BB]
  cases f i p[i] with
  | false=>rfl
  | true=>exact QV hp hb d (i+1) F (by omega) (by omega)
theorem AlC (h:Dl 1 n=true):n≤281474976710656:=by simp[Dl] at h;omega
variable{s:Ac}
theorem AjQ (g:Dl 1 s.length=true):AjR (s.length+1) s=some (Mf s):=by
 have hs:=AlC g;unfold AjR
 cases h:(decide ((s.length:Int)<1)||decide (64<(s.length:Int))) with
 | true=>rw[AhH h];rfl
 | false=>
  have e:=QV (f:=L3) (p:=s) (body:=λσ=>Re s σ) (u:=()) (q:=false) hs (λx=>by
   unfold Re;rw[Se,Ck rfl];rfl) s.length 0 (s.length+1) (by omega) (by omega)
  rw[AkG h];rw[List.drop_zero] at e;rw[AC rfl];refine(Ck e).trans ?_
  cases BB L3 0 s<;>rfl
theorem Afo (g:Dl 1 s.length=true):AbU (s.length+1) s=some (D0 s):=by
 have hs:=AlC g;unfold AbU;rw[show Gh (C0 s 0)=some (DT (C0 s 0)) from rfl];have h0:∀b c:Bool,imp (!decide ((s.length:Int)<1)) (imp b (Cn 0 (s.length:Int)))=true:=λb c=>by
  by_cases h:(s.length:Int)<1
  ·simp[imp,h]
  ·simp[imp,h,Cn];omega
 rw[BN (h0 _ true),BN (by simp[imp])];simp only[ov,ApE]
 cases h:(decide ((s.length:Int)<1)||(decide (24<(s.length:Int))||!DT (C0 s 0))) with
 | true=>rw[Ahn h];rfl
 | false=>
  have h1:=Aj2 (p:=s) (by rw[h];rfl);have e:=QV (f:=λ_ u=>Qc u.toNat) (p:=s) (body:=λσ=>Mi s σ) (u:=()) (q:=false) hs (λx=>by
   unfold Mi;rw[show Gh (C0 s x)=some (DT (C0 s x)) from rfl,show I8 (C0 s x)=some (G5 (C0 s x)) from rfl,BN (p:=(some _).isSome) rfl,BN (p:=imp _ _) (by simp[imp])];simp only[ov,ApE];rw[show(!Qc ((s[x.toNat]?.getD 0).toNat:Int))=(!DT (C0 s x)&&(!G5 (C0 s x)&&(!decide (C0 s x=45)&&!decide (C0 s x=95)))) from by simp only[Qc,Bool.not_or];rfl]) (s.length-1) 1 (s.length+1) (by omega) (by omega)
  have e2:∀(l:Ac) (i:Nat),1≤i→BB Gb i l=BB (λ_ u=>Qc u.toNat) i l:=λl=>by
   induction l with
   | nil=>intro i _;rfl
   | cons u r ih=>intro i hi;rw[BB,BB,AbE hi,ih (i+1) (by omega)]
  rw[h1.2,e2 _ 1 (Ap8 1)];rw[AC rfl];refine(Ck e).trans ?_
  cases BB (λ_ u=>Qc u.toNat) 1 (s.drop 1)<;>rfl
theorem Adi {dg:Ac}(hd:dg.length≤281474976710656){F:Nat}(hF:dg.length<F){body:Int→Option (Stp Int (Out Bool Unit))}(hb:∀x:Int,body x=Bj (decide (x<(dg.length:Int))) (AM (Cn x (dg.length:Int))<|Bj (decide (C0 dg x<48)||decide (57<C0 dg x)) (some (.out (.ret false))) (AM (BT .i64 (x+1))<|some (.next (x+1)))) (some (.out (.go ())))) :
  Ba (Cg body F 0) (Cm λ_=>some true)=some (BB Lv 0 dg):=by
 have e:=QV (f:=Lv) (p:=dg) (body:=body) (u:=()) (q:=false) hd (λx=>by rw[hb];simp only[Lv,Bool.not_not];rfl) dg.length 0 F (by omega) hF;rw[List.drop_zero] at e;refine(Ck e).trans ?_
 cases BB Lv 0 dg<;>rfl
theorem AcF (h:J3 s=true):1≤s.length:=by simp[J3] at h;omega
theorem AhG {a:Bool}(h:a=true→0<s.length):imp a (Cn 0 (s.length:Int))=true:=by
 cases a with
 | false=>rfl
 | true=>simp[imp,Cn];exact h rfl
theorem UQ {p dg:Ac}(hs:dg.length≤281474976710656)(hp:dg.length≤p.length)(hdg:GQ p=dg):Io (p.length+1) p dg=some (IH p):=by
 unfold Io;rw[BN (AhG (by simp;intro h;exact List.length_pos_iff.2 h))];unfold IH;rw[hdg]
 cases h:(decide (dg=([]:Ac))||(decide (C0 dg 0=48)&&!decide (p=([48]:Ac)))) with
 | true=>rfl
 | false=>
  have e:=Adi (F:=p.length+1) (body:=λσ=>Lm dg σ) hs (by omega) (λx=>rfl);rw[AC rfl,ApG,Ap7];exact e
theorem ZQ (hs:s.length≤281474976710656):UR (s.length+1) s=some (IH s):=by
 unfold UR;rw[BN (AhG (by simp))];have e:(decide ((0:Int)<s.length)&&decide (C0 s 0=45))=J3 s:=rfl;rw[e]
 cases h:J3 s with
 | false=>rw[AC rfl];exact UQ hs (Ap8 _) (by simp[GQ,h])
 | true=>
  have:=AcF h;rw[AO rfl,CU (by omega) (by omega)];exact UQ (by simp;omega) (by simp) (by simp[GQ,h])
theorem ZR {p dg:Ac}(hs:dg.length≤281474976710656)(hp:dg.length≤p.length)(hdg:GQ p=dg)(h0:J3 p=true→¬ ((0:Int)<dg.length∧C0 dg 0=48)):Kw (p.length+1) dg=some (IH p):=by
 unfold Kw;have hi:∀b:Bool,imp (!decide ((dg.length:Int)=0)) (imp b (Cn 0 (dg.length:Int)))=true:=λb=>by
  cases dg with
  | nil=>rfl
  | cons a r=>cases b<;>simp[imp,Cn]<;>omega
 rw[BN (hi _)]
 cases h:(decide ((dg.length:Int)=0)||(decide ((1:Int)<dg.length)&&decide (C0 dg 0=48))) with
 | true=>rw[Aie hdg h];rfl
 | false=>
  have e:=Adi (F:=p.length+1) (body:=λσ=>OJ dg σ) hs (by omega) (λx=>rfl);rw[AC rfl];refine e.trans ?_
  cases ha:BB Lv 0 dg with
  | false=>simp[IH,hdg,ha]
  | true=>rw[Aid hdg h0 h ha]
theorem AeX (hs:s.length≤281474976710656):Yc (s.length+1) s=some (IH s):=by
 unfold Yc;rw[BN (AhG (by simp))];have e:(decide ((0:Int)<s.length)&&decide (C0 s 0=45))=J3 s:=rfl;rw[e]
 cases h:J3 s with
 | false=>rw[AC rfl];exact ZR hs (Ap8 _) (by simp[GQ,h]) (by rw[h];intro x;cases x)
 | true=>
  have hl:=AcF h;rw[AO rfl,CU (by omega) (by omega),BN (AhG (by simp))];have hd:GQ s=s.drop 1:=by simp[GQ,h]
  cases h2:(decide ((0:Int)<(List.drop (Int.toNat 1) s).length)&&decide (C0 (List.drop (Int.toNat 1) s) 0=48)) with
  | true=>
   rw[AO rfl];simp only[Aps,Apt] at h2;rw[Aif h h2.2]
  | false=>
   rw[AC rfl];refine ZR (by simp;omega) (by simp) hd λ_ hx=>?_;rw[Apr hx.1,Apr hx.2] at h2;cases h2
variable{O S:Type}{body:S→Option (Stp S O)}
theorem AmA {s s':S}(h:body s=some (.next s')):Cg body (n+1) s=Cg body n s':=by rw[Cg,h]
theorem Am9 {s:S}{o:O}(h:body s=some (.out o)):Cg body (n+1) s=some o:=by rw[Cg,h]
def An9:Option Nat→Out (Int×Int) Int
 | some u=>.go (u:Int)
 | none=>.ret (0,2)
theorem Aj3 {n k:Int}(h:¬ k<s.length):Es s n k=some (.out (.go n)):=by
 unfold Es;rw[AC (Apq h)]
theorem Alw (hs:s.length≤281474976710656)(hn:n≤1000000000000)(h:(k:Int)<s.length)(hb:¬ C0 s k=45→48≤C0 s k∧C0 s k≤57) :
  Es s (n:Int) k=Bj (decide (C0 s k=45)) (some (.next ((n:Int),(k:Int)+1))) (Bj (decide ((1000000000000:Int)<10*(n:Int)+(C0 s k-48))) (some (.out (.ret (0,2)))) (some (.next (10*(n:Int)+(C0 s k-48),(k:Int)+1)))):=by
 unfold Es KO;rw[AO (Apr h),AI (by omega) h]
 by_cases hd:C0 s k=45
 ·rw[AO (Apr hd),AO (Apr hd),A8 (by omega) (by omega)]
 ·have hb:=hb hd;rw[AC (Apq hd),AC (Apq hd),A8 (by omega) (by omega),BN (Adq (by omega) (by omega)),A8 (by omega) (by omega),A8 (by omega) (by omega),A8 (by omega) (by omega)]
theorem Ya (hs:s.length≤281474976710656)(hd:IH s=true)(d:Nat):∀(k n F:Nat),k+d=s.length→d<F→H8 0 s=H8 n (s.drop k)→n≤1000000000000→
  Cg (λσ:Int×Int=>Es s σ.1 σ.2) F ((n:Int),(k:Int))=some (An9 (H8 0 s)):=by
 induction d with
 | zero=>
  intro k n F h hF hr hn;obtain⟨F,rfl⟩:∃m,F=m+1:=⟨F-1,by omega⟩
  have hk : ¬ (k:Int)<s.length:=by omega
  rw[Aja hr hk];exact Am9 (body:=λσ:Int×Int=>Es s σ.1 σ.2) (Aj3 hk)
 | succ d ih=>
  intro k n F h hF hr hn;obtain⟨F,rfl⟩:∃m,F=m+1:=⟨F-1,by omega⟩
  have hk:(k:Int)<s.length:=by omega
  have hb:=Alw hs hn hk (Vv hd hk);have step:=λn1=>ih (k+1) n1 F (by omega) (by omega)
  by_cases he:C0 s k=45
  ·rw[AO (Apr he)] at hb;exact(AmA (body:=λσ:Int×Int=>Es s σ.1 σ.2) hb).trans (step n (Ag9 hk hr he) hn)
  ·rw[AC (Apq he)] at hb
   by_cases hle:(1000000000000:Int)<10*(n:Int)+(C0 s k-48)
   ·rw[AO (Apr hle)] at hb;rw[Ag8 hd hk hr he hle];exact Am9 (body:=λσ:Int×Int=>Es s σ.1 σ.2) hb
   ·obtain⟨a,b,c⟩:=Alf hd hk hr he hle;rw[AC (Apq hle),a] at hb;exact(AmA (body:=λσ:Int×Int=>Es s σ.1 σ.2) hb).trans (step _ b c)
theorem AbF (g:Dl 1 s.length=true):Yb (s.length+1) s=some (Cc s,D1 s):=by
 have hs:=AlC g;unfold Yb;rw[BN (AhG (by simp)),AeX hs,Ck rfl]
 cases hd:IH s with
 | false=>simp[Bj,Cc,D1,hd]
 | true=>
  have e:=Ya hs hd s.length 0 0 (s.length+1) (by omega) (by omega) rfl (by omega);obtain⟨p1,p2⟩:=AeM hd;rw[AC (p:=!true) rfl];refine(Ck e).trans ?_
  cases hr:H8 0 s with
  | none=>rw[(p2 hr).1,(p2 hr).2];rfl
  | some u=>
   rw[(p1 u hr).1,(p1 u hr).2];have e:(decide ((0:Int)<s.length)&&decide (C0 s 0=45))=J3 s:=rfl;have hu:u≤1000000000000:=by
    have hx:=Ab3 (GQ s) 0 (Yw (by simp only[IH,Aps] at hd;exact hd.2)) (by omega);rw[Zm] at hr;rcases hx with⟨v,h1,_,h3⟩ | ⟨h1,_⟩<;>rw[hr] at h1<;>cases h1
    exact h3
   show KN s u=_;unfold KN;rw[e,A8 (by omega) (by omega)]
   cases J3 s<;>rfl
theorem AeT (m:Int):DJ m=some (JN m):=rfl
open Go Go.RowKit
set_option maxRecDepth 100000
theorem AiT (c:Int)(w:World):Calls Tryz.prog 97 [.int .i32 c].toArray w (Pj w (.bool (DT c))):=Q.Fn0.old [.int .i32 c] (Q.iSmall_w c _ (WR c)) w
theorem Akc (c:Int)(w:World):Calls Tryz.prog 98 [.int .i32 c].toArray w (Pj w (.bool (G5 c))):=Q.Fn0.old [.int .i32 c] (Q.iDigit_w c _ (WT c)) w
theorem Ah0 (c:Int)(w:World):Calls Tryz.prog 113 [.int .i32 c].toArray w (Pj w (.bool (ED c))):=Q.Fn0.old [.int .i32 c] (Q.iLetter_w c _ (AbR c)) w
theorem AiM (m:Int)(w:World):Calls Tryz.prog 157 [.int .i64 m].toArray w (Pj w (.bool (JN m))):=Q.Fn0.old [.int .i64 m] (Q.nValid_w m _ (AeT m)) w
theorem Alv (p:List UInt8)(w:World):Calls Tryz.prog 57 [.string (B p)].toArray w (Pj w (.bool (D0 p))):=by
 refine Su (n:=39) Tryz.func57 rfl Tryz.ntmps57 rfl<|AV<|A4<|Cj (BS rfl) rfl<|Az<|Ax (Cu ?_);refine AV<|AV<|A4<|Cj (AE rfl) rfl<|Wk Lb rfl rfl (λb1=>?_);refine Az<|Ax (Cu ?_);refine Au<|T0 (S:=Nat) (λ(k:Nat)=>k≤p.length∧BB Gb 0 p=BB Gb k (p.drop k)) (λ(k:Nat)=>[(0,.string (B (p))),(2,.bool (false)),(6,.pointer (some ⟨b1,0,none⟩))]) (λ(k:Nat)=>[.blk b1 (.stringIter (B p) (k))]) (λ(k:Nat)=>p.length-k) (0) ?_ ⟨rfl,rfl,rfl,trivial⟩ (.cons_cons _ (.slnil)) ?_
 ·exact⟨ApY _,by simp⟩
 rintro k hi0;refine AV<|A4<|YT (i:=0) rfl rfl rfl (λhend=>?_) (λu2 c3 wd4 hu2 hlu2 hhu2 hwu2=>?_)
 ·refine Cj (DZ rfl rfl) rfl<|Az<|Ax (Cu ?_);refine AV<|CV rfl rfl<|Bs<|Ah<|Ah<|AR<|Ax (Cu ?_);refine Ar [(2,.bool (((decide ((1)≤((p.length:Int))))&&(decide (((p.length:Int))≤(24))))))] [.blk b1 (.stringIter (B p) (k))] (φ:=True) ?_ (λhm5=>?_)
  ·refine A4<|Cj (AE rfl) rfl<|Cj (OD Lb rfl) rfl<|Cj (Ajy rfl rfl) rfl<|Cj (AE rfl) rfl<|AF (decide ((1)≤((p.length:Int)))) (λh5=>?_) (λh5=>?_)
   ·have g5:=h5;try simp only[Apt,Apx] at g5
    refine Dd rfl rfl h5<|Cj (AE rfl) rfl<|Dd rfl rfl h5<|Cj (OD Lb rfl) rfl<|Dd rfl rfl h5<|Cj (AbA rfl rfl) rfl<|Cj (E9 rfl h5 rfl) rfl<|Cj (BS rfl) rfl<|Az ?_;exact Ax (Ix trivial ⟨fb (by first | (simp only[h5,Ap7,ApO,Aqg,ApJ,ApT,Aqa,Aqd,Aqc,Ap0,ApG,Ap1,Apv,Aqp,Aqe,reduceIte,ApL];done) | simp[h5]),trivial⟩ (.cons_cons _ (.slnil)))
   ·have g5:=h5;try simp only[Apt,Apx] at g5
    refine DL rfl rfl h5 rfl<|DL rfl rfl h5 rfl<|DL rfl rfl h5 rfl<|Cj (DX rfl h5 rfl) rfl<|Cj (BS rfl) rfl<|Az ?_;exact Ax (Ix trivial ⟨fb (by first | (simp only[h5,Ap7,ApO,Aqg,ApJ,ApT,Aqa,Aqd,Aqc,Ap0,ApG,Ap1,Apv,Aqp,Aqe,reduceIte,ApL];done) | simp[h5]),trivial⟩ (.cons_cons _ (.slnil)))
  refine BO<|Ap (Ct rfl rfl) ?_;exact VI (by rw[Ahm hi0 hend])
 ·refine Cj (DZ rfl rfl) rfl<|Az<|Ax (Cu ?_);refine AV<|CG rfl rfl<|B3<|Ax (Cu ?_);refine Au<|AV<|A4<|Cj (DZ rfl rfl) rfl<|Cj (DZ rfl rfl) rfl<|Cj (BS rfl) rfl<|Cj (BS rfl) rfl<|Az<|Ax (Cu ?_);refine Ar [(0,.string (B (p))),(2,.bool (false)),(3,.int .i64 ((k:Int))),(4,.int .i32 ((c3:Int))),(6,.pointer (some ⟨b1,0,none⟩)),(7,.tuple #[.bool (true),.int .i64 ((k:Int)),.int .i32 ((c3:Int))]),(8,.bool (true)),(9,.int .i64 ((k:Int))),(10,.int .i32 ((c3:Int))),(11,.int .i32 ((c3:Int))),(12,.bool (DT (c3:Int))),(13,.bool (!(DT (c3:Int)))),(14,.bool (!(DT (c3:Int)))),(30,.bool (((!(DT (c3:Int)))&&((decide (((k:Int))=(0)))||((!(G5 (c3:Int)))&&((!(decide (((c3:Int))=(45))))&&(!(decide (((c3:Int))=(95))))))))))] [.blk b1 (.stringIter (B p) (k+wd4))] (φ:=True) ?_ (λhg=>?_)
  ·refine A4<|Cj (AE rfl) rfl<|DH Tryz.call97 rfl (λw hw=>AiT (c3:Int) w) rfl<|Cj (Nd rfl) rfl<|Cj (AE rfl) rfl<|AF (!(DT (c3:Int))) (λh7=>?_) (λh7=>?_)
   ·have g7:=h7;try simp only[Apt,Apx] at g7
    refine Dd rfl rfl h7<|Cj (AE rfl) rfl<|Dd rfl rfl h7<|Cj (Alu rfl rfl) rfl<|Dd rfl rfl h7<|Cj (AE rfl) rfl<|AF (decide (((k:Int))=(0))) (λh8=>?_) (λh8=>?_)
    ·have g8:=h8;try simp only[Apt,Apx] at g8
     refine DL rfl rfl h8 rfl<|DL rfl rfl h8 rfl<|DL rfl rfl h8 rfl<|DL rfl rfl h8 rfl<|Ef rfl rfl rfl<|Ef rfl rfl rfl<|DL rfl rfl h8 rfl<|DL rfl rfl h8 rfl<|Ef rfl rfl rfl<|Ef rfl rfl rfl<|DL rfl rfl h8 rfl<|Dd rfl rfl h7<|Cj (E9 rfl h8 rfl) rfl<|Cj (E9 rfl h7 rfl) rfl<|Az ?_;exact Ax (Ix trivial ⟨rfl,rfl,rfl,rfl,rfl,rfl,rfl,rfl,rfl,rfl,rfl,rfl,rfl,fb (by first | (simp only[h7,h8,Ap7,ApO,Aqg,ApJ,ApT,Aqa,Aqd,Aqc,Ap0,ApG,Ap1,Apv,Aqp,Aqe,reduceIte,ApL];done) | simp[h7,h8]),trivial⟩ (.cons_cons _ (.slnil)))
    ·have g8:=h8;try simp only[Apt,Apx] at g8
     refine Dd rfl rfl h8<|Cj (AE rfl) rfl<|Dd rfl rfl h8<|DH Tryz.call98 rfl (λw hw=>Akc (c3:Int) w) rfl<|Dd rfl rfl h8<|Cj (Nd rfl) rfl<|Dd rfl rfl h8<|Cj (AE rfl) rfl<|AF (!(G5 (c3:Int))) (λh9=>?_) (λh9=>?_)
     ·have g9:=h9;try simp only[Apt,Apx] at g9
      refine Dd rfl rfl h9<|Cj (AE rfl) rfl<|Dd rfl rfl h9<|Cj (Qa rfl rfl) rfl<|Dd rfl rfl h8<|Cj (E9 rfl h9 rfl) rfl<|Dd rfl rfl h8<|Cj (AE rfl) rfl<|AF (!(decide (((c3:Int))=(45)))) (λhb=>?_) (λhb=>?_)
      ·have he:=hb;try simp only[Apt,Apx] at he
       refine Dd rfl rfl hb<|Cj (AE rfl) rfl<|Dd rfl rfl hb<|Cj (Qa rfl rfl) rfl<|Dd rfl rfl h8<|Cj (E9 rfl hb rfl) rfl<|Dd rfl rfl h7<|Cj (DX rfl h8 rfl) rfl<|Cj (E9 rfl h7 rfl) rfl<|Az ?_;exact Ax (Ix trivial ⟨rfl,rfl,rfl,rfl,rfl,rfl,rfl,rfl,rfl,rfl,rfl,rfl,rfl,fb (by first | (simp only[h7,h8,h9,hb,Ap7,ApO,Aqg,ApJ,ApT,Aqa,Aqd,Aqc,Ap0,ApG,Ap1,Apv,Aqp,Aqe,reduceIte,ApL];done) | simp[h7,h8,h9,hb]),trivial⟩ (.cons_cons _ (.slnil)))
      ·have he:=hb;try simp only[Apt,Apx] at he
       refine DL rfl rfl hb rfl<|DL rfl rfl hb rfl<|Dd rfl rfl h8<|Cj (DX rfl hb rfl) rfl<|Dd rfl rfl h7<|Cj (DX rfl h8 rfl) rfl<|Cj (E9 rfl h7 rfl) rfl<|Az ?_;exact Ax (Ix trivial ⟨rfl,rfl,rfl,rfl,rfl,rfl,rfl,rfl,rfl,rfl,rfl,rfl,rfl,fb (by first | (simp only[h7,h8,h9,hb,Ap7,ApO,Aqg,ApJ,ApT,Aqa,Aqd,Aqc,Ap0,ApG,Ap1,Apv,Aqp,Aqe,reduceIte,ApL];done) | simp[h7,h8,h9,hb]),trivial⟩ (.cons_cons _ (.slnil)))
     ·have g9:=h9;try simp only[Apt,Apx] at g9
      refine DL rfl rfl h9 rfl<|DL rfl rfl h9 rfl<|Dd rfl rfl h8<|Cj (DX rfl h9 rfl) rfl<|Dd rfl rfl h8<|Cj (AE rfl) rfl<|DL rfl rfl rfl rfl<|DL rfl rfl rfl rfl<|Dd rfl rfl h8<|Cj (DX rfl rfl rfl) rfl<|Dd rfl rfl h7<|Cj (DX rfl h8 rfl) rfl<|Cj (E9 rfl h7 rfl) rfl<|Az ?_;exact Ax (Ix trivial ⟨rfl,rfl,rfl,rfl,rfl,rfl,rfl,rfl,rfl,rfl,rfl,rfl,rfl,fb (by first | (simp only[h7,h8,h9,Ap7,ApO,Aqg,ApJ,ApT,Aqa,Aqd,Aqc,Ap0,ApG,Ap1,Apv,Aqp,Aqe,reduceIte,ApL];done) | simp[h7,h8,h9]),trivial⟩ (.cons_cons _ (.slnil)))
   ·have g7:=h7;try simp only[Apt,Apx] at g7
    refine DL rfl rfl h7 rfl<|DL rfl rfl h7 rfl<|DL rfl rfl h7 rfl<|Ef rfl rfl rfl<|Ef rfl rfl rfl<|Ef rfl rfl rfl<|Ef rfl rfl rfl<|Ef rfl rfl rfl<|Ef rfl rfl rfl<|Ef rfl rfl rfl<|Ef rfl rfl rfl<|Ef rfl rfl rfl<|Ef rfl rfl rfl<|Ef rfl rfl rfl<|DL rfl rfl h7 rfl<|Cj (DX rfl h7 rfl) rfl<|Az ?_;exact Ax (Ix trivial ⟨rfl,rfl,rfl,rfl,rfl,rfl,rfl,rfl,rfl,rfl,rfl,rfl,rfl,fb (by first | (simp only[h7,Ap7,ApO,Aqg,ApJ,ApT,Aqa,Aqd,Aqc,Ap0,ApG,Ap1,Apv,Aqp,Aqe,reduceIte,ApL];done) | simp[h7]),trivial⟩ (.cons_cons _ (.slnil)))
  refine My (b:=((!(DT (c3:Int)))&&((decide (((k:Int))=(0)))||((!(G5 (c3:Int)))&&((!(decide (((c3:Int))=(45))))&&(!(decide (((c3:Int))=(95))))))))) rfl (λhd=>?_) (λhd=>?_)
  ·have hf:=hd;try simp only[Apt,Apx] at hf
   refine AV<|A4<|Cj (BS rfl) rfl<|Az<|Ax (Cu ?_);refine BO<|G9<|Ao<|G9<|Ao<|Ap (Ct rfl rfl) ?_;exact VI (by rw[Aj1 hi0 hu2 hlu2 hhu2 hd])
  ·have hf:=hd;try simp only[Apt,Apx] at hf
   refine B3<|Ca<|Ax<|As (k+wd4) ?_ ⟨rfl,rfl,rfl,trivial⟩ (.cons_cons _ (.slnil));exact AeS hi0 hu2 hlu2 hhu2 hd
theorem AnM (p:List UInt8)(w:World):Calls Tryz.prog 67 [.string (B p)].toArray w (Pj w (.bool (Mf p))):=by
 refine Su (n:=21) Tryz.func67 rfl Tryz.ntmps67 rfl<|AV<|A4<|Cj (BS rfl) rfl<|Az<|Ax (Cu ?_);refine AV<|AV<|A4<|Cj (AE rfl) rfl<|Wk Lb rfl rfl (λhe=>?_);refine Az<|Ax (Cu ?_);refine Au<|T0 (S:=Nat) (λ(k:Nat)=>k≤p.length∧BB L3 0 p=BB L3 k (p.drop k)) (λ(k:Nat)=>[(0,.string (B (p))),(2,.bool (false)),(6,.pointer (some ⟨he,0,none⟩))]) (λ(k:Nat)=>[.blk he (.stringIter (B p) (k))]) (λ(k:Nat)=>p.length-k) (0) ?_ ⟨rfl,rfl,rfl,trivial⟩ (.cons_cons _ (.slnil)) ?_
 ·exact⟨ApY _,by simp⟩
 rintro k hi0;refine AV<|A4<|YT (i:=0) rfl rfl rfl (λhend=>?_) (λhi hf hh hg hlu14 hhu14 hwu14=>?_)
 ·refine Cj (DZ rfl rfl) rfl<|Az<|Ax (Cu ?_);refine AV<|CV rfl rfl<|Bs<|Ah<|Ah<|AR<|Ax (Cu ?_);refine Ar [(2,.bool (((decide ((1)≤((p.length:Int))))&&(decide (((p.length:Int))≤(64))))))] [.blk he (.stringIter (B p) (k))] (φ:=True) ?_ (λhj=>?_)
  ·refine A4<|Cj (AE rfl) rfl<|Cj (OD Lb rfl) rfl<|Cj (Ajy rfl rfl) rfl<|Cj (AE rfl) rfl<|AF (decide ((1)≤((p.length:Int)))) (λhb=>?_) (λhb=>?_)
   ·have g17:=hb;try simp only[Apt,Apx] at g17
    refine Dd rfl rfl hb<|Cj (AE rfl) rfl<|Dd rfl rfl hb<|Cj (OD Lb rfl) rfl<|Dd rfl rfl hb<|Cj (AbA rfl rfl) rfl<|Cj (E9 rfl hb rfl) rfl<|Cj (BS rfl) rfl<|Az ?_;exact Ax (Ix trivial ⟨fb (by first | (simp only[hb,Ap7,ApO,Aqg,ApJ,ApT,Aqa,Aqd,Aqc,Ap0,ApG,Ap1,Apv,Aqp,Aqe,reduceIte,ApL];done) | simp[hb]),trivial⟩ (.cons_cons _ (.slnil)))
   ·have g17:=hb;try simp only[Apt,Apx] at g17
    refine DL rfl rfl hb rfl<|DL rfl rfl hb rfl<|DL rfl rfl hb rfl<|Cj (DX rfl hb rfl) rfl<|Cj (BS rfl) rfl<|Az ?_;exact Ax (Ix trivial ⟨fb (by first | (simp only[hb,Ap7,ApO,Aqg,ApJ,ApT,Aqa,Aqd,Aqc,Ap0,ApG,Ap1,Apv,Aqp,Aqe,reduceIte,ApL];done) | simp[hb]),trivial⟩ (.cons_cons _ (.slnil)))
  refine BO<|Ap (Ct rfl rfl) ?_;exact VI (by rw[AlD hi0 hend])
 ·refine Cj (DZ rfl rfl) rfl<|Az<|Ax (Cu ?_);refine AV<|CG rfl rfl<|B3<|Ax (Cu ?_);refine Au<|AV<|A4<|Cj (DZ rfl rfl) rfl<|Cj (BS rfl) rfl<|Az<|Ax (Cu ?_);refine AV<|A4<|Cj (AE rfl) rfl<|DH Tryz.call113 rfl (λw hw=>Ah0 (hf:Int) w) rfl<|Cj (Nd rfl) rfl<|Az<|Ax (Cu ?_);refine My (b:=!(ED (hf:Int))) rfl (λhd=>?_) (λhd=>?_)
  ·have g19:=hd;try simp only[Apt,Apx] at g19
   refine AV<|A4<|Cj (BS rfl) rfl<|Az<|Ax (Cu ?_);refine BO<|G9<|Ao<|G9<|Ao<|Ap (Ct rfl rfl) ?_;exact VI (by rw[AmD hi0 hg hlu14 hhu14 hd])
  ·have g19:=hd;try simp only[Apt,Apx] at g19
   refine B3<|Ca<|Ax<|As (k+hh) ?_ ⟨rfl,rfl,rfl,trivial⟩ (.cons_cons _ (.slnil));exact AjP hi0 hg hlu14 hhu14 hd
theorem Aam (p:List UInt8)(m:Int)(w:World):Calls Tryz.prog 211 [.string (B (p)),.int .u8 (m)].toArray w (Pj w (.int .i64 (Lib.indexByte p (Int.toNat m).toUInt8))):=by
 refine Su (n:=8) Tryz.func211 rfl Tryz.ntmps211 rfl<|AV<|A4<|Cj (BS rfl) rfl<|Az<|Ax (Cu ?_);refine AV<|A4<|Cj (AE rfl) rfl<|Cj (AE rfl) rfl<|Cj (v:=.int .i64 (Lib.indexByte p (Int.toNat (m)).toUInt8)) (Am4 rfl (Wa Tryz.func227 (by kernel_rfl) (by kernel_rfl) (by kernel_rfl) (by kernel_rfl) p (m))) rfl<|Cj (BS rfl) rfl<|Az<|Ax (Cu ?_);refine BO<|Ap (Ct rfl rfl) ?_;exact VI (by first | rfl | simp[])
theorem Af1 (p:List UInt8)(hp:p.length≤281474976710656)(w:World):Calls Tryz.prog 164 [.string (B p)].toArray w (Pj w (.bool (IH p))):=Q.Fn0.old [.string (B p)] (Q.nDecimal_w (p.length+1) p _ (ZQ hp)) w
theorem Aic (m:Int)(h0:-9223372036854775808≤m)(h1:m≤9223372036854775807)(w:World)(hE:Env w):Calls Tryz.prog 133 [.int .i64 (m)].toArray w (Pj w (.string (B (Lib.itoa m)))):=by
 refine Su (n:=5) Tryz.func133 rfl Tryz.ntmps133 rfl<|AV<|A4<|Cj (BS rfl) rfl<|Az<|Ax (Cu ?_);refine AV<|A4<|Cj (AE rfl) rfl<|DH Tryz.call145 rfl (λw hw=>AhB m (by omega) (by omega) w (hE.st0 hw)) rfl<|Cj (BS rfl) rfl<|Az<|Ax (Cu ?_);refine BO<|Ap (Ct rfl rfl) ?_;exact VI (by first | rfl | simp[])
theorem Ajk (p:List UInt8)(hp:p.length≤281474976710656)(w:World)(hE:Env w):Calls Tryz.prog 130 [.string (B (p))].toArray w (Pj w (.tuple #[.int .i64 (Cc p),.int .i64 (D1 p)])):=by
 refine Su (n:=22) Tryz.func130 rfl Tryz.ntmps130 rfl<|AV<|A4<|Cj (BS rfl) rfl<|Cj (BS rfl) rfl<|Az<|Ax (Cu ?_);refine AV<|AV<|A4<|Cj (AE rfl) rfl<|DH Tryz.call164 rfl (λw hw=>Af1 p (by first | omega | (simp;done) | (simp;omega) | (simp at *;omega)) w) rfl<|Cj (Nd rfl) rfl<|Az<|Ax (Cu ?_);refine My (b:=!(IH p)) rfl (λhd=>?_) (λhd=>?_)
 ·have hg:=hd;try simp only[Apt,Apx] at hg
  have hb:=hd;try simp only[Apt,Apx,Aps,ApD,Ap6,ApX,ApN,ApB,not_or,Int.not_lt,Int.not_le] at hb
  refine AV<|A4<|Cj (BS rfl) rfl<|Cj (BS rfl) rfl<|Az<|Ax (Cu ?_);refine BO<|Ao<|Ap (LA rfl rfl rfl) ?_;exact VI (by simp[Cc,D1,hb])
 ·have hg:=hd;try simp only[Apt,Apx] at hg
  have hb:=hd;try simp only[Apt,Apx,Aps,ApD,Ap6,ApX,ApN,ApB,not_or,Int.not_lt,Int.not_le] at hb
  refine B3<|Ax (Cu ?_);refine AV<|A4<|Cj (AE rfl) rfl ?_;rcases Aiz (p:=p) (by assumption) with⟨av,hav,hal,hah⟩ | hav
  ·refine DH Tryz.call165 rfl (λw _=>Ako p (by first | omega | (simp;done) | (simp;omega) | (simp at *;omega)) av hav w) rfl<|Cj (AE rfl) rfl<|Cj (DZ rfl rfl) rfl<|Cj (DZ rfl rfl) rfl<|Cj (BS rfl) rfl<|Cj (BS rfl) rfl<|Az<|Ax (Cu ?_);refine AV<|Ar [(2,.int .i64 (0)),(3,.int .i64 (0)),(4,.int .i64 (av)),(20,.bool (!(JN av)))] [] (φ:=True) ?_ (λhi=>?_)
   ·exact A4<|Cj (AE rfl) rfl<|Cj (ZJ Tryz.underlying185 rfl) rfl<|Cj (AE rfl) rfl<|Dd rfl rfl rfl<|Cj (AE rfl) rfl<|Dd rfl rfl rfl<|DH Tryz.call157 rfl (λw hw=>AiM av w) rfl<|Dd rfl rfl rfl<|Cj (Nd rfl) rfl<|Cj (DX rfl rfl rfl) rfl<|Az<|Ax (Ix trivial ⟨rfl,rfl,rfl,rfl,trivial⟩ .slnil)
   refine My (b:=!(JN av)) rfl (λhe=>?_) (λhe=>?_)
   ·have hh:=he;try simp only[Apt,Apx] at hh
    have hf:=he;try simp only[Apt,Apx,Aps,ApD,Ap6,ApX,ApN,ApB,not_or,Int.not_lt,Int.not_le] at hf
    refine AV<|A4<|Cj (BS rfl) rfl<|Cj (BS rfl) rfl<|Az<|Ax (Cu ?_);refine BO<|Ao<|Ap (LA rfl rfl rfl) ?_;exact VI (by simp[Cc,D1,hav,hb,hf])
   ·have hh:=he;try simp only[Apt,Apx] at hh
    have hf:=he;try simp only[Apt,Apx,Aps,ApD,Ap6,ApX,ApN,ApB,not_or,Int.not_lt,Int.not_le] at hf
    refine B3<|Ax (Cu ?_);refine AV<|A4<|Cj (AE rfl) rfl<|Cj (BS rfl) rfl<|Cj (BS rfl) rfl<|Az<|Ax (Cu ?_);refine BO<|Ap (LA rfl rfl rfl) ?_;exact VI (by simp[Cc,D1,hav,hb,hf])
  ·refine Ac5 Tryz.call165 rfl (λw hw=>Ack p (by first | omega | (simp;done) | (simp;omega) | (simp at *;omega)) hav w (hE.st0 hw)) rfl ?_;rintro _ _ ⟨am,at_,ab,rfl,rfl⟩;refine Cj (AE rfl) rfl<|Cj (DZ rfl rfl) rfl<|Cj (DZ rfl rfl) rfl<|Cj (BS rfl) rfl<|Cj (BS rfl) rfl<|Az<|Ax (Cu ?_);refine AV<|Ar [(2,.int .i64 (0)),(3,.int .i64 (0)),(4,.int .i64 (am)),(20,.bool (true))] [] (φ:=True) ?_ (λhj=>?_)
   ·exact A4<|Cj (AE rfl) rfl<|Cj (Ajx Tryz.underlying185 rfl) rfl<|Cj (AE rfl) rfl<|DL rfl rfl rfl rfl<|DL rfl rfl rfl rfl<|DL rfl rfl rfl rfl<|Cj (E9 rfl rfl rfl) rfl<|Az<|Ax (Ix trivial ⟨rfl,rfl,rfl,rfl,trivial⟩ .slnil)
   refine CG rfl rfl<|AV<|A4<|Cj (BS rfl) rfl<|Cj (BS rfl) rfl<|Az<|Ax (Cu ?_);refine BO<|Ao<|Ap (LA rfl rfl rfl) ?_;exact VI (by simp[Cc,D1,hav,hb])
end Go.Proofs.YtphnhpcjnmmhiaaGreatDoor
namespace Go.Proofs
open Go.Shelf
end Go.Proofs
namespace Go.Proofs.YtphnhpcjnmmhiaaGreatDoor.Q
open Go Go.RowKit
set_option linter.unusedVariables false
theorem Aa6 (m:Int)(g:BT .i64 m=true):Fn0 Tryz.prog GE 133 [rI .i64 m] (rS (Lib.itoa m)):=Fn0.of_old (vs:=[.int .i64 m]) λw Z hf he=>Aic m (MI g).1 (MI g).2 w (he w hf)
theorem Al9 (m:Int)(g:BT .i64 m=true):Fn0 Tryz.prog GE 145 [rI .i64 m] (rS (Lib.itoa m)):=Fn0.of_old (vs:=[.int .i64 m]) λw Z hf he=>AhB m (MI g).1 (MI g).2 w (he w hf)
theorem AcU (s:Ac)(g:Dl 1 s.length=true):Fn0 Tryz.prog GE 130 [rS s] (DW [rI .i64 (Cc s),rI .i64 (D1 s)]):=(Fn0.of_old (vs:=[.string (B s)]) λw Z hf he=>Ajk s (by simp[Dl] at g;omega) w (he w hf)).rle Hx.tup2
theorem Yz (s:Ac)(c:UInt8):Fn0 Tryz.prog GE 189 [rS s,rS [c]] (rI .i64 (Lib.countByte s c)):=Fn0.of_id (vs:=[.string (B s),.string (B [c])]) λw=>by have:=Tryz.strings_Count_one (B s) c w;rwa [Acs] at this
theorem AkE (s:Ac)(m:Int):Fn0 Tryz.prog GE 211 [rS s,rI .u8 m] (rI .i64 (Lib.indexByte s (Int.toNat m).toUInt8)):=Fn0.of_old (vs:=[.string (B s),.int .u8 m]) λw Z hf he=>Aam s m w
theorem AjO (s:Ac):Fn0 Tryz.prog GE 67 [rS s] (rB (Mf s)):=Fn0.of_old (vs:=[.string (B s)]) λw Z hf he=>AnM s w
theorem UO (s:Ac):Fn0 Tryz.prog GE 57 [rS s] (rB (D0 s)):=Fn0.of_old (vs:=[.string (B s)]) λw Z hf he=>Alv s w
theorem AkF (s:Ac)(g:Dl 1 s.length=true):Fn0 Tryz.prog GE 72 [rS s] (rB (Mf s)):=AlE (s.length+1) s _ (AjQ g)
theorem QR (s:Ac)(g:Dl 1 s.length=true):Fn0 Tryz.prog GE 59 [rS s] (rB (D0 s)):=AhM (s.length+1) s _ (Afo g)
theorem ZD (s:Ac)(g:Dl 1 s.length=true):Fn0 Tryz.prog GE 143 [rS s] (DW [rI .i64 (Cc s),rI .i64 (D1 s)]):=AeW (s.length+1) s _ (AbF g)
open Go Go.RowKit Go.ChangeShapes Go.Deep
set_option linter.unusedSimpArgs false
def ZW (W:World):Fz:=⟨λb=>W.heap[b]?,λ_ _=>none⟩
theorem ZW.frz (W:World):Frz (ZW W) W:=⟨λ_ _ h=>h,λ_ _ _ h=>by cases h⟩
def Opn (P:Program)(e:TypeId){α:Type}(enc:α→List Rp)(ok:α→Bool):Prop:=
 ∀{H:Type} {encH:TypeId×Value→H} {W:World} {sp:Nat→Bool} {held:Bool} {n:Nat} {cs:List Value} {x:DataW H×List MemPlace},DataW.trod encH P W 0 sp held n e cs=some x→∃y:α,ok y=true∧B9 (ZW W) (enc y) cs
variable{W:World}
section
variable {P : Program} {e t : TypeId}
theorem Opn.int {k:IntKind}{enc:Int→List Rp}(ht:P.underlying e=some (.int k))(he:∀n,enc n=[rI k n]):Opn P e enc (BT k):=λh=>by
 obtain⟨n,rfl,_,hwf⟩:=DataW.trod_int ht h;exact⟨n,hwf,by rw[he];exact⟨rfl,trivial⟩⟩
theorem Opn.bool {enc:Bool→List Rp}(ht:P.underlying e=some .bool)(he:∀n,enc n=[rB n]):Opn P e enc (λ_=>true):=λh=>by
 obtain⟨b,rfl,_⟩:=DataW.trod_bool ht h;exact⟨b,rfl,by rw[he];exact⟨rfl,trivial⟩⟩
theorem Xj {a:Addr}{v:Value}(h:W.cell? a=some v):a.spot=none∧LB (ZW W) a.block a.off=some v:=by
 unfold World.cell? at h;unfold LB ZW;dsimp only
 cases hh:W.heap[a.block]? with
 | none=>rw[hh] at h;cases h
 | some o=>
  rw[hh] at h
  cases o with
  | cells cs t fz=>
   cases hs:a.spot with
   | none=>simp[hs] at h;exact⟨rfl,h⟩
   | some _=>simp[hs] at h
  | _=>simp at h
theorem Lf {Z:Fz}{cs:List Value}{o:Nat}(h:cs.length=o):B9 Z [] (cs.drop o):=by rw[List.drop_of_length_le (by omega)];trivial
theorem CF {Z:Fz}{cs:List Value}{o s o':Nat}{rs rs':List Rp}(h:B9 Z rs ((cs.drop o).take s))(ho:o+s=o')(h2:B9 Z rs' (cs.drop o')):B9 Z (rs++rs') (cs.drop o):=by
 rw[← Aqk s (cs.drop o),List.drop_drop];subst ho;exact h.append h2
end
theorem Aia {w:World}(hw:Frz (ZW W) w):W.heap.size≤w.heap.size:=by
 rcases Nat.eq_zero_or_pos W.heap.size with h | h
 ·omega
 ·have h1:W.heap[W.heap.size-1]? =some (W.heap[W.heap.size-1]'(by omega)):=Array.getElem?_eq_getElem (by omega);have:=(Array.getElem?_eq_some_iff.1 (hw _ _ h1)).1;omega
theorem Afw (hE:Env W):GE (ZW W):=λw hw=>by
 have hb:Below W.heap.size W { w with os:=W.os,tape:=W.tape,output:=W.output }:=⟨rfl,rfl,rfl,(show W.heap.size≤w.heap.size from Aia hw),λk hk=>by
  have h1:W.heap[k]? =some (W.heap[k]'hk):=Array.getElem?_eq_getElem hk;rw[h1];exact hw k _ h1⟩
 have hE2:=hE.st0 (St.of_below hb);exact⟨Y5.block { w with os:=W.os,tape:=W.tape,output:=W.output } w (λ_ _=>rfl) hE2.tabs,hE2.size⟩
theorem Agw (hE:Env W):St ⟨W,ZW W,[],GE,[]⟩ [] (ZW W) W where
 os:=rfl
 tape:=rfl
 output:=rfl
 size:=Ap8 _
 old:=λ_ _ _=>rfl
 has:=λ_ h=>by cases h
 own:=λ_ h=>by cases h
 dis:=.nil
 frz:=ZW.frz W
 le:=Fz.le.refl _
 new:=λ_ _ h=>.inl h
 zdis:=λ_ h=>by cases h
 env:=Afw hE
 emono:=λh hg=>GE.mono h hg
 gst:=Ry.none rfl
theorem Agx {W':World}{Z Z':Fz}{E:Fz→Prop}{H:List Ent}(h:St ⟨W,Z,[],E,[]⟩ H Z' W'):Below W.heap.size W W':=⟨h.os,h.tape,h.output,h.size,λk hk=>h.old k hk (by simp)⟩
def EI (P:Program)(e:TypeId){α:Type}(enc:α→List Rp)(ok:α→Bool):Prop:=
 ∀{H:Type} {encH:TypeId×Value→H} {W:World} {sp:Nat→Bool} {held:Bool} {n:Nat} {cs:List Value} {x:DataW H×List MemPlace},DataW.trod encH P W 0 sp held n e cs=some x→Rows.uptoBulk x.1≤1048576→∃y:α,ok y=true∧B9 (ZW W) (enc y) cs
theorem Air {H:Type}(d:DataW H):1≤Rows.uptoBulk d:=by
 cases d with
 | lit l=>cases l<;>simp[Rows.uptoBulk]
 | _=>simp[Rows.uptoBulk]
theorem Rt {H:Type}:∀{ds:List (DataW H)} {d:DataW H},d∈ds→Rows.uptoBulk d≤Rows.uptoBulkAll ds
 | [],_,h=>by cases h
 | x::r,d,h=>by
  rw[Rows.uptoBulkAll];rcases List.mem_cons.1 h with rfl | h
  ·omega
  ·have:=Rt h;omega
theorem AaI {H:Type}:∀(ds:List (DataW H)),ds.length≤Rows.uptoBulkAll ds
 | []=>ApY _
 | x::r=>by
  rw[Rows.uptoBulkAll];have:=AaI r;have:=Air x;simp only[Ap2];omega
variable{α:Type}{ok:α→Bool}{enc:α→List Rp}
section
variable {P : Program} {e t : TypeId}
theorem Opn.toB (h:Opn P e enc ok):EI P e enc ok:=λhx _=>h hx
theorem EI.int {k:IntKind}{enc:Int→List Rp}(ht:P.underlying e=some (.int k))(he:∀n,enc n=[rI k n]):EI P e enc (BT k):=Opn.toB (Opn.int ht he)
theorem EI.bool {enc:Bool→List Rp}(ht:P.underlying e=some .bool)(he:∀n,enc n=[rB n]):EI P e enc (λ_=>true):=Opn.toB (Opn.bool ht he)
theorem EI.str {enc:Ac→List Rp}(ht:P.underlying e=some .string)(he:∀n,enc n=[rS n]):EI P e enc Jb:=λh hb=>by
 obtain⟨s,rfl,hx,hl⟩:=DataW.trod_string ht h;subst hx;simp only[Rows.uptoBulk] at hb;exact⟨s.data.toList,Apr (by omega),by rw[he];exact⟨congrArg Value.string (AoW s),trivial⟩⟩
theorem EI.slice [Inhabited α]{sz:Nat}(ht:P.underlying t=some (.slice e))(hc:P.cellsOf e=sz)(hsz:0<sz)(h:EI P e enc ok)(hlen:∀y,(enc y).length=sz){enc':List α→List Rp}(he:∀ys,enc' ys=[B4 sz (ys.map enc)]) :
  EI P t enc' (λys=>ys.all ok&&decide (ys.length≤1048576)):=fun {H encH W sp held n cs x} hx hB=>by
 rcases open_slice ht hx with⟨rfl,_⟩ | ⟨a,len,cap,m,n',D,Pl,rfl,hb,hl,hm,hmm,hxe,hel⟩
 ·exact⟨[],by simp,by rw[he];exact⟨SlZ.nil sz _,trivial⟩⟩
 ·have hlm:len≤m:=by rw[hmm];split<;>omega
  subst hxe;simp only[Rows.uptoBulk] at hB;have hlb:len≤1048576:=by
   have:=AaI ((List.range len).map D);rw[Ap9,List.length_range] at this;omega
  have each:∀i,i<len→∃y:α,ok y=true∧∃cs',W.cells? 0 (a.add (i*sz)) sz=some cs'∧B9 (ZW W) (enc y) cs':=λi hi=>by
   obtain⟨cs',h1,h2⟩:=hel i (by omega);obtain⟨y,hy,hr⟩:=h h2 (by
    have:=Rt (List.mem_map.2 ⟨i,List.mem_range.2 hi,rfl⟩:D i∈(List.range len).map D);show Rows.uptoBulk (D i)≤1048576;omega)
   rw[hc] at h1;exact⟨y,hy,cs',h1,hr⟩
  obtain⟨f,hf⟩:=choose_lt each;refine⟨(List.range len).map f,?_,?_⟩
  ·simp only[Aps,ApV,List.mem_map,List.mem_range,Apt];refine⟨?_,by simpa using hlb⟩;rintro _ ⟨i,hi,rfl⟩;exact(hf i hi).1
  ·rw[he];refine⟨⟨some a,cap,by simp,by simpa using hl,hm,(λh=>by cases h),λi c hi=>?_⟩,trivial⟩;rw[Aqo,ApI] at hi;have hil:i<len:=by
    cases hq:(List.range len)[i]? with
    | none=>rw[hq] at hi;cases hi
    | some _=>have:=(List.getElem?_eq_some_iff.1 hq).1;simpa using this
   rw[List.getElem?_range hil] at hi;simp only[Option.map_some,Option.some.injEq,Function.comp] at hi;subst hi;obtain⟨_,cs',h1,hr⟩:=hf i hil;obtain⟨_,hcl,hcell⟩:=World.cells?_some h1;have hsp:a.spot=none:=by
    obtain⟨_,cs0,g1,_⟩:=hf 0 (by omega);obtain⟨_,gcl,gcell⟩:=World.cells?_some g1;have h0:=gcell 0 hsz;rw[Apw (by omega)] at h0;have:=(Xj h0).1;simpa[Addr.add] using this
   refine⟨hlen _,a,rfl,hsp,λj r hj=>?_⟩;obtain⟨u,hu,hp⟩:=hr.at hj;have hjs:j<sz:=by have:=(List.getElem?_eq_some_iff.1 hj).1;rw[hlen] at this;exact this
   have h3:=hcell j hjs;rw[hu] at h3;have h4:=(Xj h3).2;refine⟨u,?_,hp⟩;have e1:((a.add (i*sz)).add j).block=a.block:=by simp only[Addr.add];split<;>split<;>rfl
   have e2:((a.add (i*sz)).add j).off=a.off+(i*sz+j):=by simp only[Addr.add];split<;>split<;>simp_all<;>omega
   rw[e1,e2] at h4;exact h4
theorem Cw {H:Type}{xs:List (DataW H×List MemPlace)}{i:Nat}(hi:i<xs.length)(h:Rows.uptoBulk (DataW.agg (xs.map (·.1)))≤1048576):Rows.uptoBulk (xs[i]).1≤1048576:=by
 rw[Rows.uptoBulk] at h;have:=Rt (List.mem_map.2 ⟨xs[i],List.getElem_mem hi,rfl⟩:(xs[i]).1∈xs.map (·.1));omega
theorem EI.valAgg (h:EI P e enc ok){H:Type}{encH:TypeId×Value→H}{sp:Nat→Bool}{held:Bool}{cs:Array Value}{d:DataW H}{ps:List MemPlace}
  (ht:DataW.Trod encH P W 0 sp held e (.agg cs) d ps) (hb:Rows.uptoBulk d≤1048576):∃y:α,ok y=true∧(Cz (enc y)).p (ZW W) (.agg cs):=by
 obtain⟨fuel,hf⟩:=ht;obtain⟨y,hy,hr⟩:=h hf hb;exact⟨y,hy,cs.toList,by simp,hr⟩
end
open Go
def S7 (l:(List Int)):Option ((List Int)):=
 some l
def Tl (l:(List Int))(c:Int):Option (Unit×(List Int)):=
 Ba (S7 l) λr1=>AM (Dl 1 (r1.length+([c]:List Int).length))<|some ((),r1++([c]:List Int))
def PB (l:(List Int))(s:Ac):Option (Int×Unit×(List Int)):=
 Ba (S7 l) λr1=>AM (Dl 1 (r1.length+s.length))<|some ((s.length:Int),(),r1++GL s)
def AaL (l:Ac):Option Ac:=
 AM (decide (0<(GL l).length))<|some l
def S6 (l:(List Int)):Option ((List Int)):=
 some l
def Tk (l:(List Int))(c:Int):Option (Unit×(List Int)):=
 Ba (S6 l) λr1=>AM (Dl 1 (r1.length+([c]:List Int).length))<|some ((),r1++([c]:List Int))
def PA (l:(List Int))(s:Ac):Option (Int×Unit×(List Int)):=
 Ba (S6 l) λr1=>AM (Dl 1 (r1.length+s.length))<|some ((s.length:Int),(),r1++GL s)
def AaK (l:Ac):Option Ac:=
 AM (decide (0<(GL l).length))<|some l
set_option maxRecDepth 100000
set_option maxHeartbeats 4000000
abbrev ifI (t:Nat)(z:Value)(s b:Nat):Prop:=∃inf,Tryz.prog.info? t=some inf∧inf.zero=some z∧inf.size=s∧inf.bytes=b
theorem Adp:ifI 5 (.int .u8 0) 1 1:=Ra (by kernel_rfl)
theorem Aak:∃j,Tryz.prog.info? 150=some j∧j.size≠0:=by
  have key:(Tryz.prog.info? 150).map (λi=>i.size)=some 2:=by kernel_rfl
  obtain⟨j,h1,h2⟩:=Option.map_eq_some_iff.1 key;exact⟨j,h1,by rw[h2];decide⟩
theorem Aal:∃j,Tryz.prog.info? 150=some j:=Aak.imp λ_ h=>h.1
abbrev KT (x0:Nat)(x1:Value):Ent:=.blk x0 [rP x0 0,rv x1] 150
theorem AaN (hb:Nat)(hd:Value)(l r:(List Int))(h:S7 l=some r):FN 166 [rP hb 0] [.blk hb [rv (.pointer none),rv hd] 150,.row hd 5 1 (Bu D5 l)] (λR H=>∃w0:Value,R=rv (.tuple #[])∧H=[KT hb w0,.row w0 5 1 (Bu D5 r)]):=en Tryz.func166 Tryz.ntmps166 Aa λw Z=>by unfold S7 at h;refine AA Aa<|wv Aw<|wv An<|wv (Ae 0)<|wv (LU ⟨_,YJ⟩ Aa)<|AJ<|CG Aa Aa<|B7 Aa<|wv (ZI (i:=0) YJ Tryz.underlying230 Aak Aa Aa Aa)<|Cj (r:=rP hb 0) (Aju Tryz.func195 (by kernel_rfl) (by kernel_rfl) (by kernel_rfl) (by kernel_rfl) Aa) Aa<|wv (VU (i:=0) Tryz.underlying230 YJ Aal Aa Aa (by kernel_rfl))<|wv Aw<|wv An<|us 0 Tryz.sizeOf147 Aa Aa (Cl Aa) Aa Aa ?_;exact Az<|by cases h;exact H7 (Y7 Tryz.results166) (sC (sC sN)) ⟨hd,Aa,Aa⟩
theorem Wg (hb:Nat)(hd:Value)(l:(List Int))(c:Int)(r:Unit×(List Int))(h:Tl l c=some r):FN 135 [rP hb 0,rI .u8 c] [.blk hb [rv (.pointer none),rv hd] 150,.row hd 5 1 (Bu D5 l)] (λR H=>∃w0:Value,R=rv (.nilIface)∧H=[KT hb w0,.row w0 5 1 (Bu D5 r.2)]):=en Tryz.func135 Tryz.ntmps135 Aa λw Z=>by refine AA Aa<|BM Aa<|ob h λr1 e3 h2=>EX [0,0] Tryz.call166 (AaN hb hd l r1 e3) ?_;rintro _ _ ⟨v4,rfl,rfl⟩;exact BM Aa<|wv Aw<|wv An<|wv (Ae 0)<|ms Aa<|DP ([c]:List Int) D5 Pn ys5 Tryz.zeroValue5 Aa ⟨cO Aa,trivial⟩ OW λb5=>ck h2 λg7 h8=>IM 2 Pn Adp Aa Aa (K8.w 0 Aa Aa) OW Xd g7 λv6=>by refine wv Aw<|wv An<|us 2 Po Aa Aa (DA 0 Aa) Aa Aa ?_;refine Dc<|By Aa<|JL [2] ?_;exact cs h8▸Ap (Ct Tryz.results135 AW) (sK 3) ⟨v6,Aa,Aa⟩
theorem Ty (hb:Nat)(hd:Value)(l:(List Int))(s:Ac)(r:Int×Unit×(List Int))(h:PB l s=some r):FN 132 [rP hb 0,rS s] [.blk hb [rv (.pointer none),rv hd] 150,.row hd 5 1 (Bu D5 l)] (λR H=>∃w0:Value,R=DW [AZ r.1,rv (.nilIface)]∧H=[KT hb w0,.row w0 5 1 (Bu D5 r.2.2)]):=en Tryz.func132 Tryz.ntmps132 Aa λw Z=>by refine AA Aa<|BM Aa<|ob h λr1 e3 h2=>EX [0,0] Tryz.call166 (AaN hb hd l r1 e3) ?_;rintro _ _ ⟨v4,rfl,rfl⟩;exact BM Aa<|wv Aw<|wv An<|wv (Ae 0)<|ms Aa<|ck h2 λg6 h7=>Exists.elim Adp λinf hinf=>Q2 (xs:=r1) (i:=1) Pn Lb hinf.1 hinf.2.1 hinf.2.2.1 hinf.2.2.2 Aa Aa Aa g6 Aa λv5=>by refine wv Aw<|wv An<|us 1 Po Aa Aa (DA 0 Aa) Aa Aa ?_;refine BM Aa<|wv Bo<|By Aa<|JL [1] ?_;exact cs h7▸Ap (LA Tryz.results132 AW AW) (sK 3) ⟨v5,Aa,Aa⟩
theorem Acj (hb:Nat)(hd:Value)(l r:Ac)(h:AaL l=some r):FN 82 [rP hb 0] [.blk hb [rv (.pointer none),rv hd] 150,.row hd 5 1 (Bu D5 (GL l))] (PO (rS r)):=en Tryz.func82 Tryz.ntmps82 Aa λw Z=>by refine Ay<|wv (r:=rS ([]:Ac)) AT<|BU<|ck h λg1 h2=>GK [0] [⟨[],rP hb 0,0⟩,⟨[0],rP hb 0,0⟩,⟨[1],rP hb 1,0⟩,⟨[2],rv hd,1⟩,⟨[3],rv (slp hd),1⟩,⟨[],rP hb 0,0⟩,⟨[5],rP hb 0,0⟩,⟨[6],rP hb 1,0⟩,⟨[7],rv hd,1⟩,⟨[8],AZ ((GL l).length:Int),1⟩,⟨[4,9],rS l,2⟩,⟨[10],rS l,0⟩] (rle [(11,_),(2,[.blk hb [rv (.pointer none),rv hd] 150])]) [2] ?_ ?_;refine oq (AE Aa)<|oq (BK Aa)<|oq (Aq YI Aa Po Aa Aa)<|of (AY 0 YS Aa Aa Aa)<|of (SW (i:=1) Aa Aa (TE g1))<|oq (AE Aa)<|oq (BK Aa)<|oq (Aq YI Aa Po Aa Aa)<|of (AY 0 YS Aa Aa Aa)<|of (CS 1 Pn Aa Aa)<|Gu Aa (Amu (Om (i:=1) Tryz.underlying193 (by kernel_rfl) Aa Aa Aa (TE g1) Aa)) ?_;exact oq (BS Aa)<|E8;exact Cy<|BO<|cs h2▸Ap (Ct Tryz.results82 AW) (sS sN) ⟨Aa,Aa⟩
theorem AaM (hb:Nat)(hd:Value)(l r:(List Int))(h:S6 l=some r):FN 166 [rP hb 0] [KT hb hd,.row hd 5 1 (Bu D5 l)] (λR H=>∃w0:Value,R=rv (.tuple #[])∧H=[KT hb w0,.row w0 5 1 (Bu D5 r)]):=en Tryz.func166 Tryz.ntmps166 Aa λw Z=>by unfold S6 at h;exact AA Aa<|wv Aw<|wv An<|wv (Ae 0)<|wv (Hk ⟨_,YJ⟩ Aa)<|AJ<|CV Aa Aa<|AA Aa<|wv Aw<|wv An<|wv (Ae 0)<|ms Aa<|wv (Ab9 YJ Aal Aa Aa)<|AJ<|CV Aa Aa<|B3<|by cases h;exact H7 (Y7 Tryz.results166) (sC (sC sN)) ⟨hd,Aa,Aa⟩
theorem Wf (hb:Nat)(hd:Value)(l:(List Int))(c:Int)(r:Unit×(List Int))(h:Tk l c=some r):FN 135 [rP hb 0,rI .u8 c] [KT hb hd,.row hd 5 1 (Bu D5 l)] (λR H=>∃w0:Value,R=rv (.nilIface)∧H=[KT hb w0,.row w0 5 1 (Bu D5 r.2)]):=en Tryz.func135 Tryz.ntmps135 Aa λw Z=>by refine AA Aa<|BM Aa<|ob h λr1 e3 h2=>EX [0,0] Tryz.call166 (AaM hb hd l r1 e3) ?_;rintro _ _ ⟨v4,rfl,rfl⟩;exact BM Aa<|wv Aw<|wv An<|wv (Ae 0)<|ms Aa<|DP ([c]:List Int) D5 Pn ys5 Tryz.zeroValue5 Aa ⟨cO Aa,trivial⟩ OW λb5=>ck h2 λg7 h8=>IM 2 Pn Adp Aa Aa (K8.w 0 Aa Aa) OW Xd g7 λv6=>by refine wv Aw<|wv An<|us 2 Po Aa Aa (DA 0 Aa) Aa Aa ?_;refine Dc<|By Aa<|JL [2] ?_;exact cs h8▸Ap (Ct Tryz.results135 AW) (sK 3) ⟨v6,Aa,Aa⟩
theorem Tx (hb:Nat)(hd:Value)(l:(List Int))(s:Ac)(r:Int×Unit×(List Int))(h:PA l s=some r):FN 132 [rP hb 0,rS s] [KT hb hd,.row hd 5 1 (Bu D5 l)] (λR H=>∃w0:Value,R=DW [AZ r.1,rv (.nilIface)]∧H=[KT hb w0,.row w0 5 1 (Bu D5 r.2.2)]):=en Tryz.func132 Tryz.ntmps132 Aa λw Z=>by refine AA Aa<|BM Aa<|ob h λr1 e3 h2=>EX [0,0] Tryz.call166 (AaM hb hd l r1 e3) ?_;rintro _ _ ⟨v4,rfl,rfl⟩;exact BM Aa<|wv Aw<|wv An<|wv (Ae 0)<|ms Aa<|ck h2 λg6 h7=>Exists.elim Adp λinf hinf=>Q2 (xs:=r1) (i:=1) Pn Lb hinf.1 hinf.2.1 hinf.2.2.1 hinf.2.2.2 Aa Aa Aa g6 Aa λv5=>by refine wv Aw<|wv An<|us 1 Po Aa Aa (DA 0 Aa) Aa Aa ?_;refine BM Aa<|wv Bo<|By Aa<|JL [1] ?_;exact cs h7▸Ap (LA Tryz.results132 AW AW) (sK 3) ⟨v5,Aa,Aa⟩
theorem Aci (hb:Nat)(hd:Value)(l r:Ac)(h:AaK l=some r):FN 82 [rP hb 0] [KT hb hd,.row hd 5 1 (Bu D5 (GL l))] (PO (rS r)):=en Tryz.func82 Tryz.ntmps82 Aa λw Z=>by refine Ay<|wv (r:=rS ([]:Ac)) AT<|BU<|ck h λg1 h2=>GK [0] [⟨[],rP hb 0,0⟩,⟨[0],rP hb 0,0⟩,⟨[1],rP hb 1,0⟩,⟨[2],rv hd,1⟩,⟨[3],rv (slp hd),1⟩,⟨[],rP hb 0,0⟩,⟨[5],rP hb 0,0⟩,⟨[6],rP hb 1,0⟩,⟨[7],rv hd,1⟩,⟨[8],AZ ((GL l).length:Int),1⟩,⟨[4,9],rS l,2⟩,⟨[10],rS l,0⟩] (rle [(11,_),(2,[KT hb hd])]) [2] ?_ ?_;refine oq (AE Aa)<|oq (BK Aa)<|oq (Aq YI Aa Po Aa Aa)<|of (AY 0 YS Aa Aa Aa)<|of (SW (i:=1) Aa Aa (TE g1))<|oq (AE Aa)<|oq (BK Aa)<|oq (Aq YI Aa Po Aa Aa)<|of (AY 0 YS Aa Aa Aa)<|of (CS 1 Pn Aa Aa)<|Gu Aa (Amu (Om (i:=1) Tryz.underlying193 (by kernel_rfl) Aa Aa Aa (TE g1) Aa)) ?_;exact oq (BS Aa)<|E8;exact Cy<|BO<|cs h2▸Ap (Ct Tryz.results82 AW) (sS sN) ⟨Aa,Aa⟩
abbrev GM (x0:Nat)(x1:Value)(x2:Ac):List Ent:=[.bld 150 5 x0 x1 x2]
theorem DD (b:Nat)(v:Value)(l:Ac)(c:Int)(g1:Dl 1 (l.length+1)=true)(g2:BT .u8 c=true):FN 135 [rP b 0,rI .u8 c] (GM b v l) (λR H=>∃w0:Value,R=rv .nilIface∧H=(GM b w0 (l++[UInt8.ofNat c.toNat]))):=by
  have hc:GL (l++[UInt8.ofNat c.toNat])=GL l++[c]:=by
    have:=(by simpa[BT,IntKind.min,IntKind.max,IntKind.signed,IntKind.bits] using g2:0≤c∧c≤255)
    simp only[GL,List.map_append,Aqj,List.map_nil]
    congr 2
    simp;omega
  refine Fn.bld (res:=rv .nilIface) λp hp=>?_;rw[hc];rcases hp with rfl | rfl
  · refine(Wg b v (GL l) c (((),GL l++[c])) ?_).sub (KZ.refl _) (λr H h=>by obtain⟨w0,h1,h2⟩:=h;exact⟨w0,h1,h2⟩)
    simp only[Tl,S7,Ba,GU];simp[AM,g1]
  · refine(Wf b v (GL l) c (((),GL l++[c])) ?_).sub (KZ.refl _) (λr H h=>by obtain⟨w0,h1,h2⟩:=h;exact⟨w0,h1,h2⟩)
    simp only[Tk,S6,Ba,GU];simp[AM,g1]
theorem Jq (b:Nat)(v:Value)(l s:Ac)(g1:Dl 1 (l.length+s.length)=true):FN 132 [rP b 0,rS s] (GM b v l) (λR H=>∃w0:Value,R=DW [AZ (s.length:Int),rv .nilIface]∧H=(GM b w0 (l++s))):=by
  have hc:GL (l++s)=GL l++GL s:=by simp[GL]
  refine Fn.bld (res:=DW [AZ (s.length:Int),rv .nilIface]) λp hp=>?_;rw[hc];rcases hp with rfl | rfl
  · refine(Ty b v (GL l) s (((s.length:Int),(),GL l++GL s)) ?_).sub (KZ.refl _) (λr H h=>by obtain⟨w0,h1,h2⟩:=h;exact⟨w0,h1,h2⟩)
    simp only[PB,S7,Ba,GU];simp[AM,g1]
  · refine(Tx b v (GL l) s (((s.length:Int),(),GL l++GL s)) ?_).sub (KZ.refl _) (λr H h=>by obtain⟨w0,h1,h2⟩:=h;exact⟨w0,h1,h2⟩)
    simp only[PA,S6,Ba,GU];simp[AM,g1]
theorem Xk (b:Nat)(v:Value)(l:Ac)(g1:Bm (0<l.length)=true):FN 82 [rP b 0] (GM b v l) (PO (rS l)):=by
  refine Fn.bldS (res:=rS l) λp hp=>?_;rcases hp with rfl | rfl
  · exact Acj b v l l (by simp only[AaL,GU];simp[AM,g1])
  · exact Aci b v l l (by simp only[AaK,GU];simp[AM,g1])
end Go.Proofs.YtphnhpcjnmmhiaaGreatDoor.Q
namespace Go.Proofs.YtphnhpcjnmmhiaaGreatDoor
open Go
set_option linter.unusedVariables false
structure Ab where
 fKind:Int
 fInt:Int
 fStr:Ac
 fN:Int
 deriving DecidableEq,Inhabited
def RJ (s:Ac)(hb:Int):Option (Stp Int (Out Bool Unit)):=
 Bj (decide (hb<(s.length:Int))) (AM (Cn hb (s.length:Int))<|Bj (((decide ((C0 s hb)<32))||(decide (126<(C0 s hb))))) (some (.out (.ret false))) (AM (BT .i64 (hb+1))<|some (.next (hb+1)))) (some (.out (.go ())))
def O0 :Option Bool:=
 some true
def PU (F:Nat)(s:Ac):Option Bool:=
 Ba (Cg (λσ=>RJ s σ) F 0) (Cm λν=>O0 )
def CN (ok:Bool)(i:Int):Option Int:=
 Bj ok (AM (BT .i64 (i+1))<|some (i+1)) (some (-1))
def VL (F:Nat)(c:Ab):Option Bool:=
 AM (imp (decide (c.fKind=4)) (imp (decide (c.fInt=0)) (imp (decide (c.fN=0)) (PU F c.fStr).isSome)))<|some ((decide (c.fKind=4))&&((decide (c.fInt=0))&&((decide (c.fN=0))&&(ov (PU F c.fStr)))))
def XI (F:Nat)(hb hd:(List Ab)→Int→Int→Option Int)(v:(List Ab))(i:Int):Option Int:=
 Bj (((decide (i<0))||(decide ((v.length:Int)≤i)))) (some (-1)) (AM (Cn i (v.length:Int))<|Bj (decide ((Af v i).fKind=1)) (AM (imp (decide ((Af v i).fInt=0)) (imp (decide ((Af v i).fStr=([]:Ac))) (CN (decide ((Af v i).fN=0)) i).isSome))<|AM (imp (decide ((Af v i).fInt=0)) (imp (!(decide ((Af v i).fStr=([]:Ac)))) (CN false i).isSome))<|AM (imp (!(decide ((Af v i).fInt=0))) (CN false i).isSome)<|some (bif decide ((Af v i).fInt=0) then(bif decide ((Af v i).fStr=([]:Ac)) then(ov (CN (decide ((Af v i).fN=0)) i)) else(ov (CN false i))) else(ov (CN false i)))) (Bj (decide ((Af v i).fKind=2)) (AM (imp (decide ((Af v i).fInt=0)) (imp (decide ((Af v i).fStr=([]:Ac))) (CN (decide ((Af v i).fN=0)) i).isSome))<|AM (imp (decide ((Af v i).fInt=0)) (imp (!(decide ((Af v i).fStr=([]:Ac)))) (CN false i).isSome))<|AM (imp (!(decide ((Af v i).fInt=0))) (imp (decide ((Af v i).fInt=1)) (imp (decide ((Af v i).fStr=([]:Ac))) (CN (decide ((Af v i).fN=0)) i).isSome)))<|AM (imp (!(decide ((Af v i).fInt=0))) (imp (decide ((Af v i).fInt=1)) (imp (!(decide ((Af v i).fStr=([]:Ac)))) (CN false i).isSome)))<|AM (imp (!(decide ((Af v i).fInt=0))) (imp (!(decide ((Af v i).fInt=1))) (CN false i).isSome))<|some (bif decide ((Af v i).fInt=0) then(bif decide ((Af v i).fStr=([]:Ac)) then(ov (CN (decide ((Af v i).fN=0)) i)) else(ov (CN false i))) else(bif decide ((Af v i).fInt=1) then(bif decide ((Af v i).fStr=([]:Ac)) then(ov (CN (decide ((Af v i).fN=0)) i)) else(ov (CN false i))) else(ov (CN false i))))) (Bj (decide ((Af v i).fKind=3)) (AM (imp (decide ((Af v i).fStr=([]:Ac))) (CN (decide ((Af v i).fN=0)) i).isSome)<|AM (imp (!(decide ((Af v i).fStr=([]:Ac)))) (CN false i).isSome)<|some (bif decide ((Af v i).fStr=([]:Ac)) then(ov (CN (decide ((Af v i).fN=0)) i)) else(ov (CN false i)))) (Bj (decide ((Af v i).fKind=4)) (Ba (VL F (Af v i)) λhe=>Ba (CN he i) λhf=>some hf) (Bj (((decide ((Af v i).fKind=5))&&((decide ((Af v i).fInt=0))&&((decide ((Af v i).fStr=([]:Ac)))&&(decide (0≤(Af v i).fN)))))) (AM (BT .i64 (i+1))<|Ba (hb v (i+1) (Af v i).fN) λhg=>some hg) (Bj (((decide ((Af v i).fKind=6))&&((decide ((Af v i).fInt=0))&&((decide ((Af v i).fStr=([]:Ac)))&&(decide (0≤(Af v i).fN)))))) (AM (BT .i64 (i+1))<|Ba (hd v (i+1) (Af v i).fN) λhh=>some hh) (some (-1))))))))
def EN (v:(List Ab))(n:Int)(hf:(List Ab)→Int→Option Int)(hd hb:Int):Option (Stp (Int×Int) (Out Int Int)):=
 Bj (decide (hb<n)) (Ba (hf v hd) λhe=>Bj (decide (he<0)) (some (.out (.ret (-1)))) (AM (BT .i64 (hb+1))<|some (.next (he,hb+1)))) (some (.out (.go hd)))
def Hy (hb:Int):Option Int:=
 some hb
def PX (F:Nat)(hb:(List Ab)→Int→Option Int)(v:(List Ab))(i n:Int):Option Int:=
 Ba (Cg (λσ=>EN v n hb σ.1 σ.2) F (i,0)) (Cm λν=>Hy ν)
def GC (F:Nat)(v:(List Ab))(n:Int)(hg:(List Ab)→Int→Option Int)(hb:Int)(he:Ac)(hd:Int):Option (Stp (Int×Ac×Int) (Out Int Int)):=
 Bj (decide (hd<n)) (AM (imp (!(decide ((v.length:Int)≤hb))) (Cn hb (v.length:Int)))<|AM (imp (!(decide ((v.length:Int)≤hb))) (VL F (Af v hb)).isSome)<|Bj (((decide ((v.length:Int)≤hb))||((!(ov (VL F (Af v hb))))||((decide (0<hd))&&(Cr (Af v hb).fStr he||decide ((Af v hb).fStr=he)))))) (some (.out (.ret (-1)))) (AM (Cn hb (v.length:Int))<|AM (BT .i64 (hb+1))<|Ba (hg v (hb+1)) λhf=>Bj (decide (hf<0)) (some (.out (.ret (-1)))) (AM (BT .i64 (hd+1))<|some (.next (hf,(Af v hb).fStr,hd+1))))) (some (.out (.go hb)))
def Km (hb:Int):Option Int:=
 some hb
def XH (F:Nat)(hb:(List Ab)→Int→Option Int)(v:(List Ab))(i n:Int):Option Int:=
 Ba (Cg (λσ=>GC F v n hb σ.1 σ.2.1 σ.2.2) F (i,([]:Ac),0)) (Cm λν=>Km ν)
mutual
def Gt:Nat→(List Ab)→Int→Option Int
 | 0,_,_=>none
 | nn+1,v,i=>XI nn (Kq nn) (RK nn) v i
def Kq:Nat→(List Ab)→Int→Int→Option Int
 | 0,_,_,_=>none
 | nn+1,v,i,n=>PX nn (Gt nn) v i n
def RK:Nat→(List Ab)→Int→Int→Option Int
 | 0,_,_,_=>none
 | nn+1,v,i,n=>XH nn (Gt nn) v i n
end
def TA (F:Nat)(v:(List Ab)):Option Bool:=
 AM (imp (decide (0<(v.length:Int))) (Gt F v 0).isSome)<|some ((decide (0<(v.length:Int)))&&(decide ((ov (Gt F v 0))=(v.length:Int))))
def E4 (F:Nat)(v:(List Ab))(i:Int)(hf:(List Ab)→Int→Option Int)(he hd hb:Int):Option (Stp (Int×Int×Int) (Out Int Int)):=
 Bj (decide (hb<(Af v i).fN)) (Bj (decide ((Af v i).fKind=6)) (AM (BT .i64 (hd+1))<|Ba (hf v (hd+1)) λhg=>Bj (decide (he<hg)) (Ba (Gt F v (hd+1)) λhi=>AM (BT .i64 (hb+1))<|some (.next (hg,hi,hb+1))) (Ba (Gt F v (hd+1)) λhj=>AM (BT .i64 (hb+1))<|some (.next (he,hj,hb+1)))) (Ba (hf v hd) λhh=>Bj (decide (he<hh)) (Ba (Gt F v hd) λhk=>AM (BT .i64 (hb+1))<|some (.next (hh,hk,hb+1))) (Ba (Gt F v hd) λhl=>AM (BT .i64 (hb+1))<|some (.next (he,hl,hb+1))))) (some (.out (.go he)))
def HW (hb:Int):Option Int:=
 AM (BT .i64 (hb+1))<|some (hb+1)
def NF (F:Nat)(hb:(List Ab)→Int→Option Int)(v:(List Ab))(i:Int):Option Int:=
 AM (Cn i (v.length:Int))<|Bj (((!decide ((Af v i).fKind=5))&&(!decide ((Af v i).fKind=6)))) (some 1) (AM (BT .i64 (i+1))<|Ba (Cg (λσ=>E4 F v i hb σ.1 σ.2.1 σ.2.2) F (0,i+1,0)) (Cm λν=>HW ν))
def EC:Nat→(List Ab)→Int→Option Int
 | 0,_,_=>none
 | nn+1,v,i=>NF nn (EC nn) v i
def EZ (s hd:Ac)(hb:Int):Option (Stp (Ac×Int) (Out Ac Ac)):=
 Bj (decide (hb<(s.length:Int))) (AM (Cn hb (s.length:Int))<|Bj (((decide ((C0 s hb)=34))||(decide ((C0 s hb)=92)))) (AM (BT .i64 ((hd.length:Int)+(([92]:Ac).length:Int)))<|AM (BT .i64 (hb+1))<|AM (IG hb (hb+1))<|AM (IG (hb+1) (s.length:Int))<|AM (BT .i64 (((hd++([92]:Ac)).length:Int)+((List.take (Int.toNat (hb+1)-Int.toNat hb) (List.drop (Int.toNat hb) s)).length:Int)))<|some (.next ((hd++([92]:Ac))++(List.take (Int.toNat (hb+1)-Int.toNat hb) (List.drop (Int.toNat hb) s)),hb+1))) (AM (BT .i64 (hb+1))<|AM (IG hb (hb+1))<|AM (IG (hb+1) (s.length:Int))<|AM (BT .i64 ((hd.length:Int)+((List.take (Int.toNat (hb+1)-Int.toNat hb) (List.drop (Int.toNat hb) s)).length:Int)))<|some (.next (hd++(List.take (Int.toNat (hb+1)-Int.toNat hb) (List.drop (Int.toNat hb) s)),hb+1)))) (some (.out (.go hd)))
def Hb (hb:Ac):Option Ac:=
 AM (BT .i64 ((hb.length:Int)+(([34]:Ac).length:Int)))<|some (hb++([34]:Ac))
def Oz (F:Nat)(s:Ac):Option Ac:=
 Ba (Cg (λσ=>EZ s σ.1 σ.2) F (([34]:Ac),0)) (Cm λν=>Hb ν)
def HD (F:Nat)(v:(List Ab))(i:Int)(hf:(List Ab)→Int→Option Ac)(hb:Ac)(hd he:Int):Option (Stp (Ac×Int×Int) (Out Ac Ac)):=
 Bj (decide (he<(Af v i).fN)) (Bj (decide (0<he)) (AM (BT .i64 ((hb.length:Int)+(([44]:Ac).length:Int)))<|Bj (decide ((Af v i).fKind=6)) (AM (Cn hd (v.length:Int))<|Ba (Oz F (Af v hd).fStr) λhg=>AM (BT .i64 (((hb++([44]:Ac)).length:Int)+(hg.length:Int)))<|AM (BT .i64 ((((hb++([44]:Ac))++hg).length:Int)+(([58]:Ac).length:Int)))<|AM (BT .i64 (hd+1))<|Ba (hf v (hd+1)) λhi=>AM (BT .i64 (((((hb++([44]:Ac))++hg)++([58]:Ac)).length:Int)+(hi.length:Int)))<|Ba (Gt F v (hd+1)) λhm=>AM (BT .i64 (he+1))<|some (.next ((((hb++([44]:Ac))++hg)++([58]:Ac))++hi,hm,he+1))) (Ba (hf v hd) λhj=>AM (BT .i64 (((hb++([44]:Ac)).length:Int)+(hj.length:Int)))<|Ba (Gt F v hd) λhn=>AM (BT .i64 (he+1))<|some (.next ((hb++([44]:Ac))++hj,hn,he+1)))) (Bj (decide ((Af v i).fKind=6)) (AM (Cn hd (v.length:Int))<|Ba (Oz F (Af v hd).fStr) λhh=>AM (BT .i64 ((hb.length:Int)+(hh.length:Int)))<|AM (BT .i64 (((hb++hh).length:Int)+(([58]:Ac).length:Int)))<|AM (BT .i64 (hd+1))<|Ba (hf v (hd+1)) λhk=>AM (BT .i64 ((((hb++hh)++([58]:Ac)).length:Int)+(hk.length:Int)))<|Ba (Gt F v (hd+1)) λhp=>AM (BT .i64 (he+1))<|some (.next (((hb++hh)++([58]:Ac))++hk,hp,he+1))) (Ba (hf v hd) λhl=>AM (BT .i64 ((hb.length:Int)+(hl.length:Int)))<|Ba (Gt F v hd) λhq=>AM (BT .i64 (he+1))<|some (.next (hb++hl,hq,he+1))))) (some (.out (.go hb)))
def LK (v:(List Ab))(i:Int)(hb:Ac):Option Ac:=
 Bj (decide ((Af v i).fKind=6)) (AM (BT .i64 ((([123]:Ac).length:Int)+(hb.length:Int)))<|AM (BT .i64 (((([123]:Ac)++hb).length:Int)+(([125]:Ac).length:Int)))<|some ((([123]:Ac)++hb)++([125]:Ac))) (AM (BT .i64 ((([91]:Ac).length:Int)+(hb.length:Int)))<|AM (BT .i64 (((([91]:Ac)++hb).length:Int)+(([93]:Ac).length:Int)))<|some ((([91]:Ac)++hb)++([93]:Ac)))
def Uu (F:Nat)(hb:(List Ab)→Int→Option Ac)(v:(List Ab))(i:Int):Option Ac:=
 AM (Cn i (v.length:Int))<|Bj (decide ((Af v i).fKind=1)) (some ([110,117,108,108]:Ac)) (Bj (decide ((Af v i).fKind=2)) (Bj (decide ((Af v i).fInt=1)) (some ([116,114,117,101]:Ac)) (some ([102,97,108,115,101]:Ac))) (Bj (decide ((Af v i).fKind=3)) (AM (BT .i64 (Af v i).fInt)<|some (Lib.itoa (Af v i).fInt)) (Bj (decide ((Af v i).fKind=4)) (Ba (Oz F (Af v i).fStr) λhd=>some hd) (AM (BT .i64 (i+1))<|Ba (Cg (λσ=>HD F v i hb σ.1 σ.2.1 σ.2.2) F (([]:Ac),i+1,0)) (Cm λν=>LK v i ν)))))
def J5:Nat→(List Ab)→Int→Option Ac
 | 0,_,_=>none
 | nn+1,v,i=>Uu nn (J5 nn) v i
def Ii (v:(List Ab))(hb:Int):Option (Stp Int (Out Int Unit)):=
 Bj (decide (hb<(v.length:Int))) (AM (Cn hb (v.length:Int))<|Bj (decide (200<((Af v hb).fStr.length:Int))) (some (.out (.ret 3))) (AM (BT .i64 (hb+1))<|some (.next (hb+1)))) (some (.out (.go ())))
def O5 (F:Nat)(v:(List Ab)):Option Int:=
 Ba (J5 F v 0) λhb=>Bj (decide (4000<(hb.length:Int))) (some 3) (some 0)
def Ij (v:(List Ab))(hb:Int):Option (Stp Int (Out Int Unit)):=
 Bj (decide (hb<(v.length:Int))) (AM (Cn hb (v.length:Int))<|Bj (((decide ((Af v hb).fKind=3))&&((decide ((Af v hb).fInt<(-1000000000000)))||(decide (1000000000000<(Af v hb).fInt))))) (some (.out (.ret 2))) (AM (BT .i64 (hb+1))<|some (.next (hb+1)))) (some (.out (.go ())))
def O6 (F:Nat)(v:(List Ab)):Option Int:=
 AM (imp (!(decide (200<(v.length:Int)))) (EC F v 0).isSome)<|Bj (((decide (200<(v.length:Int)))||(decide (8<(ov (EC F v 0)))))) (some 3) (Ba (Cg (λσ=>Ii v σ) F 0) (Cm λν=>O5 F v ))
def I1 (F:Nat)(v:(List Ab)):Option Int:=
 Ba (TA F v) λr1=>Bj (!r1) (some 1) (Ba (Cg (λσ=>Ij v σ) F 0) (Cm λν=>O6 F v ))
def O4 (F:Nat)(v:(List Ab)):Option (Ac×Int):=
 Ba (I1 F v) λr1=>Bj (!decide (r1=0)) (some (([]:Ac),r1)) (Ba (J5 F v 0) λr7=>some (r7,0))
end Go.Proofs.YtphnhpcjnmmhiaaGreatDoor
namespace Go.Proofs.YtphnhpcjnmmhiaaGreatDoor.Q
open Go Go.RowKit
set_option linter.unusedVariables false
set_option linter.unusedSimpArgs false
set_option maxRecDepth 100000
set_option maxHeartbeats 4000000
@[reducible] def A5 (x:Ab):List Rp:=[AZ x.fKind,AZ x.fInt,rS x.fStr,AZ x.fN]
theorem Dh (x:Ab):(A5 x).length=4:=rfl
theorem P7 (x:Ab):(A5 x).all (·.one)=true:=rfl
theorem AgH (F:Nat)(s:Ac)(r:Bool)(h:PU F s=some r):FN 198 [rS s] [] (PO (rB r)):=en Tryz.func198 Tryz.ntmps198 Aa λw Z=>AA Aa<|BD Aa<|AJ<|Au<|ob h λhj hk hh=>Bk (V:=Unit×Unit) 0 (λσ=>Cg (λσ=>RJ s σ) σ.1 σ.2.1=some hj) (λσ=>[(0,rS s),(3,AZ σ.2.1)]) (λσ=>[]) (λσ=>σ.1) (F,0,()) hk (A7 Aa) sN (λσ=>O0 =some r) (λσ=>[]) (λσ=>[]) (by rintro⟨h1,hd,⟨⟩⟩ hl;refine EG ?_;obtain⟨hm,rfl,t37,hf,hg⟩:=Cq hl;have hf:RJ s hd=some t37:=hf;exact AV<|AA Aa<|wv Bo<|wv BI<|AJ<|B2 hf (λhn hp=>Bt<|Au<|ck hp λhi hq=>Ar [(0,rS s),(3,AZ hd),(19,rB ((Bm ((C0 s hd)<32))||(Bm (126<(C0 s hd)))))] [] (B7 Aa<|wv (BH hi)<|wv BI<|ms Aa<|AF (Bm ((C0 s hd)<32)) (λhb=>CB hb Aa<|wv (Aj hb)<|Az<|BR hb) λhb=>wo hb<|ms Aa<|wo hb<|ms Aa<|Bq hb (BH hi)<|Bq hb C9<|Ep Aa hb Aa<|Az<|BR hb)<|B2 hq (λhr hs=>B6 Aa<|B8<|Ao<|Bf<|have ht:=BE hs hg hh;B8<|cs ht▸CY Tryz.results198 ⟨Aa,Aa⟩) λhr hu=>B3<|CR<|B7 Aa<|ck hu λhw hx=>wv (Bh hw)<|Bg Aa<|have hy:=Bd hx hg;Ax (As (hm,hd+1,()) ⟨hy,Apu _⟩ (A7 Aa) sN)) λhn hz=>Bs<|Ah<|have h0:=BG hz hg hh;Ah (AN (As ((),()) h0 Hw.nil sN)))<|by rintro⟨⟨⟩,⟨⟩⟩ he;refine Gw ?_;exact have he:O0 =some r:=he;by unfold O0 at he;exact AR<|Cy<|B6 Aa<|cs he▸CY Tryz.results198 ⟨Aa,Aa⟩
theorem Hd (ok:Bool)(i r:Int)(h:CN ok i=some r):FN 171 [rB ok,AZ i] [] (PO (AZ r)):=en Tryz.func171 Tryz.ntmps171 Aa λw Z=>AA Aa<|BD Aa<|AJ<|B2 h (λc1 h2=>AA Aa<|ck h2 λg3 h4=>wv (Bh g3)<|By Aa<|Ao<|cs h4▸CY Tryz.results171 ⟨Aa,Aa⟩) λc1 h5=>BW<|B6 Aa<|cs h5▸CY Tryz.results171 ⟨Aa,Aa⟩
theorem AgJ (F:Nat)(c:Ab)(r:Bool)(h:VL F c=some r):FN 172 [Cz (A5 c)] [] (PO (rB r)):=en Tryz.func172 Tryz.ntmps172 Aa λw Z=>by unfold VL at h;exact Ay<|Cb Aa Aa λb1=>Cs Aa<|ck h λg2 h3=>Ar [(2,rB ((Bm (c.fKind=4))&&((Bm (c.fInt=0))&&((Bm (c.fN=0))&&(ov (PU F c.fStr))))))] [] (A4<|wv An<|wv (Ae 0)<|wv Bx<|ms Aa<|AF (Bm (c.fKind=4)) (λc4=>Bq c4 An<|Bq c4 (Ae 0)<|Bq c4 Bx<|Ej Aa c4 Aa<|ms Aa<|AF (Bm (c.fInt=0)) (λc5=>Bq c5 An<|Bq c5 (Ae 0)<|Bq c5 Bx<|Ej Aa c5 Aa<|ms Aa<|AF (Bm (c.fN=0)) (λc6=>Bq c6 An<|Bq c6 (Ae 0)<|wo c6<|BV Tryz.call198 (AgH F c.fStr (ov (PU F c.fStr)) (Dr (BL (BL (BL g2 c4) c5) c6)))<|Ej Aa c6 Aa<|Bg Aa<|BR (Db c4 (Db c5 c6))) λc6=>CB c6 Aa<|wv (Am c6)<|Bg Aa<|BR (Db c4 (Db c5 c6))) λc5=>CB c5 Aa<|wv (Am c5)<|ms Aa<|Dx Aa<|wv (Am Aa)<|Bg Aa<|BR (Db c4 c5)) λc4=>CB c4 Aa<|wv (Am c4)<|ms Aa<|Dx Aa<|wv (Am Aa)<|ms Aa<|Dx Aa<|wv (Am Aa)<|Bg Aa<|BR c4)<|BO<|cs h3▸CY Tryz.results172 ⟨Aa,Aa⟩
abbrev Gp (x0:List Ab)(x1:Int):List Rp:=[B4 4 (Bu A5 x0),AZ x1]
abbrev Ez (x0:Nat)(x1:Ab):Ent:=.blk x0 (A5 x1) 82
abbrev Sh (x0:Ac):List Rp:=[AZ 0,AZ 0,rS x0,AZ 0]
abbrev Sg (x0:List Ab)(x1 x2:Int):List Rp:=[B4 4 (Bu A5 x0),AZ x1,AZ x2]
theorem AgI (F:Nat)(hp hq:(List Ab)→Int→Int→Option Int)(hs:(∀(v:(List Ab)) (i:Int) (n:Int) (r:Int),hp v i n=some r→FN 173 (Sg v i n) [] (PO (AZ r))))(ht:(∀(v:(List Ab)) (i:Int) (n:Int) (r:Int),hq v i n=some r→FN 174 (Sg v i n) [] (PO (AZ r))))(v:(List Ab))(i r:Int)(h:XI F hp hq v i=some r):FN 147 (Gp v i) [] (PO (AZ r)):=en Tryz.func147 Tryz.ntmps147 Aa λw Z=>by unfold XI at h;exact AA Aa<|BU<|Ar [(0,B4 4 (Bu A5 v)),(1,AZ i),(13,rB ((Bm (i<0))||(Bm ((v.length:Int)≤i))))] [] (B7 Aa<|wv BI<|ms Aa<|AF (Bm (i<0)) (λc1=>CB c1 Aa<|wv (Aj c1)<|Az<|BR c1) λc1=>wo c1<|ms Aa<|wo c1<|ms Aa<|Bq c1 AU<|Bq c1 DK<|Ep Aa c1 Aa<|Az<|BR c1)<|B2 h (λc2 h3=>Bw Aa<|cs h3▸CY SF ⟨Aa,Aa⟩) λc2 h4=>BW<|AA Aa<|ck h4 λg5 h6=>wv (AX g5)<|wv C2<|BY (cs:=(Sh ([]:Ac))) OZ Aa Aa λb7=>by refine Eu 0 JZ Aa Aa Aa (Bn.c Aa) Aa Aa ?_;exact BU<|Ay<|wv An<|wv (Ae 0)<|wv Bx<|AJ<|B2 h6 (λc8 h9=>ck h9 λhu hw=>ck hw λhx hy=>ck hy λhz h0=>Ar [(4,AZ (bif Bm ((Af v i).fInt=0) then(bif Bm ((Af v i).fStr=([]:Ac)) then(ov (CN (Bm ((Af v i).fN=0)) i)) else(ov (CN false i))) else(ov (CN false i))))] [] (A4<|wv An<|wv (Ae 0)<|wv Bx<|ms Aa<|AF (Bm ((Af v i).fInt=0)) (λhd=>Bq hd An<|Bq hd (Ae 0)<|Bq hd BA<|Ej Aa hd Aa<|ms Aa<|AF (Bm ((Af v i).fStr=([]:Ac))) (λhf=>Bq hf An<|Bq hf (Ae 0)<|Bq hf Bx<|Ej Aa hf Aa<|ms Aa<|BV Nx (Hd (Bm ((Af v i).fN=0)) i (ov (CN (Bm ((Af v i).fN=0)) i)) (Dr (BL (BL hu hd) hf)))<|Bg Aa<|BR (Db hd hf)) λhf=>CB hf Aa<|wv (Am hf)<|ms Aa<|BV Nx (Hd false i (ov (CN false i)) (Dr (CM (BL hx hd) hf)))<|Bg Aa<|BR (Db hd hf)) λhd=>CB hd Aa<|wv (Am hd)<|ms Aa<|Dx Aa<|wv (Am Aa)<|ms Aa<|BV Nx (Hd false i (ov (CN false i)) (Dr (CM hz hd)))<|Bg Aa<|BR hd)<|BO<|Ao<|cs h0▸CY SF ⟨Aa,Aa⟩) λc8 h1=>Bt<|Ay<|wv An<|wv (Ae 0)<|wv Bx<|AJ<|B2 h1 (λh2 h5=>ck h5 λh7 h8=>ck h8 λhA hB=>ck hB λhC hD=>ck hD λhE hG=>ck hG λhH hI=>Ar [(4,AZ (bif Bm ((Af v i).fInt=0) then(bif Bm ((Af v i).fStr=([]:Ac)) then(ov (CN (Bm ((Af v i).fN=0)) i)) else(ov (CN false i))) else(bif Bm ((Af v i).fInt=1) then(bif Bm ((Af v i).fStr=([]:Ac)) then(ov (CN (Bm ((Af v i).fN=0)) i)) else(ov (CN false i))) else(ov (CN false i)))))] [] (A4<|wv An<|wv (Ae 0)<|wv Bx<|ms Aa<|AF (Bm ((Af v i).fInt=0)) (λhb=>CB hb Aa<|wv (Aj hb)<|ms Aa<|Iw Aa<|wv An<|Iw Aa<|wv (Ae 0)<|Iw Aa<|wv BA<|wv (E9 (b:=true) Aa Aa Aa)<|ms Aa<|AF (Bm ((Af v i).fStr=([]:Ac))) (λhg=>Bq hg An<|Bq hg (Ae 0)<|Bq hg Bx<|Ej Aa hg Aa<|ms Aa<|BV Nx (Hd (Bm ((Af v i).fN=0)) i (ov (CN (Bm ((Af v i).fN=0)) i)) (Dr (BL (BL h7 hb) hg)))<|Bg Aa<|by exact BR (Db hb hg)) λhg=>CB hg Aa<|wv (Am hg)<|ms Aa<|BV Nx (Hd false i (ov (CN false i)) (Dr (CM (BL hA hb) hg)))<|Bg Aa<|by exact BR (Db hb hg)) λhb=>Bq hb An<|Bq hb (Ae 0)<|Bq hb Bx<|Ep Aa hb Aa<|ms Aa<|AF (Bm ((Af v i).fInt=1)) (λhe=>Bq he An<|Bq he (Ae 0)<|Bq he BA<|Ej Aa he Aa<|ms Aa<|AF (Bm ((Af v i).fStr=([]:Ac))) (λhh=>by exact Bq hh An<|Bq hh (Ae 0)<|Bq hh Bx<|Ej Aa hh Aa<|ms Aa<|BV Nx (Hd (Bm ((Af v i).fN=0)) i (ov (CN (Bm ((Af v i).fN=0)) i)) (Dr (BL (BL (CM hC hb) he) hh)))<|Bg Aa<|BR (Db hb (Db he hh))) λhh=>by exact CB hh Aa<|wv (Am hh)<|ms Aa<|BV Nx (Hd false i (ov (CN false i)) (Dr (CM (BL (CM hE hb) he) hh)))<|Bg Aa<|BR (Db hb (Db he hh))) λhe=>CB he Aa<|wv (Am he)<|ms Aa<|Dx Aa<|wv (Am Aa)<|ms Aa<|BV Nx (Hd false i (ov (CN false i)) (Dr (CM (CM hH hb) he)))<|Bg Aa<|by exact BR (Db hb he))<|BO<|Ao<|cs hI▸CY SF ⟨Aa,Aa⟩) λh2 hJ=>Bt<|Ay<|wv An<|wv (Ae 0)<|wv Bx<|AJ<|B2 hJ (λhK hL=>ck hL λhN hO=>ck hO λhP hQ=>Ar [(4,AZ (bif Bm ((Af v i).fStr=([]:Ac)) then(ov (CN (Bm ((Af v i).fN=0)) i)) else(ov (CN false i))))] [] (A4<|wv An<|wv (Ae 0)<|wv BA<|ms Aa<|AF (Bm ((Af v i).fStr=([]:Ac))) (λhi=>Bq hi An<|Bq hi (Ae 0)<|Bq hi Bx<|Ej Aa hi Aa<|ms Aa<|BV Nx (Hd (Bm ((Af v i).fN=0)) i (ov (CN (Bm ((Af v i).fN=0)) i)) (Dr (BL hN hi)))<|Bg Aa<|by exact BR hi) λhi=>CB hi Aa<|wv (Am hi)<|ms Aa<|BV Nx (Hd false i (ov (CN false i)) (Dr (CM hP hi)))<|Bg Aa<|by exact BR hi)<|BO<|Ao<|cs hQ▸CY SF ⟨Aa,Aa⟩) λhK hR=>Bt<|Ay<|wv An<|wv (Ae 0)<|wv Bx<|AJ<|B2 hR (λhS hT=>Ay<|wv (B0 0)<|ob hT λhr hU hV=>BV Tryz.call172 (AgJ F (Af v i) hr hU)<|ms Aa<|ob hV λhW hX hY=>BV Nx (Hd hr i hW hX)<|By Aa<|Ao<|by exact cs hY▸Ap (Ct SF AW) (sS sN) ⟨Aa,Aa⟩) λhS hZ=>Bt<|Ar [(0,B4 4 (Bu A5 v)),(1,AZ i),(5,rP b7 0),(96,rB ((Bm ((Af v i).fKind=5))&&((Bm ((Af v i).fInt=0))&&((Bm ((Af v i).fStr=([]:Ac)))&&(Bm (0≤(Af v i).fN))))))] [Ez b7 (Af v i)] (A4<|wv An<|wv (Ae 0)<|wv Bx<|ms Aa<|AF (Bm ((Af v i).fKind=5)) (λc53=>by exact Bq c53 An<|Bq c53 (Ae 0)<|Bq c53 Bx<|Ej Aa c53 Aa<|ms Aa<|AF (Bm ((Af v i).fInt=0)) (λhk=>Bq hk An<|Bq hk (Ae 0)<|Bq hk BA<|Ej Aa hk Aa<|ms Aa<|AF (Bm ((Af v i).fStr=([]:Ac))) (λhm=>Bq hm An<|Bq hm (Ae 0)<|Bq hm DK<|Ej Aa hm Aa<|Az<|BR (Db c53 (Db hk hm))) λhm=>CB hm Aa<|wv (Am hm)<|Az<|BR (Db c53 (Db hk hm))) λhk=>CB hk Aa<|wv (Am hk)<|ms Aa<|Dx Aa<|wv (Am Aa)<|Az<|BR (Db c53 hk)) λc53=>by exact CB c53 Aa<|wv (Am c53)<|ms Aa<|Dx Aa<|wv (Am Aa)<|ms Aa<|Dx Aa<|wv (Am Aa)<|Az<|BR c53)<|B2 hZ (λga gb=>AA Aa<|ck gb λgc gd=>wv (Bh gc)<|wv An<|wv (Ae 0)<|ob gd λgf gg gh=>BV Tryz.call173 (hs v (i+1) (Af v i).fN gf gg)<|By Aa<|Ao<|by exact cs gh▸Ap (Ct SF AW) (sS sN) ⟨Aa,Aa⟩) λga gi=>Bt<|Ar [(0,B4 4 (Bu A5 v)),(1,AZ i),(5,rP b7 0),(120,rB ((Bm ((Af v i).fKind=6))&&((Bm ((Af v i).fInt=0))&&((Bm ((Af v i).fStr=([]:Ac)))&&(Bm (0≤(Af v i).fN))))))] [Ez b7 (Af v i)] (by exact A4<|wv An<|wv (Ae 0)<|wv Bx<|ms Aa<|AF (Bm ((Af v i).fKind=6)) (λhj=>Bq hj An<|Bq hj (Ae 0)<|Bq hj Bx<|Ej Aa hj Aa<|ms Aa<|AF (Bm ((Af v i).fInt=0)) (λhl=>Bq hl An<|Bq hl (Ae 0)<|Bq hl BA<|Ej Aa hl Aa<|ms Aa<|AF (Bm ((Af v i).fStr=([]:Ac))) (λhn=>Bq hn An<|Bq hn (Ae 0)<|Bq hn DK<|Ej Aa hn Aa<|Az<|BR (Db hj (Db hl hn))) λhn=>CB hn Aa<|wv (Am hn)<|Az<|BR (Db hj (Db hl hn))) λhl=>CB hl Aa<|wv (Am hl)<|ms Aa<|Dx Aa<|wv (Am Aa)<|Az<|BR (Db hj hl)) λhj=>CB hj Aa<|wv (Am hj)<|ms Aa<|Dx Aa<|wv (Am Aa)<|ms Aa<|Dx Aa<|wv (Am Aa)<|Az<|BR hj)<|by exact B2 gi (λgj gl=>AA Aa<|ck gl λgm gp=>wv (Bh gm)<|wv An<|wv (Ae 0)<|ob gp λgq gr gs=>BV Tryz.call174 (ht v (i+1) (Af v i).fN gq gr)<|By Aa<|Ao<|cs gs▸Ap (Ct SF AW) (sS sN) ⟨Aa,Aa⟩) λgj gu=>BW<|B6 Aa<|cs gu▸Ap (Ct SF AW) (sS sN) ⟨Aa,Aa⟩
theorem XJ (F:Nat)(hb:(List Ab)→Int→Option Int)(hk:(∀(v:(List Ab)) (i:Int) (r:Int),hb v i=some r→FN 147 (Gp v i) [] (PO (AZ r))))(v:(List Ab))(i n r:Int)(h:PX F hb v i n=some r):FN 173 (Sg v i n) [] (PO (AZ r)):=en Tryz.func173 Tryz.ntmps173 Aa λw Z=>AA Aa<|BD Aa<|AJ<|Au<|ob h λhl hm hh=>Bk (V:=Int×Unit) 0 (λσ=>Cg (λσ=>EN v n hb σ.1 σ.2) σ.1 σ.2.1=some hl) (λσ=>[(0,B4 4 (Bu A5 v)),(1,AZ σ.2.1.1),(2,AZ n),(6,AZ 0),(7,AZ σ.2.1.2)]) (λσ=>[]) (λσ=>σ.1) (F,(i,0),()) hm (A7 Aa) sN (λσ=>Hy σ.1=some r) (λσ=>[(1,AZ σ.1),(6,AZ 0)]) (λσ=>[]) (by rintro⟨h4,⟨he,hi⟩,⟨⟩⟩ hn;refine EG ?_;obtain⟨hp,rfl,hq,hf,hg⟩:=Cq hn;have hf:EN v n hb he hi=some hq:=hf;exact AV<|AA Aa<|wv BI<|AJ<|B2 hf (λc46 hr=>Bt<|Au<|AA Aa<|ob hr λhj hs ht=>BV Ny (hk v he hj hs)<|ms Aa<|BM Aa<|wv BI<|AJ<|B2 ht (λc51 hu=>B6 Aa<|B8<|Ao<|Bf<|have hw:=BE hu hg hh;B8<|cs hw▸CY Tryz.results173 ⟨Aa,Aa⟩) λc51 hx=>B3<|CR<|B7 Aa<|ck hx λhy hz=>wv (Bh hy)<|Bg Aa<|have h0:=Bd hz hg;Ax (As (hp,(hj,hi+1),()) ⟨h0,Apu _⟩ (A7 Aa) sN)) λc46 h1=>Bs<|Ah<|have h2:=BG h1 hg hh;Ah (AN (As (he,()) h2 (A7 Aa) sN)))<|by rintro⟨h3,⟨⟩⟩ hd;refine Gw ?_;exact have hd:Hy h3=some r:=hd;by unfold Hy at hd;exact AR<|Cy<|B6 Aa<|cs hd▸CY Tryz.results173 ⟨Aa,Aa⟩
theorem Ae5 (F:Nat)(hh:(List Ab)→Int→Option Int)(hq:(∀(v:(List Ab)) (i:Int) (r:Int),hh v i=some r→FN 147 (Gp v i) [] (PO (AZ r))))(v:(List Ab))(i n r:Int)(h:XH F hh v i n=some r):FN 174 (Sg v i n) [] (PO (AZ r)):=en Tryz.func174 Tryz.ntmps174 Aa λw Z=>AA Aa<|Dc<|wv (r:=rS ([]:Ac)) AT<|BD Aa<|AJ<|Au<|ob h λhr hs hk=>Bk (V:=Int×Unit) 0 (λσ=>Cg (λσ=>GC F v n hh σ.1 σ.2.1 σ.2.2) σ.1 σ.2.1=some hr) (λσ=>[(0,B4 4 (Bu A5 v)),(1,AZ σ.2.1.1),(2,AZ n),(7,rS σ.2.1.2.1),(8,AZ σ.2.1.2.2)]) (λσ=>[]) (λσ=>σ.1) (F,(i,([]:Ac),0),()) hs (A7 Aa) sN (λσ=>Km σ.1=some r) (λσ=>[(1,AZ σ.1)]) (λσ=>[]) (by rintro⟨hO,⟨he,hl,hg⟩,⟨⟩⟩ ht;refine EG ?_;obtain⟨hu,rfl,hw,hm,hi⟩:=Cq ht;have hm:GC F v n hh he hl hg=some hw:=hm;exact AV<|AA Aa<|wv BI<|AJ<|B2 hm (λhx hy=>Bt<|Au<|AV<|ck hy λhn hz=>ck hz λh0 h1=>Ar [(0,B4 4 (Bu A5 v)),(1,AZ he),(2,AZ n),(8,AZ hg),(38,rB ((Bm ((v.length:Int)≤he))||((!(ov (VL F (Af v he))))||((Bm (0<hg))&&(Cr (Af v he).fStr hl||Bm ((Af v he).fStr=hl))))))] [] (B7 Aa<|wv AU<|wv DK<|ms Aa<|AF (Bm ((v.length:Int)≤he)) (λhb=>CB hb Aa<|wv (Aj hb)<|ms Aa<|Dx Aa<|wu<|wu<|wu<|wu<|wu<|wu<|wu<|vz Aa<|wv (Aj Aa)<|Az<|BR hb) λhb=>wo hb<|ms Aa<|wo hb<|ms Aa<|Bq hb (AX (CM hn hb))<|Bq hb C2<|wo hb<|BV Tryz.call172 (AgJ F (Af v he) (ov (VL F (Af v he))) (Dr (CM h0 hb)))<|Bq hb BQ<|Ep Aa hb Aa<|ms Aa<|AF (!(ov (VL F (Af v he)))) (λhd=>CB hd Aa<|wu<|wu<|wu<|wu<|wu<|wu<|wu<|wf hd<|wv (Aj hd)<|Az<|by exact BR (Db hb hd)) λhd=>wo hd<|ms Aa<|Bq hd C9<|wo hd<|ms Aa<|AF (Bm (0<hg)) (λhf=>wo hf<|ms Aa<|wo hf<|ms Aa<|Bq hf (AX (CM hn hb))<|Bq hf CL<|Bq hf AS<|wo hf<|ms Aa<|Bq hf (WD Aa Aa)<|wo hd<|Ej Aa hf Aa<|Ep Aa hd Aa<|Az<|by exact BR (Db hb (Db hd hf))) λhf=>CB hf Aa<|Bq hd (Am hf)<|Ep Aa hd Aa<|Az<|by exact BR (Db hb (Db hd hf)))<|B2 h1 (λh2 h3=>Bw Aa<|B8<|Ao<|Bf<|have h4:=BE h3 hi hk;B8<|cs h4▸CY Tryz.results174 ⟨Aa,Aa⟩) λh2 h5=>BW<|AA Aa<|ck h5 λh6 h7=>wv (AX h6)<|wv CL<|wv AS<|ms Aa<|BM Aa<|ck h7 λh8 h9=>wv (Bh h8)<|ob h9 λhp hA hB=>BV Ny (hq v (he+1) hp hA)<|ms Aa<|BM Aa<|wv BI<|AJ<|B2 hB (λhC hD=>B6 Aa<|B8<|Ao<|Bf<|have hE:=BE hD hi hk;B8<|by exact cs hE▸CY Tryz.results174 ⟨Aa,Aa⟩) λhC hG=>B3<|CR<|B7 Aa<|ck hG λhH hI=>wv (Bh hH)<|Bg Aa<|have hJ:=Bd hI hi;Ax (As (hu,(hp,(Af v he).fStr,hg+1),()) ⟨hJ,Apu _⟩ (A7 Aa) sN)) λhx hK=>Bs<|Ah<|have hL:=BG hK hi hk;Ah (AN (As (he,()) hL (A7 Aa) sN)))<|by rintro⟨hN,⟨⟩⟩ hj;refine Gw ?_;exact have hj:Km hN=some r:=hj;by unfold Km at hj;exact AR<|Cy<|B6 Aa<|cs hj▸CY Tryz.results174 ⟨Aa,Aa⟩
theorem LN:∀F:Nat,(∀(v:(List Ab)) (i:Int) (r:Int),Gt F v i=some r→FN 147 (Gp v i) [] (PO (AZ r)))∧(∀(v:(List Ab)) (i:Int) (n:Int) (r:Int),Kq F v i n=some r→FN 173 (Sg v i n) [] (PO (AZ r)))∧(∀(v:(List Ab)) (i:Int) (n:Int) (r:Int),RK F v i n=some r→FN 174 (Sg v i n) [] (PO (AZ r)))
  | 0=>⟨(λ_ _ _ h=>by simp[Gt] at h),(λ_ _ _ _ h=>by simp[Kq] at h),(λ_ _ _ _ h=>by simp[RK] at h)⟩
  | nn+1=>⟨(λv i r h=>AgI nn (Kq nn) (RK nn) (LN nn).2.1 (LN nn).2.2 v i r (by rw[Gt] at h;exact h)),(λv i n r h=>XJ nn (Gt nn) (LN nn).1 v i n r (by rw[Kq] at h;exact h)),(λv i n r h=>Ae5 nn (Gt nn) (LN nn).1 v i n r (by rw[RK] at h;exact h))⟩
theorem Kc (F:Nat)(v:(List Ab))(i r:Int)(h:Gt F v i=some r):FN 147 (Gp v i) [] (PO (AZ r)):=(LN F).1 v i r h
abbrev Ea (x0:List Ab):List Rp:=[B4 4 (Bu A5 x0)]
theorem AeA (F:Nat)(v:(List Ab))(r:Bool)(h:TA F v=some r):FN 120 (Ea v) [] (PO (rB r)):=en Tryz.func120 Tryz.ntmps120 Aa λw Z=>AA Aa<|AJ<|ck h λg1 h2=>Ar [(2,rB ((Bm (0<(v.length:Int)))&&(Bm ((ov (Gt F v 0))=(v.length:Int)))))] [] (B7 Aa<|wv AU<|wv C9<|ms Aa<|AF (Bm (0<(v.length:Int))) (λc3=>wo c3<|ms Aa<|wo c3<|BV Ny (Kc F v 0 (ov (Gt F v 0)) (Dr (BL g1 c3)))<|wo c3<|ms Aa<|Bq c3 AU<|Bq c3 Bx<|Ej Aa c3 Aa<|Bg Aa<|BR c3) λc3=>CB c3 Aa<|wv (Am c3)<|Bg Aa<|BR c3)<|BO<|cs h2▸CY Tryz.results120 ⟨Aa,Aa⟩
theorem Abw (F:Nat)(hf:(List Ab)→Int→Option Int)(hk:(∀(v:(List Ab)) (i:Int) (r:Int),hf v i=some r→FN 121 (Gp v i) [] (PO (AZ r))))(v:(List Ab))(i r:Int)(h:NF F hf v i=some r):FN 121 (Gp v i) [] (PO (AZ r)):=en Tryz.func121 Tryz.ntmps121 Aa λw Z=>AA Aa<|BM Aa<|ck h λg1 h2=>wv (AX g1)<|wv C2<|BY (cs:=(Sh ([]:Ac))) OZ Aa Aa λb3=>by refine Eu 0 JZ Aa Aa Aa (Bn.c Aa) Aa Aa ?_;exact BU<|Ar [(0,B4 4 (Bu A5 v)),(1,AZ i),(5,rP b3 0),(21,rB ((!Bm ((Af v i).fKind=5))&&(!Bm ((Af v i).fKind=6))))] [Ez b3 (Af v i)] (A4<|wv An<|wv (Ae 0)<|wv Ci<|ms Aa<|AF (!Bm ((Af v i).fKind=5)) (λc4=>Bq c4 An<|Bq c4 (Ae 0)<|Bq c4 Ci<|Ej Aa c4 Aa<|Az<|BR c4) λc4=>CB c4 Aa<|wv (Am c4)<|Az<|BR c4)<|B2 h2 (λc5 h6=>Bw Aa<|cs h6▸Ap (Ct Tryz.results121 AW) (sS sN) ⟨Aa,Aa⟩) λc5 h7=>BW<|AA Aa<|BM Aa<|ck h7 λg8 h9=>wv (Bh g8)<|ms Aa<|BD Aa<|AJ<|Au<|ob h9 λhs ht hu=>Bk (V:=Int×Unit) 0 (λσ=>Cg (λσ=>E4 F v i hf σ.1 σ.2.1 σ.2.2) σ.1 σ.2.1=some hs) (λσ=>[(0,B4 4 (Bu A5 v)),(5,rP b3 0),(6,AZ σ.2.1.1),(7,AZ σ.2.1.2.1),(8,AZ σ.2.1.2.2)]) (λσ=>[Ez b3 (Af v i)]) (λσ=>σ.1) (F,(0,i+1,0),()) ht (A7 Aa) (sC sN) (λσ=>HW σ.1=some r) (λσ=>[(6,AZ σ.1)]) (λσ=>[]) (by rintro⟨gm,⟨hg,hb,hd⟩,⟨⟩⟩ hw;refine EG ?_;obtain⟨hh,rfl,hx,hi,he⟩:=Cq hw;have hi:E4 F v i hf hg hb hd=some hx:=hi;exact AV<|AA Aa<|wv An<|wv (Ae 0)<|wv BI<|AJ<|B2 hi (λhy hz=>Bt<|Au<|AV<|Ay<|wv An<|wv (Ae 0)<|wv Bx<|AJ<|B2 hz (λh0 h1=>B7 Aa<|ck h1 λh3 h4=>wv (Bh h3)<|ms Aa<|BM Aa<|ob h4 λhl h5 h8=>BV Tryz.call121 (hk v (hb+1) hl h5)<|ms Aa<|BD Aa<|wv C9<|AJ<|B2 h8 (λhA hB=>A4<|Cs Aa<|B7 Aa<|ob hB λhm hC hD=>BV Ny (Kc F v (hb+1) hm hC)<|Bg Aa<|CR<|B7 Aa<|ck hD λhE hG=>wv (Bh hE)<|Bg Aa<|by exact have hH:=Bd hG he;Ax (As (hh,(hl,hm,hd+1),()) ⟨hH,Apu _⟩ (A7 Aa) (sC sN))) λhA hI=>BW<|B7 Aa<|ob hI λhn hJ hK=>BV Ny (Kc F v (hb+1) hn hJ)<|Bg Aa<|CR<|B7 Aa<|ck hK λhL hN=>wv (Bh hL)<|Bg Aa<|by exact have hO:=Bd hN he;Ax (As (hh,(hg,hn,hd+1),()) ⟨hO,Apu _⟩ (A7 Aa) (sC sN))) λh0 hP=>BW<|AA Aa<|ob hP λhp hQ hR=>BV Tryz.call121 (hk v hb hp hQ)<|ms Aa<|BD Aa<|wv C9<|AJ<|B2 hR (λhS hT=>A4<|Cs Aa<|B7 Aa<|ob hT λhq hU hV=>BV Ny (Kc F v hb hq hU)<|Bg Aa<|CR<|B7 Aa<|ck hV λhW hX=>wv (Bh hW)<|Bg Aa<|by exact have hY:=Bd hX he;Ax (As (hh,(hp,hq,hd+1),()) ⟨hY,Apu _⟩ (A7 Aa) (sC sN))) λhS hZ=>BW<|B7 Aa<|ob hZ λhr ga gb=>BV Ny (Kc F v hb hr ga)<|Bg Aa<|CR<|B7 Aa<|ck gb λgc gd=>wv (Bh gc)<|Bg Aa<|by exact have gf:=Bd gd he;Ax (As (hh,(hg,hr,hd+1),()) ⟨gf,Apu _⟩ (A7 Aa) (sC sN))) λhy gg=>Bs<|Ah<|have gh:=BG gg he hu;Ah (AN (As (hg,()) gh (A7 Aa) (sS sN))))<|by rintro⟨gi,⟨⟩⟩ hj;refine Gw ?_;exact have hj:HW gi=some r:=hj;AR<|Cy<|AA Aa<|ck hj λgj gl=>wv (Bh gj)<|By Aa<|cs gl▸CY Tryz.results121 ⟨Aa,Aa⟩
theorem SQ:∀F:Nat,(∀(v:(List Ab)) (i:Int) (r:Int),EC F v i=some r→FN 121 (Gp v i) [] (PO (AZ r)))
  | 0=>(λ_ _ _ h=>by simp[EC] at h)
  | nn+1=>(λv i r h=>Abw nn (EC nn) (SQ nn) v i r (by rw[EC] at h;exact h))
theorem Ae6 (F:Nat)(v:(List Ab))(i r:Int)(h:EC F v i=some r):FN 121 (Gp v i) [] (PO (AZ r)):=(SQ F) v i r h
theorem RI (F:Nat)(s r:Ac)(h:Oz F s=some r):FN 146 [rS s] [] (PO (rS r)):=en Tryz.func146 Tryz.ntmps146 Aa λw Z=>Ay<|wv (r:=rS ([]:Ac)) AT<|Dc<|wv (r:=rS ([34]:Ac)) AT<|BD Aa<|AJ<|Au<|ob h λhm hn hp=>Bk (V:=Ac×Unit) 0 (λσ=>Cg (λσ=>EZ s σ.1 σ.2) σ.1 σ.2.1=some hm) (λσ=>[(0,rS s),(3,rS σ.2.1.1),(4,AZ σ.2.1.2)]) (λσ=>[]) (λσ=>σ.1) (F,(([34]:Ac),0),()) hn (A7 Aa) sN (λσ=>Hb σ.1=some r) (λσ=>[(3,rS σ.1)]) (λσ=>[]) (by rintro⟨hO,⟨he,hb⟩,⟨⟩⟩ hq;refine EG ?_;obtain⟨hi,rfl,hr,hf,hg⟩:=Cq hq;have hf:EZ s he hb=some hr:=hf;exact AV<|AA Aa<|wv Bo<|wv BI<|AJ<|B2 hf (λhs ht=>Bt<|Au<|AV<|ck ht λhj hu=>Ar [(0,rS s),(3,rS he),(4,AZ hb),(20,rB ((Bm ((C0 s hb)=34))||(Bm ((C0 s hb)=92))))] [] (B7 Aa<|wv (BH hj)<|wv Bx<|ms Aa<|AF (Bm ((C0 s hb)=34)) (λhd=>CB hd Aa<|wv (Aj hd)<|Az<|BR hd) λhd=>wo hd<|ms Aa<|wo hd<|ms Aa<|Bq hd (BH hj)<|Bq hd Bx<|Ep Aa hd Aa<|Az<|BR hd)<|B2 hu (λhw hx=>B7 Aa<|ck hx λhy hz=>wv (Dz hy)<|Cs Aa<|B7 Aa<|ck hz λhk h0=>wv (Bh hk)<|ck h0 λh1 h2=>ck h2 λh3 h4=>wv (HY Lb Aa Aa Aa h1 h3)<|ck h4 λh5 h6=>wv (Dz h5)<|Bg Aa<|CR<|B7 Aa<|wv (Bh hk)<|Bg Aa<|have h7:=Bd h6 hg;Ax (As (hi,((he++([92]:Ac))++(List.take (D3 (hb+1)-D3 hb) (List.drop (D3 hb) s)),hb+1),()) ⟨h7,Apu _⟩ (A7 Aa) sN)) λhw h8=>BW<|B7 Aa<|ck h8 λhl h9=>wv (Bh hl)<|ck h9 λhA hB=>ck hB λhC hD=>wv (HY Lb Aa Aa Aa hA hC)<|ck hD λhE hG=>wv (Dz hE)<|Bg Aa<|CR<|B7 Aa<|wv (Bh hl)<|Bg Aa<|have hH:=Bd hG hg;Ax (As (hi,(he++(List.take (D3 (hb+1)-D3 hb) (List.drop (D3 hb) s)),hb+1),()) ⟨hH,Apu _⟩ (A7 Aa) sN)) λhs hI=>Bs<|Ah<|have hJ:=BG hI hg hp;Ah (AN (As (he,()) hJ (A7 Aa) sN)))<|by rintro⟨hK,⟨⟩⟩ hh;refine Gw ?_;exact have hh:Hb hK=some r:=hh;AR<|Cy<|AA Aa<|ck hh λhL hN=>wv (Dz hL)<|By Aa<|cs hN▸CY Tryz.results146 ⟨Aa,Aa⟩
theorem AgF (F:Nat)(hg:(List Ab)→Int→Option Ac)(hh:(∀(v:(List Ab)) (i:Int) (r:Ac),hg v i=some r→FN 90 (Gp v i) [] (PO (rS r))))(v:(List Ab))(i:Int)(r:Ac)(h:Uu F hg v i=some r):FN 90 (Gp v i) [] (PO (rS r)):=en Tryz.func90 Tryz.ntmps90 Aa λw Z=>Ay<|wv (r:=rS ([]:Ac)) AT<|BM Aa<|ck h λg1 h2=>wv (AX g1)<|wv C2<|BY (cs:=(Sh ([]:Ac))) OZ Aa Aa λb3=>by refine Eu 0 JZ Aa Aa Aa (Bn.c Aa) Aa Aa ?_;exact BU<|Ay<|wv An<|wv (Ae 0)<|wv Bx<|AJ<|B2 h2 (λc4 h5=>Ay<|wv (r:=rS ([110,117,108,108]:Ac)) AT<|DQ<|Ao<|cs h5▸Ap (Ct AaU AW) (sS sN) ⟨Aa,Aa⟩) λc4 h6=>Bt<|Ay<|wv An<|wv (Ae 0)<|wv Bx<|AJ<|B2 h6 (λc7 h8=>AV<|Ay<|wv An<|wv (Ae 0)<|wv Bx<|AJ<|B2 h8 (λc9 hx=>Ay<|wv (r:=rS ([116,114,117,101]:Ac)) AT<|DQ<|Ao<|Ao<|cs hx▸Ap (Ct AaU AW) (sS sN) ⟨Aa,Aa⟩) λc9 hy=>BW<|Ay<|wv (r:=rS ([102,97,108,115,101]:Ac)) AT<|DQ<|Ao<|cs hy▸Ap (Ct AaU AW) (sS sN) ⟨Aa,Aa⟩) λc7 hz=>Bt<|Ay<|wv An<|wv (Ae 0)<|wv Bx<|AJ<|B2 hz (λh0 h1=>Ay<|wv An<|wv (Ae 0)<|ck h1 λg15 h3=>CC Tryz.call145 Aa (Al9 (Af v i).fInt g15) Aa Aa<|By Aa<|Ao<|cs h3▸Ap (Ct AaU AW) (sS sN) ⟨Aa,Aa⟩) λh0 h4=>Bt<|Ay<|wv An<|wv (Ae 0)<|wv Bx<|AJ<|B2 h4 (λh7 h9=>Ay<|wv An<|wv (Ae 0)<|ob h9 λhA hB hC=>BV Tryz.call146 (RI F (Af v i).fStr hA hB)<|By Aa<|Ao<|by exact cs hC▸Ap (Ct AaU AW) (sS sN) ⟨Aa,Aa⟩) λh7 hD=>BW<|Ay<|wv (r:=rS ([]:Ac)) AT<|BM Aa<|ck hD λhE hG=>wv (Bh hE)<|ms Aa<|BD Aa<|AJ<|Au<|ob hG λhH hI hJ=>Bk (V:=Ac×Unit) 0 (λσ=>Cg (λσ=>HD F v i hg σ.1 σ.2.1 σ.2.2) σ.1 σ.2.1=some hH) (λσ=>[(0,B4 4 (Bu A5 v)),(4,rS ([]:Ac)),(5,rP b3 0),(6,rS σ.2.1.1),(7,AZ σ.2.1.2.1),(8,AZ σ.2.1.2.2)]) (λσ=>[Ez b3 (Af v i)]) (λσ=>σ.1) (F,(([]:Ac),i+1,0),()) hI (A7 Aa) (sC sN) (λσ=>LK v i σ.1=some r) (λσ=>[(4,rS ([]:Ac)),(5,rP b3 0),(6,rS σ.1)]) (λσ=>[Ez b3 (Af v i)]) (by rintro⟨co,⟨hd,hb,he⟩,⟨⟩⟩ hK;refine EG ?_;obtain⟨hi,rfl,hL,hj,hf⟩:=Cq hK;have hj:HD F v i hg hd hb he=some hL:=hj;exact AV<|AA Aa<|wv An<|wv (Ae 0)<|wv BI<|AJ<|B2 hj (λhN hO=>Bt<|Au<|AV<|AA Aa<|wv C9<|AJ<|B2 hO (λhP hQ=>B7 Aa<|ck hQ λhR hS=>wv (Dz hR)<|ms Aa<|BU<|Ay<|wv An<|wv (Ae 0)<|wv Bx<|AJ<|B2 hS (λc233 hT=>AA Aa<|ck hT λhU hV=>wv (AX hU)<|wv CL<|wv AS<|ob hV λhl hW hX=>BV Tryz.call146 (RI F (Af v hb).fStr hl hW)<|ck hX λhY hZ=>wv (Dz hY)<|ck hZ λga gb=>wv (Dz ga)<|Cs Aa<|B7 Aa<|ck gb λgc gd=>wv (Bh gc)<|ms Aa<|BM Aa<|ob gd λhm gf gg=>BV Aed (hh v (hb+1) hm gf)<|ck gg λgh gi=>by exact wv (Dz gh)<|Cs Aa<|B7 Aa<|ob gi λhn gj gl=>BV Ny (Kc F v (hb+1) hn gj)<|Bg Aa<|CR<|B7 Aa<|ck gl λgm gp=>wv (Bh gm)<|Bg Aa<|have gq:=Bd gp hf;Ax (As (hi,((((hd++([44]:Ac))++hl)++([58]:Ac))++hm,hn,he+1),()) ⟨gq,Apu _⟩ (A7 Aa) (sC sN))) λc233 gr=>BW<|AA Aa<|ob gr λhp gs gu=>BV Aed (hh v hb hp gs)<|ck gu λgv gw=>wv (Dz gv)<|Cs Aa<|B7 Aa<|ob gw λhq gx gy=>BV Ny (Kc F v hb hq gx)<|Bg Aa<|CR<|B7 Aa<|ck gy λgz g0=>wv (Bh gz)<|Bg Aa<|by exact have g2:=Bd g0 hf;Ax (As (hi,((hd++([44]:Ac))++hp,hq,he+1),()) ⟨g2,Apu _⟩ (A7 Aa) (sC sN))) λhP g3=>Bt<|Ay<|wv An<|wv (Ae 0)<|wv Bx<|AJ<|B2 g3 (λg4 g5=>AA Aa<|ck g5 λg6 g7=>wv (AX g6)<|wv CL<|wv AS<|ob g7 λhr g8 g9=>BV Tryz.call146 (RI F (Af v hb).fStr hr g8)<|ck g9 λgA gB=>wv (Dz gA)<|ck gB λgC gD=>wv (Dz gC)<|Cs Aa<|B7 Aa<|ck gD λgE gF=>wv (Bh gE)<|ms Aa<|BM Aa<|ob gF λhs gG gH=>BV Aed (hh v (hb+1) hs gG)<|ck gH λgI gJ=>by exact wv (Dz gI)<|Cs Aa<|B7 Aa<|ob gJ λht gK gL=>BV Ny (Kc F v (hb+1) ht gK)<|Bg Aa<|CR<|B7 Aa<|ck gL λgM gN=>wv (Bh gM)<|Bg Aa<|have gO:=Bd gN hf;Ax (As (hi,(((hd++hr)++([58]:Ac))++hs,ht,he+1),()) ⟨gO,Apu _⟩ (A7 Aa) (sC sN))) λg4 gP=>BW<|AA Aa<|ob gP λhu gQ gR=>BV Aed (hh v hb hu gQ)<|ck gR λgS gT=>wv (Dz gS)<|Cs Aa<|B7 Aa<|ob gT λhw gU gV=>BV Ny (Kc F v hb hw gU)<|Bg Aa<|CR<|B7 Aa<|ck gV λgW gX=>wv (Bh gW)<|Bg Aa<|by exact have gY:=Bd gX hf;Ax (As (hi,(hd++hu,hw,he+1),()) ⟨gY,Apu _⟩ (A7 Aa) (sC sN))) λhN gZ=>Bs<|Ah<|have ca:=BG gZ hf hJ;Ah (AN (As (hd,()) ca (A7 Aa) (sC sN))))<|by rintro⟨cb,⟨⟩⟩ hk;refine Gw ?_;exact have hk:LK v i cb=some r:=hk;AR<|Cy<|AV<|Ay<|wv An<|wv (Ae 0)<|wv Bx<|AJ<|B2 hk (λcc cd=>AA Aa<|ck cd λce cf=>wv (Dz ce)<|ck cf λcg ch=>wv (Dz cg)<|By Aa<|Ao<|cs ch▸Ap (Ct AaU AW) (sS sN) ⟨Aa,Aa⟩) λcc ci=>BW<|AA Aa<|ck ci λcj cl=>wv (Dz cj)<|ck cl λcm cn=>wv (Dz cm)<|By Aa<|cs cn▸Ap (Ct AaU AW) (sS sN) ⟨Aa,Aa⟩
theorem W2:∀F:Nat,(∀(v:(List Ab)) (i:Int) (r:Ac),J5 F v i=some r→FN 90 (Gp v i) [] (PO (rS r)))
  | 0=>(λ_ _ _ h=>by simp[J5] at h)
  | nn+1=>(λv i r h=>AgF nn (J5 nn) (W2 nn) v i r (by rw[J5] at h;exact h))
theorem AcJ (F:Nat)(v:(List Ab))(i:Int)(r:Ac)(h:J5 F v i=some r):FN 90 (Gp v i) [] (PO (rS r)):=(W2 F) v i r h
theorem NH (F:Nat)(v:(List Ab))(r:Int)(h:I1 F v=some r):FN 73 (Ea v) [] (PO (AZ r)):=en Tryz.func73 Tryz.ntmps73 Aa λw Z=>AA Aa<|BD Aa<|ob h λr1 e3 h2=>BV Tryz.call120 (AeA F v r1 e3)<|wv BQ<|AJ<|B2 h2 (λc4 h5=>Bw Aa<|cs h5▸CY AdU ⟨Aa,Aa⟩) λc4 h6=>Bt<|AA Aa<|AJ<|Au<|ob h6 λhr hs hn=>Bk (V:=Unit×Unit) 0 (λσ=>Cg (λσ=>Ij v σ) σ.1 σ.2.1=some hr) (λσ=>[(0,B4 4 (Bu A5 v)),(3,AZ σ.2.1)]) (λσ=>[]) (λσ=>σ.1) (F,0,()) hs (A7 Aa) sN (λσ=>O6 F v =some r) (λσ=>[(0,B4 4 (Bu A5 v))]) (λσ=>[]) (by rintro⟨gh,hf,⟨⟩⟩ ht;refine EG ?_;obtain⟨hu,rfl,t46,hg,hh⟩:=Cq ht;have hg:Ij v hf=some t46:=hg;exact AV<|AA Aa<|wv AU<|wv BI<|AJ<|B2 hg (λhw hx=>Bt<|Au<|ck hx λhi hy=>Ar [(0,B4 4 (Bu A5 v)),(3,AZ hf),(35,rB ((Bm ((Af v hf).fKind=3))&&((Bm ((Af v hf).fInt<(-1000000000000)))||(Bm (1000000000000<(Af v hf).fInt)))))] [] (B7 Aa<|wv (AX hi)<|wv CL<|wv AS<|wv Bx<|ms Aa<|AF (Bm ((Af v hf).fKind=3)) (λhb=>wo hb<|ms Aa<|wo hb<|ms Aa<|Bq hb (AX hi)<|Bq hb CL<|Bq hb AS<|Bq hb BI<|wo hb<|ms Aa<|AF (Bm ((Af v hf).fInt<(-1000000000000))) (λhd=>CB hd Aa<|Bq hb (Aj hd)<|Ej Aa hb Aa<|Az<|by exact BR (Db hb hd)) λhd=>wo hd<|ms Aa<|wo hd<|ms Aa<|Bq hd (AX hi)<|Bq hd CL<|Bq hd AS<|Bq hd C9<|wo hb<|Ep Aa hd Aa<|Ej Aa hb Aa<|Az<|by exact BR (Db hb hd)) λhb=>CB hb Aa<|wu<|wu<|wu<|wu<|wu<|wu<|wf hb<|wv (Am hb)<|Az<|BR hb)<|B2 hy (λhz h0=>B6 Aa<|B8<|Ao<|Bf<|have h1:=BE h0 hh hn;B8<|cs h1▸CY AdU ⟨Aa,Aa⟩) λhz h3=>B3<|CR<|B7 Aa<|ck h3 λh4 h7=>wv (Bh h4)<|Bg Aa<|have h8:=Bd h7 hh;Ax (As (hu,hf+1,()) ⟨h8,Apu _⟩ (A7 Aa) sN)) λhw h9=>Bs<|Ah<|have hA:=BG h9 hh hn;Ah (AN (As ((),()) hA (A7 Aa) sN)))<|by rintro⟨⟨⟩,⟨⟩⟩ hj;refine Gw ?_;exact have hj:O6 F v =some r:=hj;AR<|Cy<|AV<|ck hj λhB hC=>Ar [(0,B4 4 (Bu A5 v)),(43,rB ((Bm (200<(v.length:Int)))||(Bm (8<(ov (EC F v 0))))))] [] (B7 Aa<|wv AU<|wv C9<|ms Aa<|AF (Bm (200<(v.length:Int))) (λhe=>CB he Aa<|wv (Aj he)<|Az<|BR he) λhe=>wo he<|ms Aa<|wo he<|BV Tryz.call121 (Ae6 F v 0 (ov (EC F v 0)) (Dr (CM hB he)))<|Bq he C9<|Ep Aa he Aa<|Az<|BR he)<|B2 hC (λhD hE=>Bw Aa<|cs hE▸CY AdU ⟨Aa,Aa⟩) λhD hG=>Bt<|AA Aa<|AJ<|Au<|ob hG λhH hI hp=>Bk (V:=Unit×Unit) 2 (λσ=>Cg (λσ=>Ii v σ) σ.1 σ.2.1=some hH) (λσ=>[(0,B4 4 (Bu A5 v)),(4,AZ σ.2.1)]) (λσ=>[]) (λσ=>σ.1) (F,0,()) hI (A7 Aa) sN (λσ=>O5 F v =some r) (λσ=>[(0,B4 4 (Bu A5 v))]) (λσ=>[]) (by rintro⟨gi,hq,⟨⟩⟩ hJ;refine EG ?_;obtain⟨hK,rfl,hL,hk,hl⟩:=Cq hJ;have hk:Ii v hq=some hL:=hk;exact AV<|AA Aa<|wv AU<|wv BI<|AJ<|B2 hk (λhN hO=>Bt<|Au<|AA Aa<|ck hO λhP hQ=>wv (AX hP)<|wv CL<|wv AS<|wv Bo<|wv C9<|AJ<|B2 hQ (λhR hS=>B6 Aa<|B8<|Ao<|Bf<|have hT:=BE hS hl hp;B8<|cs hT▸CY AdU ⟨Aa,Aa⟩) λhR hU=>B3<|CR<|B7 Aa<|ck hU λhV hW=>wv (Bh hV)<|Bg Aa<|have hX:=Bd hW hl;Ax (As (hK,hq+1,()) ⟨hX,Apu _⟩ (A7 Aa) sN)) λhN hY=>Bs<|Ah<|have hZ:=BG hY hl hp;Ah (AN (As ((),()) hZ (A7 Aa) sN)))<|by rintro⟨⟨⟩,⟨⟩⟩ hm;refine Gw ?_;exact have hm:O5 F v =some r:=hm;AR<|Cy<|AV<|AA Aa<|ob hm λga gb gc=>BV Aed (AcJ F v 0 ga gb)<|wv Bo<|wv C9<|AJ<|B2 gc (λgd gf=>Bw Aa<|cs gf▸CY AdU ⟨Aa,Aa⟩) λgd gg=>BW<|B6 Aa<|cs gg▸CY AdU ⟨Aa,Aa⟩
theorem W4 (F:Nat)(v:(List Ab))(r:Ac×Int)(h:O4 F v=some r):FN 48 (Ea v) [] (PO (DW [rS r.1,AZ r.2])):=en Tryz.func48 Tryz.ntmps48 Aa λw Z=>Ay<|wv (r:=rS ([]:Ac)) AT<|ms Aa<|BM Aa<|ob h λr1 e3 h2=>BV AfT (NH F v r1 e3)<|ms Aa<|BD Aa<|wv Ci<|AJ<|B2 h2 (λc4 h5=>AA Aa<|wv (r:=rS ([]:Ac)) AT<|By Aa<|Ao<|cs h5▸VH Tryz.results48 ⟨Aa,Aa⟩) λc4 h6=>BW<|AA Aa<|ob h6 λr7 e9 h8=>BV Aed (AcJ F v 0 r7 e9)<|By Aa<|cs h8▸VH Tryz.results48 ⟨Aa,Aa⟩
end Go.Proofs.YtphnhpcjnmmhiaaGreatDoor.Q
namespace Go.Proofs.YtphnhpcjnmmhiaaGreatDoor
open Go
set_option linter.unusedVariables false
structure AL where
 fPairs:Bool
 fLeft:Int
 fKey:Bool
 fLast:Ac
 fStarted:Bool
 deriving DecidableEq,Inhabited
structure Bc where
 fDepth:Int
 fBytes:Int
 fOutside:Bool
 fLong:Bool
 deriving DecidableEq,Inhabited
def N3 (s:Ac)(hb:Int):Option (Stp Int (Out Bool Unit)):=
 Bj (decide (hb<(s.length:Int))) (AM (Cn hb (s.length:Int))<|Bj (((decide ((C0 s hb)<32))||(decide (126<(C0 s hb))))) (some (.out (.ret false))) (AM (BT .i64 (hb+1))<|some (.next (hb+1)))) (some (.out (.go ())))
def LF :Option Bool:=
 some true
def SN (F:Nat)(s:Ac):Option Bool:=
 Ba (Cg (λσ=>N3 s σ) F 0) (Cm λν=>LF )
def Q4 (s:Ac):Option Int:=
 AM (BT .i64 ((s.length:Int)+2))<|AM (BT .i64 (((s.length:Int)+2)+(Lib.countByte s 34:Int)))<|AM (BT .i64 ((((s.length:Int)+2)+(Lib.countByte s 34:Int))+(Lib.countByte s 92:Int)))<|some ((((s.length:Int)+2)+(Lib.countByte s 34:Int))+(Lib.countByte s 92:Int))
def Ue (F:Nat)(c:Ab):Option Bool:=
 Bj (decide (c.fKind=1)) (some ((decide (c.fInt=0))&&((decide (c.fStr=([]:Ac)))&&(decide (c.fN=0))))) (Bj (decide (c.fKind=2)) (some (bif decide (c.fInt=0) then((decide (c.fStr=([]:Ac)))&&(decide (c.fN=0))) else((decide (c.fInt=1))&&((decide (c.fStr=([]:Ac)))&&(decide (c.fN=0)))))) (Bj (decide (c.fKind=3)) (some ((decide (c.fStr=([]:Ac)))&&(decide (c.fN=0)))) (Bj (decide (c.fKind=4)) (AM (imp (decide (c.fInt=0)) (imp (decide (c.fN=0)) (SN F c.fStr).isSome))<|some ((decide (c.fInt=0))&&((decide (c.fN=0))&&(ov (SN F c.fStr))))) (Bj (decide (c.fKind=5)) (some ((decide (c.fInt=0))&&((decide (c.fStr=([]:Ac)))&&(decide (0≤c.fN))))) (Bj (decide (c.fKind=6)) (some ((decide (c.fInt=0))&&((decide (c.fStr=([]:Ac)))&&(decide (0≤c.fN))))) (some false))))))
def YW (c:Ab):Option Int:=
 Bj (decide (c.fKind=1)) (some 4) (Bj (decide (c.fKind=2)) (some (IntKind.wrap .i64 (5-c.fInt))) (Bj (decide (c.fKind=3)) (AM (BT .i64 c.fInt)<|some ((Lib.itoa c.fInt).length:Int)) (Bj (decide (c.fKind=4)) (Ba (Q4 c.fStr) λhb=>some hb) (some (IntKind.wrap .i64 (2+(max 0 (IntKind.wrap .i64 (c.fN-1)))))))))
def HU (hb:(List AL)):Option (Stp ((List AL)) (Out ((List AL)) ((List AL)))):=
 Bj (decide (0<(hb.length:Int))) (AM (BT .i64 ((hb.length:Int)-1))<|AM (Cn ((hb.length:Int)-1) (hb.length:Int))<|AM (BT .i64 ((Af hb ((hb.length:Int)-1)).fLeft-1))<|Nu (List.set hb (Int.toNat ((hb.length:Int)-1)) (AL.mk (Af hb ((hb.length:Int)-1)).fPairs ((Af hb ((hb.length:Int)-1)).fLeft-1) (Af hb ((hb.length:Int)-1)).fKey (Af hb ((hb.length:Int)-1)).fLast (Af hb ((hb.length:Int)-1)).fStarted)) λhd=>Bj (decide (0<(Af hd ((hb.length:Int)-1)).fLeft)) (Nu (List.set hd (Int.toNat ((hb.length:Int)-1)) (AL.mk (Af hd ((hb.length:Int)-1)).fPairs (Af hd ((hb.length:Int)-1)).fLeft (Af hd ((hb.length:Int)-1)).fPairs (Af hd ((hb.length:Int)-1)).fLast (Af hd ((hb.length:Int)-1)).fStarted)) λhe=>some (.out (.ret he))) (AM (BT .i64 ((hd.length:Int)-1))<|AM (IG ((hd.length:Int)-1) (hd.length:Int))<|some (.next (List.take (Int.toNat ((hd.length:Int)-1)) hd)))) (some (.out (.go hb)))
def HT (hb:(List AL)):Option ((List AL)):=
 some hb
def T1 (F:Nat)(stack:(List AL)):Option ((List AL)):=
 Ba (Cg (λσ=>HU σ) F stack) (Cm λν=>HT ν)
def Iz (hb:Int)(hd:(List AL))(he:Bc):Option (Stp ((List AL)×Int×Bc) (Out (Int×Bc×Bool) Bc)):=
 AM (BT .i64 (hb+1))<|some (.next (hd,hb+1,he))
def HC (F:Nat)(v:(List Ab))(hb:(List AL))(hd:Int)(he:Bc):Option (Stp ((List AL)×Int×Bc) (Out (Int×Bc×Bool) Bc)):=
 Bj (decide (hd<(v.length:Int))) (AM (Cn hd (v.length:Int))<|Ba (Ue F (Af v hd)) λhk=>Bj (!hk) (some (.out (.ret (0,he,false)))) (AM (imp (decide (0<(hb.length:Int))) (BT .i64 ((hb.length:Int)-1)))<|AM (imp (decide (0<(hb.length:Int))) (Cn ((hb.length:Int)-1) (hb.length:Int)))<|Bj (((decide (0<(hb.length:Int)))&&(Af hb ((hb.length:Int)-1)).fKey)) (AM (BT .i64 ((hb.length:Int)-1))<|AM (Cn ((hb.length:Int)-1) (hb.length:Int))<|Bj (((!decide ((Af v hd).fKind=4))||((Af hb ((hb.length:Int)-1)).fStarted&&(Cr (Af v hd).fStr (Af hb ((hb.length:Int)-1)).fLast||decide ((Af v hd).fStr=(Af hb ((hb.length:Int)-1)).fLast))))) (some (.out (.ret (0,he,false)))) (Nu (List.set hb (Int.toNat ((hb.length:Int)-1)) (AL.mk (Af hb ((hb.length:Int)-1)).fPairs (Af hb ((hb.length:Int)-1)).fLeft (Af hb ((hb.length:Int)-1)).fKey (Af v hd).fStr (Af hb ((hb.length:Int)-1)).fStarted)) λhf=>Nu (List.set hf (Int.toNat ((hb.length:Int)-1)) (AL.mk (Af hf ((hb.length:Int)-1)).fPairs (Af hf ((hb.length:Int)-1)).fLeft (Af hf ((hb.length:Int)-1)).fKey (Af hf ((hb.length:Int)-1)).fLast true)) λhg=>Nu (List.set hg (Int.toNat ((hb.length:Int)-1)) (AL.mk (Af hg ((hb.length:Int)-1)).fPairs (Af hg ((hb.length:Int)-1)).fLeft false (Af hg ((hb.length:Int)-1)).fLast (Af hg ((hb.length:Int)-1)).fStarted)) λhl=>Ba (Q4 (Af v hd).fStr) λhi=>AM (BT .i64 (hi+1))<|Iz hd hl (Bc.mk he.fDepth (IntKind.wrap .i64 (he.fBytes+(hi+1))) he.fOutside (he.fLong||(decide (200<((Af v hd).fStr.length:Int))))))) (AM (BT .i64 ((hb.length:Int)+1))<|Ba (YW (Af v hd)) λhh=>AM (imp (!he.fOutside) (imp (decide ((Af v hd).fKind=3)) (DJ (Af v hd).fInt).isSome))<|Bj (decide (0<(Af v hd).fN)) (Bj (decide ((v.length:Int)<(Af v hd).fN)) (some (.out (.ret (0,(Bc.mk (max he.fDepth ((hb.length:Int)+1)) (IntKind.wrap .i64 (he.fBytes+hh)) (he.fOutside||((decide ((Af v hd).fKind=3))&&(!(ov (DJ (Af v hd).fInt))))) (he.fLong||(decide (200<((Af v hd).fStr.length:Int))))),false)))) (AM (Dl 48 (hb.length+([(AL.mk (decide ((Af v hd).fKind=6)) (Af v hd).fN (decide ((Af v hd).fKind=6)) ([]:Ac) false)]:List AL).length))<|Iz hd (hb++([(AL.mk (decide ((Af v hd).fKind=6)) (Af v hd).fN (decide ((Af v hd).fKind=6)) ([]:Ac) false)]:List AL)) (Bc.mk (max he.fDepth ((hb.length:Int)+1)) (IntKind.wrap .i64 (he.fBytes+hh)) (he.fOutside||((decide ((Af v hd).fKind=3))&&(!(ov (DJ (Af v hd).fInt))))) (he.fLong||(decide (200<((Af v hd).fStr.length:Int))))))) (Ba (T1 F hb) λhj=>Bj (decide ((hj.length:Int)=0)) (AM (BT .i64 (hd+1))<|some (.out (.ret (hd+1,(Bc.mk (max he.fDepth ((hb.length:Int)+1)) (IntKind.wrap .i64 (he.fBytes+hh)) (he.fOutside||((decide ((Af v hd).fKind=3))&&(!(ov (DJ (Af v hd).fInt))))) (he.fLong||(decide (200<((Af v hd).fStr.length:Int))))),true)))) (Iz hd hj (Bc.mk (max he.fDepth ((hb.length:Int)+1)) (IntKind.wrap .i64 (he.fBytes+hh)) (he.fOutside||((decide ((Af v hd).fKind=3))&&(!(ov (DJ (Af v hd).fInt))))) (he.fLong||(decide (200<((Af v hd).fStr.length:Int)))))))))) (some (.out (.go he)))
def Q6 (hb:Bc):Option (Int×Bc×Bool):=
 some (0,hb,false)
def Na (F:Nat)(v:(List Ab)):Option (Int×Bc×Bool):=
 Ba (Cg (λσ=>HC F v σ.1 σ.2.1 σ.2.2) F (([]:List AL),0,(Bc.mk 0 0 false false))) (Cm λν=>Q6 ν)
def N7 (F:Nat)(v:(List Ab)):Option Int:=
 Ba (Na F v) λr1=>Bj (((!r1.2.2)||(!decide (r1.1=(v.length:Int))))) (some 1) (Bj r1.2.1.fOutside (some 2) (Bj ((r1.2.1.fLong||((decide (200<(v.length:Int)))||((decide (8<r1.2.1.fDepth))||(decide (4000<r1.2.1.fBytes)))))) (some 3) (some 0)))
def KE (F:Nat)(v:(List Ab)):Option ((List Ab)×Int):=
 Ba (N7 F v) λr1=>Bj (!decide (r1=0)) (some (([]:List Ab),r1)) (some (v,0))
def N4 :Option ((List Ab)):=
 some ([(Ab.mk 1 0 ([]:Ac) 0)]:List Ab)
def Aen (F:Nat)(n:Int):Option ((List Ab)×Int):=
 Ba (KE F ([(Ab.mk 3 n ([]:Ac) 0)]:List Ab)) λr2=>some (r2.1,r2.2)
def Aek (F:Nat)(s:Ac):Option ((List Ab)×Int):=
 Ba (KE F ([(Ab.mk 4 0 s 0)]:List Ab)) λr2=>some (r2.1,r2.2)
end Go.Proofs.YtphnhpcjnmmhiaaGreatDoor
namespace Go.Proofs.YtphnhpcjnmmhiaaGreatDoor.Q
open Go Go.RowKit
set_option linter.unusedVariables false
set_option linter.unusedSimpArgs false
set_option maxRecDepth 100000
set_option maxHeartbeats 4000000
@[reducible] def ET (x:AL):List Rp:=[rB x.fPairs,AZ x.fLeft,rB x.fKey,rS x.fLast,rB x.fStarted]
theorem Nh (x:AL):(ET x).length=5:=rfl
theorem Tv (x:AL):(ET x).all (·.one)=true:=rfl
abbrev Ia (x0 x1:Int)(x2 x3:Bool):List Rp:=[AZ x0,AZ x1,rB x2,rB x3]
@[reducible] def IF (x:Bc):List Rp:=(Ia x.fDepth x.fBytes x.fOutside x.fLong)
theorem AjM:ifI 205 (.agg #[(.bool false),(.int .i64 0),(.bool false),(.string ⟨#[]⟩),(.bool false)]) 5 48:=Ra (by kernel_rfl)
theorem Lx (parts:List (Nat×Value)):Tryz.prog.built 82 parts=Instr.fill (λi=>(#[(0,1),(1,1),(2,1),(3,1)]:Array (Nat×Nat))[i]?) #[(.int .i64 0),(.int .i64 0),(.string ⟨#[]⟩),(.int .i64 0)] parts:=by kernel_rfl
theorem Ais (parts:List (Nat×Value)):Tryz.prog.built 205 parts=Instr.fill (λi=>(#[(0,1),(1,1),(2,1),(3,1),(4,1)]:Array (Nat×Nat))[i]?) #[(.bool false),(.int .i64 0),(.bool false),(.string ⟨#[]⟩),(.bool false)] parts:=by kernel_rfl
theorem AiN (F:Nat)(s:Ac)(r:Bool)(h:SN F s=some r):FN 188 [rS s] [] (PO (rB r)):=en Tryz.func188 Tryz.ntmps188 Aa λw Z=>AA Aa<|BD Aa<|wv Bo<|Cs Aa<|Au<|ob h λhj hk hh=>Bk (V:=Unit×Unit) 0 (λσ=>Cg (λσ=>N3 s σ) σ.1 σ.2.1=some hj) (λσ=>[(0,rS s),(5,AZ (s.length:Int)),(6,AZ σ.2.1)]) (λσ=>[]) (λσ=>σ.1) (F,0,()) hk (A7 Aa) sN (λσ=>LF =some r) (λσ=>[]) (λσ=>[]) (by rintro⟨h1,hd,⟨⟩⟩ hl;refine EG ?_;obtain⟨hm,rfl,t37,hf,hg⟩:=Cq hl;have hf:N3 s hd=some t37:=hf;exact Ay<|wv BI<|BU<|B2 hf (λhn hp=>Bt<|Au<|AA Aa<|AJ<|ck hp λhi hq=>Ar [(0,rS s),(5,AZ (s.length:Int)),(6,AZ hd),(18,rB ((Bm ((C0 s hd)<32))||(Bm (126<(C0 s hd)))))] [] (B7 Aa<|wv (BH hi)<|wv BI<|ms Aa<|AF (Bm ((C0 s hd)<32)) (λhb=>CB hb Aa<|wv (Aj hb)<|Az<|BR hb) λhb=>wo hb<|ms Aa<|wo hb<|ms Aa<|Bq hb (BH hi)<|Bq hb C9<|Ep Aa hb Aa<|Az<|BR hb)<|B2 hq (λhr hs=>B6 Aa<|B8<|Ao<|Bf<|have ht:=BE hs hg hh;B8<|cs ht▸CY Tryz.results188 ⟨Aa,Aa⟩) λhr hu=>B3<|CR<|A4<|ck hu λhw hx=>wv (Bh hw)<|Bg Aa<|have hy:=Bd hx hg;Ax (As (hm,hd+1,()) ⟨hy,Apu _⟩ (A7 Aa) sN)) λhn hz=>Bs<|Ah<|have h0:=BG hz hg hh;Ah (AN (As ((),()) h0 Hw.nil sN)))<|by rintro⟨⟨⟩,⟨⟩⟩ he;refine Gw ?_;exact have he:LF =some r:=he;by unfold LF at he;exact AR<|Cy<|B6 Aa<|cs he▸CY Tryz.results188 ⟨Aa,Aa⟩
theorem Wp (s:Ac)(r:Int)(h:Q4 s=some r):FN 155 [rS s] [] (PO (AZ r)):=en Tryz.func155 Tryz.ntmps155 Aa λw Z=>AA Aa<|BM Aa<|wv Bo<|ck h λg1 h2=>wv (Bh g1)<|ms Aa<|CC Tryz.call189 Aa (Yz s 34) Aa Aa<|ck h2 λg3 h4=>wv (Bh g3)<|ms Aa<|CC Tryz.call189 Aa (Yz s 92) Aa Aa<|ck h4 λg5 h6=>wv (Bh g5)<|By Aa<|cs h6▸CY Tryz.results155 ⟨Aa,Aa⟩
theorem Ago (F:Nat)(c:Ab)(r:Bool)(h:Ue F c=some r):FN 154 [Cz (A5 c)] [] (PO (rB r)):=en Tryz.func154 Tryz.ntmps154 Aa λw Z=>by unfold Ue at h;exact Ay<|Cb Aa Aa λb1=>ms Aa<|BU<|Ay<|wv An<|wv (Ae 0)<|AJ<|Au<|Ay<|wv Bx<|Cs Aa<|B2 h (λc2 h3=>Ar [(2,rB ((Bm (c.fInt=0))&&((Bm (c.fStr=([]:Ac)))&&(Bm (c.fN=0)))))] [] (A4<|wv An<|wv (Ae 0)<|wv Bx<|ms Aa<|AF (Bm (c.fInt=0)) (λc4=>Bq c4 An<|Bq c4 (Ae 0)<|Bq c4 BA<|Ej Aa c4 Aa<|ms Aa<|AF (Bm (c.fStr=([]:Ac))) (λc5=>Bq c5 An<|Bq c5 (Ae 0)<|Bq c5 Bx<|Ej Aa c5 Aa<|Bg Aa<|BR (Db c4 c5)) λc5=>CB c5 Aa<|wv (Am c5)<|Bg Aa<|BR (Db c4 c5)) λc4=>CB c4 Aa<|wv (Am c4)<|ms Aa<|Dx Aa<|wv (Am Aa)<|Bg Aa<|BR c4)<|BO<|B8<|cs h3▸CY TW ⟨Aa,Aa⟩) λc2 h6=>Ay<|wv Bx<|Cs Aa<|B2 h6 (λc7 h8=>Ar [(2,rB (bif Bm (c.fInt=0) then((Bm (c.fStr=([]:Ac)))&&(Bm (c.fN=0))) else((Bm (c.fInt=1))&&((Bm (c.fStr=([]:Ac)))&&(Bm (c.fN=0))))))] [] (A4<|wv An<|wv (Ae 0)<|wv Bx<|ms Aa<|AF (Bm (c.fInt=0)) (λc9=>CB c9 Aa<|wv (Aj c9)<|ms Aa<|Iw Aa<|wv An<|Iw Aa<|wv (Ae 0)<|Iw Aa<|wv BA<|wv (Aj Aa)<|ms Aa<|AF (Bm (c.fStr=([]:Ac))) (λhh=>by exact Bq hh An<|Bq hh (Ae 0)<|Bq hh Bx<|Ej Aa hh Aa<|Bg Aa<|BR (Db c9 hh)) λhh=>by exact CB hh Aa<|wv (Am hh)<|Bg Aa<|BR (Db c9 hh)) λc9=>Bq c9 An<|Bq c9 (Ae 0)<|Bq c9 Bx<|Ep Aa c9 Aa<|ms Aa<|AF (Bm (c.fInt=1)) (λhd=>Bq hd An<|Bq hd (Ae 0)<|Bq hd BA<|Ej Aa hd Aa<|ms Aa<|AF (Bm (c.fStr=([]:Ac))) (λhi=>by exact Bq hi An<|Bq hi (Ae 0)<|Bq hi Bx<|Ej Aa hi Aa<|Bg Aa<|BR (Db c9 (Db hd hi))) λhi=>by exact CB hi Aa<|wv (Am hi)<|Bg Aa<|BR (Db c9 (Db hd hi))) λhd=>CB hd Aa<|wv (Am hd)<|ms Aa<|Dx Aa<|wv (Am Aa)<|Bg Aa<|by exact BR (Db c9 hd))<|BO<|B8<|cs h8▸CY TW ⟨Aa,Aa⟩) λc7 hn=>Ay<|wv Bx<|Cs Aa<|B2 hn (λhp hq=>Ar [(2,rB ((Bm (c.fStr=([]:Ac)))&&(Bm (c.fN=0))))] [] (A4<|wv An<|wv (Ae 0)<|wv BA<|ms Aa<|AF (Bm (c.fStr=([]:Ac))) (λhj=>Bq hj An<|Bq hj (Ae 0)<|Bq hj Bx<|Ej Aa hj Aa<|Bg Aa<|by exact BR hj) λhj=>CB hj Aa<|wv (Am hj)<|Bg Aa<|BR hj)<|BO<|B8<|cs hq▸CY TW ⟨Aa,Aa⟩) λhp hr=>Ay<|wv Bx<|Cs Aa<|B2 hr (λhs ht=>ck ht λhu hw=>Ar [(2,rB ((Bm (c.fInt=0))&&((Bm (c.fN=0))&&(ov (SN F c.fStr)))))] [] (A4<|wv An<|wv (Ae 0)<|wv Bx<|ms Aa<|AF (Bm (c.fInt=0)) (λhb=>Bq hb An<|Bq hb (Ae 0)<|Bq hb Bx<|Ej Aa hb Aa<|ms Aa<|AF (Bm (c.fN=0)) (λhe=>by exact Bq he An<|Bq he (Ae 0)<|wo he<|BV Tryz.call188 (AiN F c.fStr (ov (SN F c.fStr)) (Dr (BL (BL hu hb) he)))<|Ej Aa he Aa<|Bg Aa<|BR (Db hb he)) λhe=>by exact CB he Aa<|wv (Am he)<|Bg Aa<|BR (Db hb he)) λhb=>CB hb Aa<|wv (Am hb)<|ms Aa<|Dx Aa<|wv (Am Aa)<|Bg Aa<|by exact BR hb)<|BO<|B8<|cs hw▸CY TW ⟨Aa,Aa⟩) λhs hx=>AV<|Ay<|wv Bx<|Cs Aa<|B2 hx (λhm hy=>BW<|CG Aa hm<|Ar [(2,rB ((Bm (c.fInt=0))&&((Bm (c.fStr=([]:Ac)))&&(Bm (0≤c.fN)))))] [] (A4<|wv An<|wv (Ae 0)<|wv Bx<|ms Aa<|AF (Bm (c.fInt=0)) (λhf=>by exact Bq hf An<|Bq hf (Ae 0)<|Bq hf BA<|Ej Aa hf Aa<|ms Aa<|AF (Bm (c.fStr=([]:Ac))) (λhk=>Bq hk An<|Bq hk (Ae 0)<|Bq hk DK<|Ej Aa hk Aa<|Bg Aa<|BR (Db hf hk)) λhk=>CB hk Aa<|wv (Am hk)<|Bg Aa<|BR (Db hf hk)) λhf=>by exact CB hf Aa<|wv (Am hf)<|ms Aa<|Dx Aa<|wv (Am Aa)<|Bg Aa<|BR hf)<|BO<|B8<|by exact cs hy▸CY TW ⟨Aa,Aa⟩) λhm hz=>A4<|wv Bx<|Cs Aa<|B2 hz (λh0 h1=>by exact Ar [(2,rB ((Bm (c.fInt=0))&&((Bm (c.fStr=([]:Ac)))&&(Bm (0≤c.fN)))))] [] (A4<|wv An<|wv (Ae 0)<|wv Bx<|ms Aa<|AF (Bm (c.fInt=0)) (λhg=>Bq hg An<|Bq hg (Ae 0)<|Bq hg BA<|Ej Aa hg Aa<|ms Aa<|AF (Bm (c.fStr=([]:Ac))) (λhl=>Bq hl An<|Bq hl (Ae 0)<|Bq hl DK<|Ej Aa hl Aa<|Bg Aa<|BR (Db hg hl)) λhl=>CB hl Aa<|wv (Am hl)<|Bg Aa<|BR (Db hg hl)) λhg=>CB hg Aa<|wv (Am hg)<|ms Aa<|Dx Aa<|wv (Am Aa)<|Bg Aa<|BR hg)<|BO<|B8<|cs h1▸CY TW ⟨Aa,Aa⟩) λh0 h2=>by exact B3<|CR<|B6 Aa<|cs h2▸Ap (Ct TW AW) (sS sN) ⟨Aa,Aa⟩
theorem AiO (c:Ab)(r:Int)(h:YW c=some r):FN 156 [Cz (A5 c)] [] (PO (AZ r)):=en Tryz.func156 Tryz.ntmps156 Aa λw Z=>by unfold YW at h;exact Ay<|Cb Aa Aa λb1=>ms Aa<|BU<|Ay<|wv An<|wv (Ae 0)<|AJ<|Au<|Ay<|wv Bx<|Cs Aa<|B2 h (λc2 h3=>B6 Aa<|B8<|cs h3▸Ap (Ct YO AW) (sS sN) ⟨Aa,Aa⟩) λc2 h4=>Ay<|wv Bx<|Cs Aa<|B2 h4 (λc5 h6=>Ay<|wv An<|wv (Ae 0)<|wv (Ahc Aa Aa)<|By Aa<|B8<|cs h6▸Ap (Ct YO AW) (sS sN) ⟨Aa,Aa⟩) λc5 h7=>Ay<|wv Bx<|Cs Aa<|B2 h7 (λc8 h9=>Ay<|wv An<|wv (Ae 0)<|ck h9 λhb hd=>CC Tryz.call133 Aa (Aa6 c.fInt hb) Aa Aa<|wv Bo<|By Aa<|B8<|cs hd▸Ap (Ct YO AW) (sS sN) ⟨Aa,Aa⟩) λc8 he=>Ay<|wv Bx<|Cs Aa<|B2 he (λhf hg=>Ay<|wv An<|wv (Ae 0)<|ob hg λhh hi hj=>BV Tryz.call155 (Wp c.fStr hh hi)<|By Aa<|B8<|cs hj▸Ap (Ct YO AW) (sS sN) ⟨Aa,Aa⟩) λhf hk=>B3<|CR<|Ay<|wv An<|wv (Ae 0)<|wv (Ahc Aa Aa)<|wv (Ahj yu3 Aa Aa)<|wv (AbC Aa Aa)<|By Aa<|by exact cs hk▸Ap (Ct YO AW) (sS sN) ⟨Aa,Aa⟩
abbrev I9 (x0:Value)(x1:List AL):Ent:=.row x0 205 5 (Bu ET x1)
theorem Aeo (F:Nat)(hi:Value)(stack r:(List AL))(h:T1 F stack=some r):FN 158 [rv hi] [I9 hi stack] (λR H=>∃u0:Value,R=rv u0∧H=[I9 u0 r]):=en Tryz.func158 Tryz.ntmps158 Aa λw Z=>AA Aa<|BU<|Au<|ob h λhm hn hl=>Bk (V:=((List AL))×Value) 0 (λσ=>Cg (λσ=>HU σ) σ.1 σ.2.1=some hm) (λσ=>[(0,rv σ.2.2),(2,rv (.slice none 0 0))]) (λσ=>[I9 σ.2.2 σ.2.1]) (λσ=>σ.1) (F,stack,hi) hn (A7 Aa) (sC sN) (λσ=>HT σ.1=some r) (λσ=>[(0,rv σ.2),(2,rv (.slice none 0 0))]) (λσ=>[I9 σ.2 σ.1]) (by rintro⟨n194,hb,hg⟩ hp;refine EG ?_;obtain⟨hq,rfl,hr,hj,hk⟩:=Cq hp;have hj:HU hb=some hr:=hj;exact AV<|AA Aa<|wv (CS 0 MX Aa Aa)<|wv C9<|AJ<|B2 hj (λhs ht=>BW<|Au<|AA Aa<|wv (CS 0 MX Aa Aa)<|ck ht λhu hw=>wv (DV hu)<|ck hw λhd hx=>wv (Dj 0 MX YL Aa Aa Aa (Bz hd))<|ms Aa<|BM Aa<|wv (DO (k:=0) Aa (Bz hd) Aa Aa)<|wv (DI (k:=0) MW Aa K9 Aa (Bz hd) Aa Aa Aa)<|wv (DU 0 Qy Aa Aa hd Aa)<|ck hx λhy hz=>wv (DV hy)<|wv (DO (k:=0) Aa (Bz hd) Aa Aa)<|wv (DI (k:=0) MW Aa K9 Aa (Bz hd) Aa Aa Aa)<|N8 (enc:=ET) (ys:=hb) (y':=(AL.mk (Af hb ((hb.length:Int)-1)).fPairs ((Af hb ((hb.length:Int)-1)).fLeft-1) (Af hb ((hb.length:Int)-1)).fKey (Af hb ((hb.length:Int)-1)).fLast (Af hb ((hb.length:Int)-1)).fStarted)) (i:=0) (j:=(hb.length:Int)-1) K9 Aa Aa (Cl Aa) Aa hd Aa Aa (H':=[I9 hg (List.set hb (D3 ((hb.length:Int)-1)) (AL.mk (Af hb ((hb.length:Int)-1)).fPairs ((Af hb ((hb.length:Int)-1)).fLeft-1) (Af hb ((hb.length:Int)-1)).fKey (Af hb ((hb.length:Int)-1)).fLast (Af hb ((hb.length:Int)-1)).fStarted))]) Aa<|bd hz λhe hf h0=>by rw[← hf];exact BD Aa<|wv (DO (k:=0) Aa (Bz (EE hd hf)) Aa Aa)<|wv (DI (k:=0) MW Aa K9 Aa (Bz (EE hd hf)) Aa Aa Aa)<|wv (DU 0 Qy Aa Aa (EE hd hf) Aa)<|wv C9<|AJ<|B2 h0 (λh1 h2=>AA Aa<|wv (DO (k:=0) Aa (Bz (EE hd hf)) Aa Aa)<|wv (DI (k:=0) MW Aa TT Aa (Bz (EE hd hf)) Aa Aa Aa)<|wv (DU 0 ya4 Aa Aa (EE hd hf) Aa)<|wv (DO (k:=0) Aa (Bz (EE hd hf)) Aa Aa)<|wv (DI (k:=0) MW Aa TT Aa (Bz (EE hd hf)) Aa Aa Aa)<|N8 (enc:=ET) (ys:=he) (y':=(AL.mk (Af he ((hb.length:Int)-1)).fPairs (Af he ((hb.length:Int)-1)).fLeft (Af he ((hb.length:Int)-1)).fPairs (Af he ((hb.length:Int)-1)).fLast (Af he ((hb.length:Int)-1)).fStarted)) (i:=0) (j:=(hb.length:Int)-1) TT Aa Aa (Cl Aa) Aa (EE hd hf) Aa Aa (H':=[I9 hg (List.set he (D3 ((hb.length:Int)-1)) (AL.mk (Af he ((hb.length:Int)-1)).fPairs (Af he ((hb.length:Int)-1)).fLeft (Af he ((hb.length:Int)-1)).fPairs (Af he ((hb.length:Int)-1)).fLast (Af he ((hb.length:Int)-1)).fStarted))]) Aa<|bd h2 λhI h3 h4=>by rw[← h3];exact Dc<|By Aa<|Ao<|B8<|Bf<|have h5:=BE h4 hk hl;B8<|cs h5▸Ap (Ct Tryz.results158 AW) (sC sN) ⟨hg,Aa,Aa⟩) λh1 h6=>BW<|B7 Aa<|wv (CS 0 MX Aa Aa)<|ck h6 λh7 h8=>wv (DV h7)<|ck h8 λh9 hA=>Ak0 (i:=0) MX YL Aa Aa Aa h9 Aa λhB=>Bg Aa<|Ca<|have hC:=Bd hA hk;Ax (As (hq,List.take (D3 ((he.length:Int)-1)) he,hB) ⟨hC,Apu _⟩ (A7 Aa) (sC sN))) λhs hD=>Bs<|Ah<|have hE:=BG hD hk hl;Ah (AN (As (hb,hg) hE (A7 Aa) (sC sN))))<|by rintro⟨hG,hH⟩ hh;refine Gw ?_;exact have hh:HT hG=some r:=hh;by unfold HT at hh;exact AR<|Cy<|B6 Aa<|cs hh▸Ap (Ct Tryz.results158 AW) (sC sN) ⟨hH,Aa,Aa⟩
abbrev Og :List Rp:=[AZ 0,AZ 0,rB false,rB false]
abbrev IB (x0:Nat)(x1:Ab)(x2:Nat)(x3 x4:Int)(x5 x6:Bool)(x7:Nat)(x8:Value)(x9:List AL):List Ent:=[Ez x0 x1,.blk x2 (Ia x3 x4 x5 x6) 169,.blk x7 Og 169,I9 x8 x9]
abbrev Hq (x0:Nat)(x1:Bc):Ent:=.blk x0 (IF x1) 169
abbrev Ql (x0:Nat)(x1:Bc)(x2:Nat)(x3:Value)(x4:List AL):List Ent:=[Hq x0 x1,.blk x2 Og 169,I9 x3 x4]
abbrev AhO (x0:Nat)(x1:Ab)(x2:Nat)(x3 x4:Int)(x5 x6:Bool)(x7:Nat)(x8:Value)(x9:List AL):List Ent:=[Ez x0 x1,.blk x2 (Ia x3 x4 x5 x6) 169,.blk x7 (Ia x3 x4 x5 x6) 169,I9 x8 x9]
abbrev AhN (x0:Value)(x1:List AL)(x2:Nat)(x3:Ab)(x4:Nat)(x5 x6:Int)(x7 x8:Bool)(x9:Nat):List Ent:=[I9 x0 x1,Ez x2 x3,.blk x4 (Ia x5 x6 x7 x8) 169,.blk x9 (Ia x5 x6 x7 x8) 169]
theorem Xv (F:Nat)(v:(List Ab))(r:Int×Bc×Bool)(h:Na F v=some r):FN 114 (Ea v) [] (PO (DW [AZ r.1,Cz (IF r.2.1),rB r.2.2])):=en Tryz.func114 Tryz.ntmps114 Aa λw Z=>by unfold Na at h;exact AA Aa<|BY (cs:=Og) YD Aa Aa λb1=>Cs Aa<|Agd<|Ay<|BY (cs:=Og) YD Aa Aa λb2=>BM Aa<|BU<|Age<|Cy<|AV<|AA Aa<|wv AU<|Cs Aa<|Au<|WC.nilrow (e:=205) (sz:=5)<|Pq [1,1] Aa<|ob h λhA hB hz=>Bk (V:=Bc×Unit) 0 (λσ=>Cg (λσ=>HC F v σ.1 σ.2.1 σ.2.2) σ.1 σ.2.1=some hA) (λσ=>[(0,B4 4 (Bu A5 v)),(3,rP b1 0),(5,rP b2 0),(6,rv σ.2.2),(11,B4 4 (Bu A5 v)),(12,AZ (v.length:Int)),(13,AZ σ.2.1.2.1)]) (λσ=>(Ql b2 σ.2.1.2.2 b1 σ.2.2 σ.2.1.1)) (λσ=>σ.1) (F,(([]:List AL),0,(Bc.mk 0 0 false false)),(.slice none 0 0                                                                                                                                                                                                             )) hB (A7 Aa) (sC (sC (sC sN))) (λσ=>Q6 σ.1=some r) (λσ=>[(3,rP b1 0),(5,rP b2 0)]) (λσ=>[Hq b2 σ.1,.blk b1 Og 169]) (by rintro⟨gL,⟨he,hd,hb⟩,hf⟩ hC;refine EG ?_;obtain⟨hD,rfl,h3,h4,hx⟩:=Cq hC;have h4:HC F v he hd hb=some h3:=h4;exact Ay<|wv BI<|BU<|B2 h4 (λhE hG=>BW<|EY (S:=((List AL)×Bc)×Value) (λσ=>Iz hd σ.1.1 σ.1.2=some h3) (λσ=>[(0,B4 4 (Bu A5 v)),(3,rP b1 0),(5,rP b2 0),(6,rv σ.2),(11,B4 4 (Bu A5 v)),(12,AZ (v.length:Int)),(13,AZ hd)]) (λσ=>(Ql b2 σ.1.2 b1 σ.2 σ.1.1)) (Au<|AA Aa<|ck hG λhH hI=>wv (AX hH)<|wv C2<|BY (cs:=(Sh ([]:Ac))) OZ Aa Aa λhg=>by refine ms Aa<|Eu 0 JZ Aa Aa Aa (Bn.c Aa) Aa Aa ?_;exact BU<|Ay<|wv (B0 0)<|ob hI λhJ hK hL=>BV Tryz.call154 (Ago F (Af v hd) hJ hK)<|wv BQ<|AJ<|B2 hL (λhN hO=>by refine AV<|GK [3,5] [⟨[],Cz (IF hb),1⟩,⟨[],AZ 0,0⟩,⟨[0],rv undef,2⟩,⟨[],rB false,0⟩] (rle [(3,_),(2,[Ez hg (Af v hd),Hq b2 hb,Hq b1 hb,I9 hf he])]) [2,4,3] ?_ ?_;refine of (BP 1 Pp II Aa Aa Aa Aa)<|oq (BS Aa)<|Gu Aa (Ke (HO (i:=2) II Aa Aa Aa (Bn.c Aa) Aa Aa (cs':=(Ia hb.fDepth hb.fBytes hb.fOutside hb.fLong)) Aa (H':=[Ez hg (Af v hd),Hq b2 hb,Hq b1 hb,I9 hf he]) Aa)) ?_;exact oq (BS Aa)<|E8;exact Cy<|BO<|Ao<|B8<|Ao<|Bf<|have hP:=BE hO hx hz;B8<|Q1<|cs hP▸Ap (VK YP AW (C7 (i:=2) Pp II Aa Aa Aa) AW) (sK 0) ⟨Aa,Aa⟩) λhN hQ=>Bt<|AA Aa<|wv (CS 3 MX Aa Aa)<|Cs Aa<|ck hQ λhR hS=>ck hS λh5 hT=>Ar [(0,B4 4 (Bu A5 v)),(3,rP b1 0),(5,rP b2 0),(6,rv hf),(7,AZ hd),(8,rP hg 0),(9,AZ (he.length:Int)),(11,B4 4 (Bu A5 v)),(12,AZ (v.length:Int)),(13,AZ hd),(33,rB ((Bm (0<(he.length:Int)))&&(Af he ((he.length:Int)-1)).fKey))] (.blk hg (A5 (Af v hd)) 82::Ql b2 hb b1 hf he) (B7 Aa<|wv C9<|ms Aa<|AF (Bm (0<(he.length:Int))) (λhl=>wo hl<|ms Aa<|wo hl<|ms Aa<|Bq hl (DV (BL hR hl))<|Bq hl (Dj 3 MX YL Aa Aa Aa (Bz (BL h5 hl)))<|Bq hl (DI (k:=3) MW Aa TT Aa (Bz (BL h5 hl)) Aa Aa Aa)<|Bq hl (DU 3 ya4 Aa Aa (BL h5 hl) Aa)<|Ej Aa hl Aa<|Az<|BR hl) λhl=>CB hl Aa<|wv (Am hl)<|Az<|BR hl)<|B2 hT (λhU hV=>AA Aa<|ck hV λhW hX=>wv (DV hW)<|ck hX λhj hY=>wv (Dj 3 MX YL Aa Aa Aa (Bz hj))<|ms Aa<|BU<|Ar [(0,B4 4 (Bu A5 v)),(3,rP b1 0),(5,rP b2 0),(6,rv hf),(8,rP hg 0),(10,rv (Nr 5 hf (D3 ((he.length:Int)-1)) 0)),(11,B4 4 (Bu A5 v)),(12,AZ (v.length:Int)),(13,AZ hd),(38,rP hg 0),(39,AZ (Af v hd).fKind),(40,rB (!Bm ((Af v hd).fKind=4))),(41,rB (!Bm ((Af v hd).fKind=4))),(55,rB ((!Bm ((Af v hd).fKind=4))||((Af he ((he.length:Int)-1)).fStarted&&(Cr (Af v hd).fStr (Af he ((he.length:Int)-1)).fLast||Bm ((Af v hd).fStr=(Af he ((he.length:Int)-1)).fLast)))))] (.blk hg (A5 (Af v hd)) 82::Ql b2 hb b1 hf he) (AF (!Bm ((Af v hd).fKind=4)) (λhi=>by refine Dn [0,3,5,6,8,10,11,12,13] ?_;refine rq An<|rq (Ae 0)<|rq Ci<|rq AD<|rz hi<|rz hi<|rz hi<|rz hi<|rz hi<|ru<|ru<|ru<|ru<|ru<|ru<|ru<|rz hi<|rq (Aj hi)<|re [38,39,40,41,42,43,44,45,46,47,48,49,50,51,52,53,54,55,0,3,5,6,8,10,11,12,13] ?_;exact BR hi) λhi=>AF (Af he ((he.length:Int)-1)).fStarted (λhk=>by refine Dn [0,3,5,6,8,10,11,12,13] ?_;refine rq An<|rq (Ae 0)<|rq Ci<|rq AD<|rg hi (AE Aa)<|rg hi (r:=rv (Nr 5 hf (D3 ((he.length:Int)-1)) 0)) (DO (k:=3) Aa (Bz hj) Aa Aa)<|rg hi (r:=rv (Nr 5 hf (D3 ((he.length:Int)-1)) 4)) (DI (k:=3) MW Aa TT Aa (Bz hj) Aa Aa Aa)<|rg hi (r:=rB (Af he ((he.length:Int)-1)).fStarted) (DU 3 ya4 Aa Aa hj Aa)<|rg hi (AE Aa)<|rg hk (Aq AaT Aa Ew Aa Aa)<|rg hk (AY 0 IK Aa Aa Aa)<|rg hk (AE Aa)<|rg hk (r:=rv (Nr 5 hf (D3 ((he.length:Int)-1)) 0)) (DO (k:=3) Aa (Bz hj) Aa Aa)<|rg hk (r:=rv (Nr 5 hf (D3 ((he.length:Int)-1)) 3)) (DI (k:=3) MW Aa Ew Aa (Bz hj) Aa Aa Aa)<|rg hk (r:=rS (Af he ((he.length:Int)-1)).fLast) (DU 3 IK Aa Aa hj Aa)<|rg hk (WD Aa Aa)<|rg hi (E9 Aa hk Aa)<|rq (Am hi)<|re [38,39,40,41,42,43,44,45,46,47,48,49,50,51,52,53,54,55,0,3,5,6,8,10,11,12,13] ?_;exact BR (Db hi hk)) λhk=>by refine Dn [0,3,5,6,8,10,11,12,13] ?_;refine rq An<|rq (Ae 0)<|rq Ci<|rq AD<|rg hi (AE Aa)<|rg hi (r:=rv (Nr 5 hf (D3 ((he.length:Int)-1)) 0)) (DO (k:=3) Aa (Bz hj) Aa Aa)<|rg hi (r:=rv (Nr 5 hf (D3 ((he.length:Int)-1)) 4)) (DI (k:=3) MW Aa TT Aa (Bz hj) Aa Aa Aa)<|rg hi (r:=rB (Af he ((he.length:Int)-1)).fStarted) (DU 3 ya4 Aa Aa hj Aa)<|rg hi (AE Aa)<|rz hk<|rz hk<|rz hk<|rz hk<|rz hk<|rz hk<|rz hk<|rg hi (r:=rB false) (DX (b:=(Af he ((he.length:Int)-1)).fStarted) Aa hk Aa)<|rq (Am hi)<|re [38,39,40,41,42,43,44,45,46,47,48,49,50,51,52,53,54,55,0,3,5,6,8,10,11,12,13] ?_;exact BR (Db hi hk))<|B2 hY (λhZ ga=>by refine AV<|GK [3,5] [⟨[],Cz (IF hb),1⟩,⟨[],AZ 0,0⟩,⟨[0],rv undef,2⟩,⟨[],rB false,0⟩] (rle [(3,_),(2,[Ez hg (Af v hd),Hq b2 hb,Hq b1 hb,I9 hf he])]) [2,4,3] ?_ ?_;refine of (BP 1 Pp II Aa Aa Aa Aa)<|oq (BS Aa)<|Gu Aa (Ke (HO (i:=2) II Aa Aa Aa (Bn.c Aa) Aa Aa (cs':=(Ia hb.fDepth hb.fBytes hb.fOutside hb.fLong)) Aa (H':=[Ez hg (Af v hd),Hq b2 hb,Hq b1 hb,I9 hf he]) Aa)) ?_;exact oq (BS Aa)<|E8;exact Cy<|BO<|Ao<|Ao<|B8<|Ao<|Bf<|have gb:=BE ga hx hz;B8<|Q1<|cs gb▸Ap (VK YP AW (C7 (i:=2) Pp II Aa Aa Aa) AW) (sK 0) ⟨Aa,Aa⟩) λhZ gc=>BW<|AA Aa<|wv An<|wv (Ae 0)<|wv (DO (k:=3) Aa (Bz hj) Aa Aa)<|wv (DI (k:=3) MW Aa Ew Aa (Bz hj) Aa Aa Aa)<|N8 (enc:=ET) (ys:=he) (y':=(AL.mk (Af he ((he.length:Int)-1)).fPairs (Af he ((he.length:Int)-1)).fLeft (Af he ((he.length:Int)-1)).fKey (Af v hd).fStr (Af he ((he.length:Int)-1)).fStarted)) (i:=3) (j:=(he.length:Int)-1) Ew Aa Aa (Cl Aa) Aa hj Aa Aa (H':=(.blk hg (A5 (Af v hd)) 82::Ql b2 hb b1 hf (List.set he (D3 ((he.length:Int)-1)) (AL.mk (Af he ((he.length:Int)-1)).fPairs (Af he ((he.length:Int)-1)).fLeft (Af he ((he.length:Int)-1)).fKey (Af v hd).fStr (Af he ((he.length:Int)-1)).fStarted)))) Aa<|bd gc λhq hw gd=>by rw[← hw];exact wv (DO (k:=3) Aa (Bz (EE hj hw)) Aa Aa)<|wv (DI (k:=3) MW Aa TT Aa (Bz (EE hj hw)) Aa Aa Aa)<|N8 (enc:=ET) (ys:=hq) (y':=(AL.mk (Af hq ((he.length:Int)-1)).fPairs (Af hq ((he.length:Int)-1)).fLeft (Af hq ((he.length:Int)-1)).fKey (Af hq ((he.length:Int)-1)).fLast true)) (i:=3) (j:=(he.length:Int)-1) TT Aa Aa (Cl Aa) Aa (EE hj hw) Aa Aa (H':=(.blk hg (A5 (Af v hd)) 82::Ql b2 hb b1 hf (List.set hq (D3 ((he.length:Int)-1)) (AL.mk (Af hq ((he.length:Int)-1)).fPairs (Af hq ((he.length:Int)-1)).fLeft (Af hq ((he.length:Int)-1)).fKey (Af hq ((he.length:Int)-1)).fLast true)))) Aa<|bd gd λhr h0 gf=>by rw[← h0];exact wv (DO (k:=3) Aa (Bz (EE (EE hj hw) h0)) Aa Aa)<|wv (DI (k:=3) MW Aa TT Aa (Bz (EE (EE hj hw) h0)) Aa Aa Aa)<|N8 (enc:=ET) (ys:=hr) (y':=(AL.mk (Af hr ((he.length:Int)-1)).fPairs (Af hr ((he.length:Int)-1)).fLeft false (Af hr ((he.length:Int)-1)).fLast (Af hr ((he.length:Int)-1)).fStarted)) (i:=3) (j:=(he.length:Int)-1) TT Aa Aa (Cl Aa) Aa (EE (EE hj hw) h0) Aa Aa (H':=(.blk hg (A5 (Af v hd)) 82::Ql b2 hb b1 hf (List.set hr (D3 ((he.length:Int)-1)) (AL.mk (Af hr ((he.length:Int)-1)).fPairs (Af hr ((he.length:Int)-1)).fLeft false (Af hr ((he.length:Int)-1)).fLast (Af hr ((he.length:Int)-1)).fStarted)))) Aa<|bd gf λhy gg gh=>by rw[← gg];refine BU<|ob gh λhn gi gj=>ck gj λgl gm=>GK [0,3,5,6,8,11,12,13,38,39,40,41] [⟨[],rP b2 1,0⟩,⟨[0],AZ hb.fBytes,1⟩,⟨[],rP hg 2,0⟩,⟨[2],rS (Af v hd).fStr,1⟩,⟨[3],AZ hn,0⟩,⟨[4],AZ (hn+1),0⟩,⟨[1,5],AZ (P4 .i64 (hb.fBytes+(hn+1))),0⟩,⟨[],rP b2 1,0⟩,⟨[7,6],rv undef,2⟩] (rle [(9,_),(1,(IB hg (Af v hd) b2 hb.fDepth (P4 .i64 (hb.fBytes+(hn+1))) hb.fOutside hb.fLong b1 hf hy))]) [68,69,70,71,72,73,74,75,0,3,5,6,8,11,12,13,38,39,40,41] ?_ ?_;refine oq (Aq YG Aa K9 Aa Aa)<|of (AY 1 Qy Aa Aa Aa)<|oq (Aq AaT Aa Ew Aa Aa)<|of (AY 0 IK Aa Aa Aa)<|LT Aa (λH=>Dy Tryz.call155 (Wp (Af v hd).fStr hn gi) Aa) ?_;refine oq (ZL Aa Aa gl)<|oq (AbC Aa Aa)<|oq (Aq YG Aa K9 Aa Aa)<|Gu Aa (Ke (Eb (i:=1) K9 Aa Aa (Cl Aa) Aa Aa (cs':=(Ia hb.fDepth (P4 .i64 (hb.fBytes+(hn+1))) hb.fOutside hb.fLong)) Aa (H':=(IB hg (Af v hd) b2 hb.fDepth (P4 .i64 (hb.fBytes+(hn+1))) hb.fOutside hb.fLong b1 hf hy)) Aa)) ?_;exact E8;exact Cy<|Ar [(0,B4 4 (Bu A5 v)),(3,rP b1 0),(5,rP b2 0),(6,rv hf),(11,B4 4 (Bu A5 v)),(12,AZ (v.length:Int)),(13,AZ hd),(38,rP hg 0),(39,AZ (Af v hd).fKind),(40,rB (!Bm ((Af v hd).fKind=4))),(41,rB (!Bm ((Af v hd).fKind=4))),(68,rP b2 1),(69,AZ hb.fBytes),(70,rP hg 2),(71,rS (Af v hd).fStr),(72,AZ hn),(73,AZ (hn+1)),(74,AZ (P4 .i64 (hb.fBytes+(hn+1)))),(75,rP b2 1)] (IB hg (Af v hd) b2 hb.fDepth (P4 .i64 (hb.fBytes+(hn+1))) hb.fOutside (hb.fLong||(Bm (200<((Af v hd).fStr.length:Int)))) b1 hf hy) (A4<|wv An<|wv (Ae 1)<|ms Aa<|AF hb.fLong (λhs=>by refine CB hs Aa<|wv (Aj hs)<|wv An<|us 1 TT Aa Aa (Cl Aa) Aa Aa ?_;exact Az<|PH (H':=(IB hg (Af v hd) b2 hb.fDepth (P4 .i64 (hb.fBytes+(hn+1))) hb.fOutside (hb.fLong||(Bm (200<((Af v hd).fStr.length:Int)))) b1 hf hy)) (by simp only[hs,Ap7,ApO,Aqg,ApJ,ApT,Aqa,Aqd,Aqc,Ap0,ApG,Ap1,Apv])<|wt) λhs=>by refine Bq hs An<|Bq hs (Ae 0)<|Bq hs Bo<|Bq hs C9<|Ep Aa hs Aa<|wv An<|us 1 TT Aa Aa (Cl Aa) Aa Aa ?_;exact Az<|PH (H':=(IB hg (Af v hd) b2 hb.fDepth (P4 .i64 (hb.fBytes+(hn+1))) hb.fOutside (hb.fLong||(Bm (200<((Af v hd).fStr.length:Int)))) b1 hf hy)) (by simp only[hs,Ap7,ApO,Aqg,ApJ,ApT,Aqa,Aqd,Aqc,Ap0,ApG,Ap1,Apv])<|wt)<|Bs<|Ah<|AR<|Ax (As ((hy,(Bc.mk hb.fDepth (P4 .i64 (hb.fBytes+(hn+1))) hb.fOutside (hb.fLong||(Bm (200<((Af v hd).fStr.length:Int)))))),hf) gm (A7 Aa) (sS (sC (sC (sC sN)))))) λhU gp=>by refine BW<|Ay<|wv An<|wv (Ae 1)<|ms Aa<|wv (CS 3 MX Aa Aa)<|ck gp λgq gr=>wv (Bh gq)<|wv (Ahj yu3 Aa Aa)<|wv An<|us 1 K9 Aa Aa (Cl Aa) Aa Aa ?_;refine BU<|ob gr λhh gs gu=>GK [0,3,5,6,7,8,11,12,13] [⟨[],rP b2 1,0⟩,⟨[0],AZ hb.fBytes,1⟩,⟨[],Cz (A5 (Af v hd)),1⟩,⟨[2],AZ hh,0⟩,⟨[1,3],AZ (P4 .i64 (hb.fBytes+hh)),0⟩,⟨[],rP b2 1,0⟩,⟨[5,4],rv undef,2⟩] (rle [(7,_),(1,(IB hg (Af v hd) b2 (max hb.fDepth ((he.length:Int)+1)) (P4 .i64 (hb.fBytes+hh)) hb.fOutside hb.fLong b1 hf he))]) [92,93,94,95,96,97,0,3,5,6,7,8,11,12,13] ?_ ?_;refine oq (Aq YG Aa K9 Aa Aa)<|of (AY 1 Qy Aa Aa Aa)<|of (BP 0 Tryz.isAgg82 JZ Aa Aa Aa Aa)<|LT Aa (λH=>Dy Tryz.call156 (AiO (Af v hd) hh gs) Aa) ?_;refine oq (AbC Aa Aa)<|oq (Aq YG Aa K9 Aa Aa)<|Gu Aa (Ke (Eb (i:=1) K9 Aa Aa (Cl Aa) Aa Aa (cs':=(Ia (max hb.fDepth ((he.length:Int)+1)) (P4 .i64 (hb.fBytes+hh)) hb.fOutside hb.fLong)) Aa (H':=(IB hg (Af v hd) b2 (max hb.fDepth ((he.length:Int)+1)) (P4 .i64 (hb.fBytes+hh)) hb.fOutside hb.fLong b1 hf he)) Aa)) ?_;exact E8;exact Cy<|ck gu λgv gw=>Ar [(0,B4 4 (Bu A5 v)),(3,rP b1 0),(5,rP b2 0),(6,rv hf),(7,AZ hd),(8,rP hg 0),(11,B4 4 (Bu A5 v)),(12,AZ (v.length:Int)),(13,AZ hd),(92,rP b2 1),(93,AZ hb.fBytes),(94,Cz (A5 (Af v hd))),(95,AZ hh),(96,AZ (P4 .i64 (hb.fBytes+hh))),(97,rP b2 1)] (IB hg (Af v hd) b2 (max hb.fDepth ((he.length:Int)+1)) (P4 .i64 (hb.fBytes+hh)) (hb.fOutside||((Bm ((Af v hd).fKind=3))&&(!(ov (DJ (Af v hd).fInt))))) hb.fLong b1 hf he) (A4<|wv An<|wv (Ae 1)<|ms Aa<|AF hb.fOutside (λhm=>by refine CB hm Aa<|wu<|wu<|wu<|wu<|wf hm<|wv (Aj hm)<|wv An<|us 1 TT Aa Aa (Cl Aa) Aa Aa ?_;exact Az<|PH (H':=(IB hg (Af v hd) b2 (max hb.fDepth ((he.length:Int)+1)) (P4 .i64 (hb.fBytes+hh)) (hb.fOutside||((Bm ((Af v hd).fKind=3))&&(!(ov (DJ (Af v hd).fInt))))) hb.fLong b1 hf he)) (by simp only[hm,Ap7,ApO,Aqg,ApJ,ApT,Aqa,Aqd,Aqc,Ap0,ApG,Ap1,Apv])<|wt) λhm=>Bq hm An<|Bq hm (Ae 0)<|Bq hm Bx<|wo hm<|ms Aa<|AF (Bm ((Af v hd).fKind=3)) (λhp=>by refine Bq hp An<|Bq hp (Ae 0)<|wo hp<|BV Tryz.call157 (nValid_w (Af v hd).fInt (ov (DJ (Af v hd).fInt)) (Dr (BL (CM gv hm) hp)))<|Bq hp BQ<|wo hm<|Ej Aa hp Aa<|Ep Aa hm Aa<|wv An<|us 1 TT Aa Aa (Cl Aa) Aa Aa ?_;exact Az<|PH (H':=(IB hg (Af v hd) b2 (max hb.fDepth ((he.length:Int)+1)) (P4 .i64 (hb.fBytes+hh)) (hb.fOutside||((Bm ((Af v hd).fKind=3))&&(!(ov (DJ (Af v hd).fInt))))) hb.fLong b1 hf he)) (by simp only[hm,hp,Ap7,ApO,Aqg,ApJ,ApT,Aqa,Aqd,Aqc,Ap0,ApG,Ap1,Apv])<|wt) λhp=>by refine CB hp Aa<|Bq hm (Am hp)<|Ep Aa hm Aa<|wv An<|us 1 TT Aa Aa (Cl Aa) Aa Aa ?_;exact Az<|PH (H':=(IB hg (Af v hd) b2 (max hb.fDepth ((he.length:Int)+1)) (P4 .i64 (hb.fBytes+hh)) (hb.fOutside||((Bm ((Af v hd).fKind=3))&&(!(ov (DJ (Af v hd).fInt))))) hb.fLong b1 hf he)) (by simp only[hm,hp,Ap7,ApO,Aqg,ApJ,ApT,Aqa,Aqd,Aqc,Ap0,ApG,Ap1,Apv])<|wt)<|Ar [(0,B4 4 (Bu A5 v)),(3,rP b1 0),(5,rP b2 0),(6,rv hf),(7,AZ hd),(8,rP hg 0),(11,B4 4 (Bu A5 v)),(12,AZ (v.length:Int)),(13,AZ hd),(92,rP b2 1),(93,AZ hb.fBytes),(94,Cz (A5 (Af v hd))),(95,AZ hh),(96,AZ (P4 .i64 (hb.fBytes+hh))),(97,rP b2 1)] (IB hg (Af v hd) b2 (max hb.fDepth ((he.length:Int)+1)) (P4 .i64 (hb.fBytes+hh)) (hb.fOutside||((Bm ((Af v hd).fKind=3))&&(!(ov (DJ (Af v hd).fInt))))) (hb.fLong||(Bm (200<((Af v hd).fStr.length:Int)))) b1 hf he) (A4<|wv An<|wv (Ae 1)<|ms Aa<|AF hb.fLong (λht=>by refine CB ht Aa<|wv (Aj ht)<|wv An<|us 1 TT Aa Aa (Cl Aa) Aa Aa ?_;exact Az<|PH (H':=(IB hg (Af v hd) b2 (max hb.fDepth ((he.length:Int)+1)) (P4 .i64 (hb.fBytes+hh)) (hb.fOutside||((Bm ((Af v hd).fKind=3))&&(!(ov (DJ (Af v hd).fInt))))) (hb.fLong||(Bm (200<((Af v hd).fStr.length:Int)))) b1 hf he)) (by simp only[ht,Ap7,ApO,Aqg,ApJ,ApT,Aqa,Aqd,Aqc,Ap0,ApG,Ap1,Apv])<|wt) λht=>by refine Bq ht An<|Bq ht (Ae 0)<|Bq ht Bo<|Bq ht C9<|Ep Aa ht Aa<|wv An<|us 1 TT Aa Aa (Cl Aa) Aa Aa ?_;exact Az<|PH (H':=(IB hg (Af v hd) b2 (max hb.fDepth ((he.length:Int)+1)) (P4 .i64 (hb.fBytes+hh)) (hb.fOutside||((Bm ((Af v hd).fKind=3))&&(!(ov (DJ (Af v hd).fInt))))) (hb.fLong||(Bm (200<((Af v hd).fStr.length:Int)))) b1 hf he)) (by simp only[ht,Ap7,ApO,Aqg,ApJ,ApT,Aqa,Aqd,Aqc,Ap0,ApG,Ap1,Apv])<|wt)<|AV<|Ay<|wv An<|wv (Ae 0)<|wv C9<|AJ<|B2 gw (λgx gy=>AV<|Ay<|wv An<|wv (Ae 0)<|ms Aa<|wv AU<|wv C9<|AJ<|B2 gy (λgz g0=>by refine AV<|GK [3,5] [⟨[],Cz (Ia (max hb.fDepth ((he.length:Int)+1)) (P4 .i64 (hb.fBytes+hh)) (hb.fOutside||((Bm ((Af v hd).fKind=3))&&(!(ov (DJ (Af v hd).fInt))))) (hb.fLong||(Bm (200<((Af v hd).fStr.length:Int))))),1⟩,⟨[],AZ 0,0⟩,⟨[0],rv undef,2⟩,⟨[],rB false,0⟩] (rle [(3,_),(2,(AhO hg (Af v hd) b2 (max hb.fDepth ((he.length:Int)+1)) (P4 .i64 (hb.fBytes+hh)) (hb.fOutside||((Bm ((Af v hd).fKind=3))&&(!(ov (DJ (Af v hd).fInt))))) (hb.fLong||(Bm (200<((Af v hd).fStr.length:Int)))) b1 hf he))]) [2,4,3] ?_ ?_;refine of (BP 1 Pp II Aa Aa Aa Aa)<|oq (BS Aa)<|Gu Aa (Ke (HO (i:=2) II Aa Aa Aa (Bn.c Aa) Aa Aa (cs':=(Ia (max hb.fDepth ((he.length:Int)+1)) (P4 .i64 (hb.fBytes+hh)) (hb.fOutside||((Bm ((Af v hd).fKind=3))&&(!(ov (DJ (Af v hd).fInt))))) (hb.fLong||(Bm (200<((Af v hd).fStr.length:Int)))))) Aa (H':=(AhO hg (Af v hd) b2 (max hb.fDepth ((he.length:Int)+1)) (P4 .i64 (hb.fBytes+hh)) (hb.fOutside||((Bm ((Af v hd).fKind=3))&&(!(ov (DJ (Af v hd).fInt))))) (hb.fLong||(Bm (200<((Af v hd).fStr.length:Int)))) b1 hf he)) Aa)) ?_;exact oq (BS Aa)<|E8;exact Cy<|BO<|Ao<|Ao<|B8<|Ao<|Bf<|have g1:=BE g0 hx hz;B8<|Q1<|cs g1▸Ap (VK YP AW (C7 (i:=2) Pp II Aa Aa Aa) AW) (sK 0) ⟨Aa,Aa⟩) λgz g2=>BW<|AA Aa<|wv An<|wv (Ae 0)<|wv Bx<|wv An<|wv (Ae 0)<|wv An<|wv (Ae 0)<|wv Bx<|wv (CD Ais Aa (Eo Aa (Eo Aa (Eo Aa cN))) Aa)<|DP ([(AL.mk (Bm ((Af v hd).fKind=6)) (Af v hd).fN (Bm ((Af v hd).fKind=6)) ([]:Ac) false)]:List AL) ET MX YL Tryz.zeroValue205 Aa ⟨cA,trivial⟩ Nh λgM=>ck g2 λg3 g4=>IM 4 MX AjM Aa Aa (K8.w 0 Aa Aa) Nh Tv g3 λg5=>by refine Cs Aa<|Bs<|Ah<|AR<|JL [3,3] ?_;exact Ax (As ((he++([(AL.mk (Bm ((Af v hd).fKind=6)) (Af v hd).fN (Bm ((Af v hd).fKind=6)) ([]:Ac) false)]:List AL),(Bc.mk (max hb.fDepth ((he.length:Int)+1)) (P4 .i64 (hb.fBytes+hh)) (hb.fOutside||((Bm ((Af v hd).fKind=3))&&(!(ov (DJ (Af v hd).fInt))))) (hb.fLong||(Bm (200<((Af v hd).fStr.length:Int)))))),g5) g4 (A7 Aa) (sC (sC (sC (sS (sS sN))))))) λgx g6=>by refine BW<|AA Aa<|ob g6 λh1 g7 g8=>EX [3] Tryz.call158 (Aeo F hf he h1 g7) ?_;rintro _ _ ⟨h6,rfl,rfl⟩;exact ms Aa<|BM Aa<|wv (CS 0 MX Aa Aa)<|wv Bx<|AJ<|B2 g8 (λg9 gA=>by refine AV<|ck gA λgB gC=>GK [3,5,7] [⟨[],AZ hd,0⟩,⟨[0],AZ (hd+1),0⟩,⟨[],Cz (Ia (max hb.fDepth ((he.length:Int)+1)) (P4 .i64 (hb.fBytes+hh)) (hb.fOutside||((Bm ((Af v hd).fKind=3))&&(!(ov (DJ (Af v hd).fInt))))) (hb.fLong||(Bm (200<((Af v hd).fStr.length:Int))))),1⟩,⟨[1],AZ (hd+1),0⟩,⟨[2],rv undef,2⟩,⟨[],rB true,0⟩] (rle [(5,_),(2,(AhN h6 h1 hg (Af v hd) b2 (max hb.fDepth ((he.length:Int)+1)) (P4 .i64 (hb.fBytes+hh)) (hb.fOutside||((Bm ((Af v hd).fKind=3))&&(!(ov (DJ (Af v hd).fInt))))) (hb.fLong||(Bm (200<((Af v hd).fStr.length:Int)))) b1))]) [2,4,3] ?_ ?_;refine oq (AE Aa)<|oq (ZL Aa Aa gB)<|of (BP 2 Pp II Aa Aa Aa Aa)<|oq (BS Aa)<|Gu Aa (Ke (HO (i:=3) II Aa Aa Aa (Bn.c Aa) Aa Aa (cs':=(Ia (max hb.fDepth ((he.length:Int)+1)) (P4 .i64 (hb.fBytes+hh)) (hb.fOutside||((Bm ((Af v hd).fKind=3))&&(!(ov (DJ (Af v hd).fInt))))) (hb.fLong||(Bm (200<((Af v hd).fStr.length:Int)))))) Aa (H':=(AhN h6 h1 hg (Af v hd) b2 (max hb.fDepth ((he.length:Int)+1)) (P4 .i64 (hb.fBytes+hh)) (hb.fOutside||((Bm ((Af v hd).fKind=3))&&(!(ov (DJ (Af v hd).fInt))))) (hb.fLong||(Bm (200<((Af v hd).fStr.length:Int)))) b1)) Aa)) ?_;exact oq (BS Aa)<|E8;exact Cy<|BO<|B8<|Ao<|Bf<|have gD:=BE gC hx hz;B8<|Q1<|cs gD▸Ap (VK YP AW (C7 (i:=3) Pp II Aa Aa Aa) AW) (sK 0) ⟨Aa,Aa⟩) λg9 gE=>by refine B3<|Ca<|JL [2,2] ?_;exact Ax (As ((h1,(Bc.mk (max hb.fDepth ((he.length:Int)+1)) (P4 .i64 (hb.fBytes+hh)) (hb.fOutside||((Bm ((Af v hd).fKind=3))&&(!(ov (DJ (Af v hd).fInt))))) (hb.fLong||(Bm (200<((Af v hd).fStr.length:Int)))))),h6) gE (A7 Aa) (sC (sC (sC (sS sN))))))<|by rintro⟨⟨h8,h9⟩,gF⟩ h7;refine EG ?_;exact have h7:Iz hd h8 h9=some h3:=h7;A4<|ck h7 λgG gH=>wv (Bh gG)<|Bg Aa<|have gI:=Bd gH hx;Ax (As (hD,(h8,hd+1,h9),gF) ⟨gI,Apu _⟩ (A7 Aa) (sC (sC (sC sN))))) λhE gJ=>Bs<|Ah<|have gK:=BG gJ hx hz;Ah (AN (As (hb,()) gK (A7 Aa) (sC (sC (sS sN))))))<|by rintro⟨hu,⟨⟩⟩ h2;refine Gw ?_;exact have h2:Q6 hu=some r:=h2;by unfold Q6 at h2;refine AR<|Cy<|AV<|GK [3,5] [⟨[],Cz (IF hu),1⟩,⟨[],AZ 0,0⟩,⟨[0],rv undef,2⟩,⟨[],rB false,0⟩] (rle [(3,_),(2,[Hq b2 hu,Hq b1 hu])]) [2,4,3] ?_ ?_;refine of (BP 0 Pp II Aa Aa Aa Aa)<|oq (BS Aa)<|Gu Aa (Ke (HO (i:=1) II Aa Aa Aa (Bn.c Aa) Aa Aa (cs':=(Ia hu.fDepth hu.fBytes hu.fOutside hu.fLong)) Aa (H':=[Hq b2 hu,Hq b1 hu]) Aa)) ?_;exact oq (BS Aa)<|E8;exact Cy<|BO<|Q1<|cs h2▸Ap (VK YP AW (C7 (i:=1) Pp II Aa Aa Aa) AW) (sK 0) ⟨Aa,Aa⟩
theorem Q8 (F:Nat)(v:(List Ab))(r:Int)(h:N7 F v=some r):FN 68 (Ea v) [] (PO (AZ r)):=en Tryz.func68 Tryz.ntmps68 Aa λw Z=>AA Aa<|BM Aa<|ob h λr1 e3 h2=>BV Tryz.call114 (Xv F v r1 e3)<|ms Aa<|wv Al<|wv Al<|wv Al<|BY (cs:=Og) YD Aa Aa λb4=>by refine ms Aa<|Eu 0 II Aa Aa Aa (Bn.c Aa) Aa Aa ?_;exact ms Aa<|BU<|Au<|Ar [(0,B4 4 (Bu A5 v)),(4,rP b4 0),(12,rB ((!r1.2.2)||(!Bm (r1.1=(v.length:Int)))))] [Hq b4 r1.2.1] (B7 Aa<|wv BQ<|ms Aa<|AF (!r1.2.2) (λc5=>CB c5 Aa<|wv (Aj c5)<|Bg Aa<|BR c5) λc5=>wo c5<|ms Aa<|wo c5<|ms Aa<|Bq c5 AU<|Bq c5 Ci<|Ep Aa c5 Aa<|Bg Aa<|BR c5)<|B2 h2 (λc6 h7=>B6 Aa<|B8<|cs h7▸Ap (Ct AiB AW) (sS sN) ⟨Aa,Aa⟩) λc6 h8=>Ay<|wv An<|wv (Ae 0)<|Cs Aa<|B2 h8 (λc9 hf=>B6 Aa<|B8<|cs hf▸Ap (Ct AiB AW) (sS sN) ⟨Aa,Aa⟩) λc9 hg=>Ar [(24,rB (r1.2.1.fLong||((Bm (200<(v.length:Int)))||((Bm (8<r1.2.1.fDepth))||(Bm (4000<r1.2.1.fBytes))))))] [] (A4<|wv An<|wv (Ae 0)<|ms Aa<|AF r1.2.1.fLong (λhb=>CB hb Aa<|wv (Aj hb)<|ms Aa<|Dx Aa<|wv (Aj Aa)<|ms Aa<|Dx Aa<|wv (Aj Aa)<|Bg Aa<|BR hb) λhb=>wo hb<|ms Aa<|Bq hb AU<|Bq hb C9<|Ep Aa hb Aa<|ms Aa<|AF (Bm (200<(v.length:Int))) (λhd=>CB hd Aa<|wv (Aj hd)<|ms Aa<|Dx Aa<|wv (Aj Aa)<|Bg Aa<|BR (Db hb hd)) λhd=>Bq hd An<|Bq hd (Ae 0)<|Bq hd C9<|Ep Aa hd Aa<|ms Aa<|AF (Bm (8<r1.2.1.fDepth)) (λhe=>CB he Aa<|wv (Aj he)<|Bg Aa<|by exact BR (Db hb (Db hd he))) λhe=>Bq he An<|Bq he (Ae 0)<|Bq he C9<|Ep Aa he Aa<|Bg Aa<|by exact BR (Db hb (Db hd he)))<|B2 hg (λhh hi=>B6 Aa<|B8<|cs hi▸CY AiB ⟨Aa,Aa⟩) λhh hj=>B3<|CR<|B6 Aa<|cs hj▸CY AiB ⟨Aa,Aa⟩
theorem Ui (F:Nat)(v:(List Ab))(r:(List Ab)×Int)(h:KE F v=some r):FN 80 (Ea v) [] (PO (DW (Gp r.1 r.2))):=en Tryz.func80 Tryz.ntmps80 Aa λw Z=>AA Aa<|BD Aa<|ob h λr1 e3 h2=>BV Tryz.call68 (Q8 F v r1 e3)<|ms Aa<|BM Aa<|wv Ci<|AJ<|B2 h2 (λc4 h5=>Bw Aa<|WK.up (d:=2) (r:=B4 4 (Bu A5 ([]:List Ab))) Aa (Up.le (Hx.nil _))<|cs h5▸VH Tryz.results80 ⟨Aa,Aa⟩) λc4 h6=>BW<|B6 Aa<|cs h6▸VH Tryz.results80 ⟨Aa,Aa⟩
theorem Ov (r:(List Ab))(h:N4=some r):FN 40 [] [] (PO (B4 4 (Bu A5 r))):=en Tryz.func40 Tryz.ntmps40 Aa λw Z=>by unfold N4 at h;exact AA Aa<|Dc<|wv (CD Lx Aa (Eo Aa cN) Aa)<|DP ([(Ab.mk 1 0 ([]:Ac) 0)]:List Ab) A5 Mv JZ OZ Aa ⟨cA,trivial⟩ Dh λb1=>By Aa<|WK.freeze (i:=0) Aa<|WK.up (d:=0) Aa (Up.fact 0 Aa)<|cs h▸Ap (Ct Tryz.results40 AW) (sS sN) ⟨Aa,Aa⟩
theorem Agq (F:Nat)(n:Int)(r:(List Ab)×Int)(h:Aen F n=some r):FN 44 [AZ n] [] (PO (DW (Gp r.1 r.2))):=en Tryz.func44 Tryz.ntmps44 Aa λw Z=>by unfold Aen at h;exact AA Aa<|BM Aa<|wv (CD Lx Aa (Eo Aa (Eo Aa cN)) Aa)<|DP ([(Ab.mk 3 n ([]:Ac) 0)]:List Ab) A5 Mv JZ OZ Aa ⟨cA,trivial⟩ Dh λb1=>WL.freeze (i:=0) Aa<|WL.up (d:=6) Aa (Up.fact 0 Aa)<|ob h λr2 e4 h3=>BV Tryz.call80 (Ui F ([(Ab.mk 3 n ([]:Ac) 0)]:List Ab) r2 e4)<|wv Al<|wv Al<|By Aa<|cs h3▸Ap (LA Tryz.results44 AW AW) (sS sN) ⟨Aa,Aa⟩
theorem Agj (F:Nat)(s:Ac)(r:(List Ab)×Int)(h:Aek F s=some r):FN 43 [rS s] [] (PO (DW (Gp r.1 r.2))):=en Tryz.func43 Tryz.ntmps43 Aa λw Z=>by unfold Aek at h;exact AA Aa<|BM Aa<|wv (CD Lx Aa (Eo Aa (Eo Aa cN)) Aa)<|DP ([(Ab.mk 4 0 s 0)]:List Ab) A5 Mv JZ OZ Aa ⟨cA,trivial⟩ Dh λb1=>WL.freeze (i:=0) Aa<|WL.up (d:=6) Aa (Up.fact 0 Aa)<|ob h λr2 e4 h3=>BV Tryz.call80 (Ui F ([(Ab.mk 4 0 s 0)]:List Ab) r2 e4)<|wv Al<|wv Al<|By Aa<|cs h3▸Ap (LA Tryz.results43 AW AW) (sS sN) ⟨Aa,Aa⟩
end Go.Proofs.YtphnhpcjnmmhiaaGreatDoor.Q
namespace Go.Proofs.YtphnhpcjnmmhiaaGreatDoor
open Go
set_option linter.unusedVariables false
def GA (s:Ac)(hb:Int)(hd:Ac):Option (Stp (Int×Ac) (Out Ac Ac)):=
 Bj (decide (hb<(s.length:Int))) (AM (Cn hb (s.length:Int))<|Bj (((decide ((C0 s hb)=34))||(decide ((C0 s hb)=92)))) (AM (Dl 1 (hd.length+1))<|AM (BT .u8 92)<|Nu (hd++[UInt8.ofNat (Int.toNat 92)]) λhe=>AM (Dl 1 (he.length+1))<|AM (BT .u8 (C0 s hb))<|Nu (he++[UInt8.ofNat (Int.toNat (C0 s hb))]) λhf=>AM (BT .i64 (hb+1))<|some (.next (hb+1,hf))) (AM (Dl 1 (hd.length+1))<|AM (BT .u8 (C0 s hb))<|Nu (hd++[UInt8.ofNat (Int.toNat (C0 s hb))]) λhg=>AM (BT .i64 (hb+1))<|some (.next (hb+1,hg)))) (some (.out (.go hd)))
def IO (hb:Ac):Option Ac:=
 AM (Dl 1 (hb.length+1))<|Nu (hb++[UInt8.ofNat (Int.toNat 34)]) λhd=>some hd
def R5 (F:Nat)(l s:Ac):Option Ac:=
 AM (Dl 1 (l.length+1))<|AM (BT .u8 34)<|Nu (l++[UInt8.ofNat (Int.toNat 34)]) λr6=>Ba (Cg (λσ=>GA s σ.1 σ.2) F (0,r6)) (Cm λν=>IO ν)
def Ot (F:Nat)(hn:Ac→(List Ab)→Bool→Ac→Ab→Option (Bool×Bool×Ac))(hb:(List Ab)→Bool→Ac→Ab→Option (Bool×Ac))(l:Ac)(v:(List Ab)):Option Ac:=
 AM (Cn 0 (v.length:Int))<|Bj (decide ((Af v 0).fKind=1)) (AM (Dl 1 (l.length+([110,117,108,108]:Ac).length))<|Nu (l++([110,117,108,108]:Ac)) λhf=>some hf) (Bj (decide ((Af v 0).fKind=2)) (AM (Cn (Af v 0).fInt (([([102,97,108,115,101]:Ac),([116,114,117,101]:Ac)]:List Ac).length:Int))<|AM (Dl 1 (l.length+(Af ([([102,97,108,115,101]:Ac),([116,114,117,101]:Ac)]:List Ac) (Af v 0).fInt).length))<|Nu (l++(Af ([([102,97,108,115,101]:Ac),([116,114,117,101]:Ac)]:List Ac) (Af v 0).fInt)) λhg=>some hg) (Bj (decide ((Af v 0).fKind=3)) (AM (BT .i64 (Af v 0).fInt)<|AM (Dl 1 (l.length+(Lib.itoa (Af v 0).fInt).length))<|Nu (l++(Lib.itoa (Af v 0).fInt)) λhh=>some hh) (Bj (decide ((Af v 0).fKind=4)) (Ba (R5 F l (Af v 0).fStr) λhi=>some hi) (Bj (decide ((Af v 0).fKind=6)) (AM (Cn 0 (([123,125]:Ac).length:Int))<|AM (Dl 1 (l.length+1))<|AM (BT .u8 (C0 ([123,125]:Ac) 0))<|Nu (l++[UInt8.ofNat (Int.toNat (C0 ([123,125]:Ac) 0))]) λhj=>Ba (hb v true hj (Af v 0)) λhd=>AM (Cn 1 (([123,125]:Ac).length:Int))<|AM (Dl 1 (hd.2.length+1))<|AM (BT .u8 (C0 ([123,125]:Ac) 1))<|Nu (hd.2++[UInt8.ofNat (Int.toNat (C0 ([123,125]:Ac) 1))]) λhk=>some hk) (AM (Cn 0 (([91,93]:Ac).length:Int))<|AM (Dl 1 (l.length+1))<|AM (BT .u8 (C0 ([91,93]:Ac) 0))<|Nu (l++[UInt8.ofNat (Int.toNat (C0 ([91,93]:Ac) 0))]) λhl=>Ba (hb v true hl (Af v 0)) λhe=>AM (Cn 1 (([91,93]:Ac).length:Int))<|AM (Dl 1 (he.2.length+1))<|AM (BT .u8 (C0 ([91,93]:Ac) 1))<|Nu (he.2++[UInt8.ofNat (Int.toNat (C0 ([91,93]:Ac) 1))]) λhm=>some hm)))))
def Ua (F:Nat)(hb:Ac→(List Ab)→Option Ac)(key:Ac)(x:(List Ab))(first:Bool)(l:Ac)(c:Ab):Option (Bool×Bool×Ac):=
 Bj (!first) (AM (Dl 1 (l.length+1))<|AM (BT .u8 44)<|Nu (l++[UInt8.ofNat (Int.toNat 44)]) λr8=>Bj (decide (c.fKind=6)) (Ba (R5 F r8 key) λhd=>AM (Dl 1 (hd.length+1))<|AM (BT .u8 58)<|Nu (hd++[UInt8.ofNat (Int.toNat 58)]) λhf=>Ba (hb hf x) λhg=>some (true,false,hg)) (Ba (hb r8 x) λhh=>some (true,false,hh))) (Bj (decide (c.fKind=6)) (Ba (R5 F l key) λhe=>AM (Dl 1 (he.length+1))<|AM (BT .u8 58)<|Nu (he++[UInt8.ofNat (Int.toNat 58)]) λhi=>Ba (hb hi x) λhj=>some (true,false,hj)) (Ba (hb l x) λhk=>some (true,false,hk)))
def GY (F:Nat)(v:(List Ab))(c:Ab)(hk:Ac→(List Ab)→Bool→Ac→Ab→Option (Bool×Bool×Ac))(hb hd:Int)(hi:Bool)(hj:Ac):Option (Stp (Int×Int×Bool×Ac) (Out (Bool×Ac) (Bool×Ac))):=
 Bj (decide (hd<(Af v 0).fN)) (Bj (decide ((Af v 0).fKind=6)) (AM (Cn hb (v.length:Int))<|AM (BT .i64 (hb+1))<|AM (IG (hb+1) (v.length:Int))<|Ba (Na F (List.drop (Int.toNat (hb+1)) v)) λhe=>AM (BT .i64 ((hb+1)+he.1))<|AM (IG (hb+1) ((hb+1)+he.1))<|AM (IG ((hb+1)+he.1) (v.length:Int))<|Ba (hk (Af v hb).fStr (List.take (Int.toNat ((hb+1)+he.1)-Int.toNat (hb+1)) (List.drop (Int.toNat (hb+1)) v)) hi hj c) λhf=>Bj (!hf.1) (some (.out (.ret (hf.2.1,hf.2.2)))) (AM (BT .i64 (hd+1))<|some (.next ((hb+1)+he.1,hd+1,hf.2.1,hf.2.2)))) (AM (IG hb (v.length:Int))<|Ba (Na F (List.drop (Int.toNat hb) v)) λhg=>AM (BT .i64 (hb+hg.1))<|AM (IG hb (hb+hg.1))<|AM (IG (hb+hg.1) (v.length:Int))<|Ba (hk ([]:Ac) (List.take (Int.toNat (hb+hg.1)-Int.toNat hb) (List.drop (Int.toNat hb) v)) hi hj c) λhh=>Bj (!hh.1) (some (.out (.ret (hh.2.1,hh.2.2)))) (AM (BT .i64 (hd+1))<|some (.next (hb+hg.1,hd+1,hh.2.1,hh.2.2))))) (some (.out (.go (hi,hj))))
def KD (hb:Bool)(hd:Ac):Option (Bool×Ac):=
 some (hb,hd)
def N2 (F:Nat)(hb:Ac→(List Ab)→Bool→Ac→Ab→Option (Bool×Bool×Ac))(v:(List Ab))(first:Bool)(l:Ac)(c:Ab):Option (Bool×Ac):=
 AM (Cn 0 (v.length:Int))<|Ba (Cg (λσ=>GY F v c hb σ.1 σ.2.1 σ.2.2.1 σ.2.2.2) F (1,0,first,l)) (Cm λν=>KD ν.1 ν.2)
mutual
def IN:Nat→Ac→(List Ab)→Option Ac
 | 0,_,_=>none
 | nn+1,l,v=>Ot nn (HQ nn) (Kb nn) l v
def HQ:Nat→Ac→(List Ab)→Bool→Ac→Ab→Option (Bool×Bool×Ac)
 | 0,_,_,_,_,_=>none
 | nn+1,key,x,first,l,c=>Ua nn (IN nn) key x first l c
def Kb:Nat→(List Ab)→Bool→Ac→Ab→Option (Bool×Ac)
 | 0,_,_,_,_=>none
 | nn+1,v,first,l,c=>N2 nn (HQ nn) v first l c
end
def Ow (F:Nat)(v:(List Ab)):Option (Ac×Int):=
 Ba (N7 F v) λr1=>Bj (!decide (r1=0)) (some (([]:Ac),r1)) (Ba (IN F ([]:Ac) v) λr8=>AM (decide (0<r8.length))<|some (r8,0))
end Go.Proofs.YtphnhpcjnmmhiaaGreatDoor
namespace Go.Proofs.YtphnhpcjnmmhiaaGreatDoor.Q
open Go Go.RowKit
set_option linter.unusedVariables false
set_option linter.unusedSimpArgs false
set_option maxRecDepth 100000
set_option maxHeartbeats 4000000
theorem Ud (F hb:Nat)(hl:Value)(l s r:Ac)(h:R5 F l s=some r):FN 134 [rP hb 0,rS s] (GM hb hl l) (λR H=>∃w0b:Value,R=rv (.tuple #[])∧H=(GM hb w0b r)):=en Tryz.func134 Tryz.ntmps134 Aa λw Z=>AA Aa<|ck h λg1 h2=>ck h2 λg3 h4=>DH (Hr:=[]) LE Aa (Ap3 _) (DD hb hl l 34 g1 g3) Aa<|by rintro _ _ ⟨v5,rfl,rfl⟩;exact bd h4 λr6 e8 h7=>by rw[← e8];exact BD Aa<|wv Bo<|Cs Aa<|Au<|ob h7 λhp hq hr=>Bk (V:=Ac×Value) 0 (λσ=>Cg (λσ=>GA s σ.1 σ.2) σ.1 σ.2.1=some hp) (λσ=>[(0,rP hb 0),(1,rS s),(8,AZ (s.length:Int)),(9,AZ σ.2.1.1)]) (λσ=>(GM hb σ.2.2 σ.2.1.2)) (λσ=>σ.1) (F,(0,r6),v5) hq (A7 Aa) (sC sN) (λσ=>IO σ.1=some r) (λσ=>[(0,rP hb 0)]) (λσ=>(GM hb σ.2 σ.1)) (by rintro⟨gi,⟨hd,hf⟩,hg⟩ hs;refine EG ?_;obtain⟨hm,rfl,t127,hi,hj⟩:=Cq hs;have hi:GA s hd hf=some t127:=hi;exact Ay<|wv BI<|BU<|B2 hi (λht hu=>Bt<|Au<|AA Aa<|BU<|ck hu λhh hw=>Ar [(0,rP hb 0),(1,rS s),(4,AZ hd),(8,AZ (s.length:Int)),(9,AZ hd),(21,rB ((Bm ((C0 s hd)=34))||(Bm ((C0 s hd)=92))))] (GM hb hg hf) (B7 Aa<|wv (BH hh)<|wv Bx<|ms Aa<|AF (Bm ((C0 s hd)=34)) (λhe=>CB he Aa<|wv (Aj he)<|Az<|BR he) λhe=>wo he<|ms Aa<|wo he<|ms Aa<|Bq he (BH hh)<|Bq he Bx<|Ep Aa he Aa<|Az<|BR he)<|B2 hw (λhx hy=>B7 Aa<|ck hy λhz h0=>ck h0 λh1 h3=>DH (Hr:=[]) LE Aa (Ap3 _) (DD hb hg hf 92 hz h1) Aa<|by rintro _ _ ⟨h5,rfl,rfl⟩;exact bd h3 λh6 h8 h9=>by rw[← h8];exact AJ<|B7 Aa<|wv (BH hh)<|ck h9 λhA hB=>ck hB λhC hD=>DH (Hr:=[]) LE Aa (Ap3 _) (DD hb h5 h6 (C0 s hd) hA hC) Aa<|by rintro _ _ ⟨hE,rfl,rfl⟩;exact bd hD λhG hH hI=>by rw[← hH];exact Az<|CR<|A4<|ck hI λhJ hK=>wv (Bh hJ)<|Bg Aa<|have hL:=Bd hK hj;Ax (As (hm,(hd+1,hG),hE) ⟨hL,Apu _⟩ (A7 Aa) (sC sN))) λhx hN=>BW<|B7 Aa<|wv (BH hh)<|ck hN λhO hP=>ck hP λhQ hR=>DH (Hr:=[]) LE Aa (Ap3 _) (DD hb hg hf (C0 s hd) hO hQ) Aa<|by rintro _ _ ⟨hS,rfl,rfl⟩;exact bd hR λhT hU hV=>by rw[← hU];exact Az<|CR<|A4<|ck hV λhW hX=>wv (Bh hW)<|Bg Aa<|have hY:=Bd hX hj;Ax (As (hm,(hd+1,hT),hS) ⟨hY,Apu _⟩ (A7 Aa) (sC sN))) λht hZ=>Bs<|Ah<|have ga:=BG hZ hj hr;Ah (AN (As (hf,hg) ga (A7 Aa) (sC sN))))<|by rintro⟨hn,gb⟩ hk;refine Gw ?_;exact have hk:IO hn=some r:=hk;AR<|Cy<|B7 Aa<|ck hk λgc gd=>DH (Hr:=[]) LE Aa (Ap3 _) (DD hb gb hn 34 gc g3) Aa<|by rintro _ _ ⟨gf,rfl,rfl⟩;exact bd gd λgj gg gh=>by rw[← gg];exact Az<|by cases gh;exact H7 (Y7 Tryz.results134) (sC sN) ⟨gf,Aa,Aa⟩
abbrev HA (x0:Nat)(x1:Bool)(x2 x3:Nat)(x4:Value)(x5:Ac)(x6:Nat)(x7:Ab):List Ent:=[.blk x0 [rB x1] 4,.blk x2 [rP x3 0] 147,.bld 150 5 x3 x4 x5,Ez x6 x7]
theorem Aei (F:Nat)(hl:Ac→(List Ab)→Bool→Ac→Ab→Option (Bool×Bool×Ac))(hm:(List Ab)→Bool→Ac→Ab→Option (Bool×Ac))(gB:(∀(he:Nat) (hf:Nat) (hb:Nat) (hd:Value) (hg:Nat) (key:Ac) (x:(List Ab)) (first:Bool) (l:Ac) (c:Ab) (r:Bool×Bool×Ac),hl key x first l c=some r→FN 137 [rS key,B4 4 (Bu A5 x),rP he 0,rP hf 0,rP hg 0] (HA he first hf hb hd l hg c) (λR H=>∃w3b:Value,R=rB r.1∧H=(HA he r.2.1 hf hb w3b r.2.2 hg c))))(hn:(∀(he:Nat) (hf:Nat) (hb:Nat) (hd:Value) (hg:Nat) (v:(List Ab)) (first:Bool) (l:Ac) (c:Ab) (r:Bool×Ac),hm v first l c=some r→FN 136 [B4 4 (Bu A5 v),rv (.func (.func 137) #[] #[(.pointer (some ⟨he,0,none⟩)),(.pointer (some ⟨hf,0,none⟩)),(.pointer (some ⟨hg,0,none⟩))])] (HA he first hf hb hd l hg c) (λR H=>∃w1_1b:Value,R=rv (.tuple #[])∧H=(HA he r.1 hf hb w1_1b r.2 hg c))))(hb:Nat)(hd:Value)(l:Ac)(v:(List Ab))(r:Ac)(h:Ot F hl hm l v=some r):FN 81 [rP hb 0,B4 4 (Bu A5 v)] (GM hb hd l) (λR H=>∃w0b:Value,R=rv (.tuple #[])∧H=(GM hb w0b r)):=en Tryz.func81 Tryz.ntmps81 Aa λw Z=>by unfold Ot at h;exact Ay<|Wl Aa (Cl Aa) Aa λb1=>BM Aa<|ck h λg2 h3=>wv (AX g2)<|wv C2<|BY (cs:=(Sh ([]:Ac))) OZ Aa Aa λb4=>by refine Eu 0 JZ Aa Aa Aa (Bn.c Aa) Aa Aa ?_;exact Dc<|wv An<|wv (Ae 0)<|AJ<|Au<|Ay<|wv Bx<|Cs Aa<|B2 h3 (λc5 h6=>A4<|wv (Ae 1)<|ck h6 λg7 h8=>DH (Hr:=[Ez b4 (Af v 0),.blk b1 [rP hb 0] 147]) Tryz.call132 Aa ((Br 2 Aa).trans (Ap5 _ (Ap3 _))) (Jq hb hd l ([110,117,108,108]:Ac) g7) Aa<|by rintro _ _ ⟨v9,rfl,rfl⟩;exact bd h8 λgC hp hq=>by rw[← hp];exact Az<|Ca<|by cases hq;exact H7 (Y7 AdT) (sC (sS (sS sN))) ⟨v9,Aa,Aa⟩) λc5 hr=>Ay<|wv Bx<|Cs Aa<|B2 hr (λhs ht=>by refine ck ht λg16 hu=>GT 6 [2,4] [⟨[],rP hb 0,1⟩,⟨[],B4 1 (Bu eS ([([102,97,108,115,101]:Ac),([116,114,117,101]:Ac)]:List Ac)),0⟩,⟨[],rP b4 1,0⟩,⟨[2],AZ (Af v 0).fInt,1⟩,⟨[1,3],JV [rS (Af ([([102,97,108,115,101]:Ac),([116,114,117,101]:Ac)]:List Ac) (Af v 0).fInt)],0⟩,⟨[4],rS (Af ([([102,97,108,115,101]:Ac),([116,114,117,101]:Ac)]:List Ac) (Af v 0).fInt),0⟩] (rle [(7,_)]) [32,33,34,35,36,37,2,4] ?_ ?_;refine of (AY 1 TZ Aa Aa Aa)<|LT Aa (λH=>C8 (ys:=([([102,97,108,115,101]:Ac),([116,114,117,101]:Ac)]:List Ac)) (enc:=eS) (css:=[[rS ([102,97,108,115,101]:Ac)],[rS ([116,114,117,101]:Ac)]]) (xs:=[.const (.string ⟨#[102,97,108,115,101]⟩),.const (.string ⟨#[116,114,117,101]⟩)]) Dm Ew SE Aa Aa Aa ⟨cO Aa,cO Aa,trivial⟩ Aa CK Aa Aa) ?_;exact oq (Aq AaT Aa K9 Aa Aa)<|of (AY 0 Qy Aa Aa Aa)<|oq (CJ (enc:=eS) (ys:=([([102,97,108,115,101]:Ac),([116,114,117,101]:Ac)]:List Ac)) Dm Ew Aa Aa g16)<|oq (BZ IK Aa Aa)<|E8;exact ck hu λg18 hw=>DH (Hr:=[Ez b4 (Af v 0),.blk b1 [rP hb 0] 147]) Tryz.call132 Aa ((Br 2 Aa).trans (Ap5 _ (Ap3 _))) (Jq hb hd l (Af ([([102,97,108,115,101]:Ac),([116,114,117,101]:Ac)]:List Ac) (Af v 0).fInt) g18) Aa<|by rintro _ _ ⟨v20,rfl,rfl⟩;exact bd hw λgD hx hy=>by rw[← hx];exact Az<|Ca<|by cases hy;exact H7 (Y7 AdT) (sC (sS (sS sN))) ⟨v20,Aa,Aa⟩) λhs hz=>Ay<|wv Bx<|Cs Aa<|B2 hz (λh0 h1=>by refine ck h1 λh2 h4=>GT 4 [2,4] [⟨[],rP hb 0,1⟩,⟨[],rP b4 1,0⟩,⟨[1],AZ (Af v 0).fInt,1⟩,⟨[2],rS (Lib.itoa (Af v 0).fInt),0⟩] (rle [(5,_)]) [41,42,43,44,2,4] ?_ ?_;refine of (AY 1 TZ Aa Aa Aa)<|oq (Aq AaT Aa K9 Aa Aa)<|of (AY 0 Qy Aa Aa Aa)<|LT Aa (λH=>ZG (rs:=[AZ (Af v 0).fInt]) (r:=rS (Lib.itoa (Af v 0).fInt)) Tryz.call133 Aa (Aa6 (Af v 0).fInt h2) Aa) ?_;exact E8;exact ck h4 λh5 h7=>DH (Hr:=[Ez b4 (Af v 0),.blk b1 [rP hb 0] 147]) Tryz.call132 Aa ((Br 2 Aa).trans (Ap5 _ (Ap3 _))) (Jq hb hd l (Lib.itoa (Af v 0).fInt) h5) Aa<|by rintro _ _ ⟨v31,rfl,rfl⟩;exact bd h7 λgE h9 hA=>by rw[← h9];exact Az<|Ca<|by cases hA;exact H7 (Y7 AdT) (sC (sS (sS sN))) ⟨v31,Aa,Aa⟩) λh0 hB=>Ay<|wv Bx<|Cs Aa<|B2 hB (λhC hD=>by refine A4<|wv (Ae 1)<|wv An<|wv (Ae 0)<|ob hD λhE hG hH=>EX [2] Tryz.call134 (Ud F hb hd l (Af v 0).fStr hE hG) ?_;rintro _ _ ⟨hI,rfl,rfl⟩;exact Az<|Ca<|by cases hH;exact H7 (Y7 AdT) (sC (sS (sS sN))) ⟨hI,Aa,Aa⟩) λhC hJ=>Ay<|wv (r:=rS ([91,93]:Ac)) AT<|BU<|Ay<|wv An<|wv (Ae 0)<|wv Bx<|AJ<|B2 hJ (λhK hL=>by refine A4<|wv (r:=rS ([123,125]:Ac)) AT<|BU<|ck hL λhN hO=>GT 3 [1,2,4,5] [⟨[],rP hb 0,1⟩,⟨[],rS ([123,125]:Ac),0⟩,⟨[1],rI .u8 (C0 ([123,125]:Ac) 0),0⟩] (rle [(4,_)]) [15,16,17,1,2,4,5] ?_ ?_;exact of (AY 1 TZ Aa Aa Aa)<|oq (AE Aa)<|oq (LV Lb Aa Aa hN)<|E8;exact ck hO λhP hQ=>ck hQ λhR hS=>DH (Hr:=[Ez b4 (Af v 0),.blk b1 [rP hb 0] 147]) LE Aa ((Br 2 Aa).trans (Ap5 _ (Ap3 _))) (DD hb hd l (C0 ([123,125]:Ac) 0) hP hR) Aa<|by rintro _ _ ⟨v51,rfl,rfl⟩;exact bd hS λhT hU hV=>by rw[← hU];exact Dc<|BY (cs:=[rB false]) yz4 Aa Aa λhh=>by refine us 0 TT Aa Aa (Cl Aa) Aa Aa ?_;refine BM Aa<|wv (r:=rv (.func (.func 137) #[] #[(.pointer (some ⟨hh,0,none⟩)),(.pointer (some ⟨b1,0,none⟩)),(.pointer (some ⟨b4,0,none⟩))])) (KL Aa)<|ob hV λhi hW hX=>EX [0,2,0,0] Tryz.call136 (hn hh b1 hb v51 b4 v true hT (Af v 0) hi hW) ?_;rintro _ _ ⟨hY,rfl,rfl⟩;refine AJ<|ck hX λhZ ga=>GT 3 [2,5] [⟨[],rP hb 0,1⟩,⟨[],rS ([123,125]:Ac),0⟩,⟨[1],rI .u8 (C0 ([123,125]:Ac) 1),0⟩] (rle [(4,_)]) [22,23,24,2,5] ?_ ?_;exact of (AY 1 TZ Aa Aa Aa)<|oq (AE Aa)<|oq (LV Lb Aa Aa hZ)<|E8;exact ck ga λgb gc=>ck gc λgd gf=>DH (Hr:=[.blk hh [rB hi.1] 4,.blk b1 [rP hb 0] 147,Ez b4 (Af v 0)]) LE Aa ((Br 2 Aa).trans (Ap5 _ (Ap3 _))) (DD hb hY hi.2 (C0 ([123,125]:Ac) 1) gb gd) Aa<|by rintro _ _ ⟨gg,rfl,rfl⟩;exact bd gf λgF gh gi=>by rw[← gh];exact Az<|Ca<|by cases gi;exact H7 (Y7 AdT) (sM 1 Aa) ⟨gg,Aa,Aa⟩) λhK gj=>by refine Bt<|ck gj λgl gm=>GT 3 [1,2,4,5] [⟨[],rP hb 0,1⟩,⟨[],rS ([91,93]:Ac),0⟩,⟨[1],rI .u8 (C0 ([91,93]:Ac) 0),0⟩] (rle [(4,_)]) [15,16,17,1,2,4,5] ?_ ?_;exact of (AY 1 TZ Aa Aa Aa)<|oq (AE Aa)<|oq (LV Lb Aa Aa gl)<|E8;exact ck gm λgp gq=>ck gq λgr gs=>DH (Hr:=[Ez b4 (Af v 0),.blk b1 [rP hb 0] 147]) LE Aa ((Br 2 Aa).trans (Ap5 _ (Ap3 _))) (DD hb hd l (C0 ([91,93]:Ac) 0) gp gr) Aa<|by rintro _ _ ⟨gu,rfl,rfl⟩;exact bd gs λgv gw gx=>by rw[← gw];exact Dc<|BY (cs:=[rB false]) yz4 Aa Aa λhj=>by refine us 0 TT Aa Aa (Cl Aa) Aa Aa ?_;refine BM Aa<|wv (r:=rv (.func (.func 137) #[] #[(.pointer (some ⟨hj,0,none⟩)),(.pointer (some ⟨b1,0,none⟩)),(.pointer (some ⟨b4,0,none⟩))])) (KL Aa)<|ob gx λhk gy gz=>EX [0,2,0,0] Tryz.call136 (hn hj b1 hb gu b4 v true gv (Af v 0) hk gy) ?_;rintro _ _ ⟨v85,rfl,rfl⟩;refine AJ<|ck gz λg0 g1=>GT 3 [2,5] [⟨[],rP hb 0,1⟩,⟨[],rS ([91,93]:Ac),0⟩,⟨[1],rI .u8 (C0 ([91,93]:Ac) 1),0⟩] (rle [(4,_)]) [22,23,24,2,5] ?_ ?_;exact of (AY 1 TZ Aa Aa Aa)<|oq (AE Aa)<|oq (LV Lb Aa Aa g0)<|E8;exact ck g1 λg3 g4=>ck g4 λg5 g6=>DH (Hr:=[.blk hj [rB hk.1] 4,.blk b1 [rP hb 0] 147,Ez b4 (Af v 0)]) LE Aa ((Br 2 Aa).trans (Ap5 _ (Ap3 _))) (DD hb v85 hk.2 (C0 ([91,93]:Ac) 1) g3 g5) Aa<|by rintro _ _ ⟨g8,rfl,rfl⟩;exact bd g6 λgG g9 gA=>by rw[← g9];exact Az<|Ca<|by cases gA;exact H7 (Y7 AdT) (sM 1 Aa) ⟨g8,Aa,Aa⟩
theorem Abc (F:Nat)(hi:Ac→(List Ab)→Option Ac)(hh:(∀(hb:Nat) (hd:Value) (l:Ac) (v:(List Ab)) (r:Ac),hi l v=some r→FN 81 [rP hb 0,B4 4 (Bu A5 v)] (GM hb hd l) (λR H=>∃w0b:Value,R=rv (.tuple #[])∧H=(GM hb w0b r))))(he hf hb:Nat)(hd:Value)(hg:Nat)(key:Ac)(x:(List Ab))(first:Bool)(l:Ac)(c:Ab)(r:Bool×Bool×Ac)(h:Ua F hi key x first l c=some r):FN 137 [rS key,B4 4 (Bu A5 x),rP he 0,rP hf 0,rP hg 0] (HA he first hf hb hd l hg c) (λR H=>∃w3b:Value,R=rB r.1∧H=(HA he r.2.1 hf hb w3b r.2.2 hg c)):=en Tryz.func137 Tryz.ntmps137 Aa λw Z=>AA Aa<|BU<|Ay<|wv (Ae 0)<|wv BQ<|AJ<|B2 h (λc1 h2=>A4<|wv (Ae 1)<|ck h2 λg3 h4=>ck h4 λg5 h6=>DH (Hr:=[.blk he [rB first] 4,.blk hf [rP hb 0] 147,Ez hg c]) LE Aa ((Br 2 Aa).trans (Ap5 _ (Ap3 _))) (DD hb hd l 44 g3 g5) Aa<|by rintro _ _ ⟨v7,rfl,rfl⟩;exact bd h6 λr8 hl h9=>by rw[← hl];refine Dc<|us 1 TT Aa Aa (Cl Aa) Aa Aa ?_;exact BU<|Ay<|wv An<|wv (Ae 3)<|wv Bx<|AJ<|B2 h9 (λhm hn=>by refine Ay<|wv (Ae 2)<|ms Aa<|ob hn λhj hp hq=>EX [0] Tryz.call134 (Ud F hb v7 r8 key hj hp) ?_;rintro _ _ ⟨hr,rfl,rfl⟩;exact AJ<|A4<|wv (Ae 2)<|ck hq λg17 hs=>ck hs λg19 ht=>DH (Hr:=[.blk he [rB false] 4,.blk hf [rP hb 0] 147,Ez hg c]) LE Aa (Ap3 _) (DD hb hr hj 58 g17 g19) Aa<|by rintro _ _ ⟨v21,rfl,rfl⟩;exact bd ht λhu hw hx=>by rw[← hw];refine Dc<|wv (Ae 2)<|ms Aa<|ob hx λhy hz h0=>EX [0] AfR (hh hb v21 hu x hy hz) ?_;rintro _ _ ⟨h1,rfl,rfl⟩;refine Dc<|By Aa<|JL [1,1] ?_;exact cs h0▸Ap (Ct Ac4 AW) (sK 15) ⟨h1,Aa,Aa⟩) λhm h3=>by refine BW<|Ay<|wv (Ae 2)<|ms Aa<|ob h3 λh5 h7 h8=>EX [0] AfR (hh hb v7 r8 x h5 h7) ?_;rintro _ _ ⟨hA,rfl,rfl⟩;refine Dc<|By Aa<|JL [1,1] ?_;exact cs h8▸Ap (Ct Ac4 AW) (sK 15) ⟨hA,Aa,Aa⟩) λc1 hB=>by refine BW<|Ay<|us 0 TT Aa Aa (Cl Aa) Aa Aa ?_;exact BU<|Ay<|wv An<|wv (Ae 3)<|wv Bx<|AJ<|B2 hB (λhC hD=>by refine Ay<|wv (Ae 1)<|ms Aa<|ob hD λhk hE hG=>EX [2] Tryz.call134 (Ud F hb hd l key hk hE) ?_;rintro _ _ ⟨hH,rfl,rfl⟩;exact AJ<|A4<|wv (Ae 2)<|ck hG λhI hJ=>ck hJ λhK hL=>DH (Hr:=[.blk he [rB false] 4,.blk hf [rP hb 0] 147,Ez hg c]) LE Aa (Ap3 _) (DD hb hH hk 58 hI hK) Aa<|by rintro _ _ ⟨hN,rfl,rfl⟩;exact bd hL λhO hP hQ=>by rw[← hP];refine Dc<|wv (Ae 2)<|ms Aa<|ob hQ λhR hS hT=>EX [0] AfR (hh hb hN hO x hR hS) ?_;rintro _ _ ⟨hU,rfl,rfl⟩;refine Dc<|By Aa<|JL [1,1] ?_;exact cs hT▸Ap (Ct Ac4 AW) (sK 15) ⟨hU,Aa,Aa⟩) λhC hV=>by refine BW<|Ay<|wv (Ae 1)<|ms Aa<|ob hV λhW hX hY=>EX [2] AfR (hh hb hd l x hW hX) ?_;rintro _ _ ⟨hZ,rfl,rfl⟩;refine Dc<|By Aa<|JL [1,1] ?_;exact cs hY▸Ap (Ct Ac4 AW) (sK 15) ⟨hZ,Aa,Aa⟩
theorem Abb (F:Nat)(hi:Ac→(List Ab)→Bool→Ac→Ab→Option (Bool×Bool×Ac))(hz:(∀(hb:Nat) (hd:Nat) (hg:Nat) (hj:Value) (he:Nat) (key:Ac) (x:(List Ab)) (first:Bool) (l:Ac) (c:Ab) (r:Bool×Bool×Ac),hi key x first l c=some r→FN 137 [rS key,B4 4 (Bu A5 x),rP hb 0,rP hd 0,rP he 0] (HA hb first hd hg hj l he c) (λR H=>∃w3b:Value,R=rB r.1∧H=(HA hb r.2.1 hd hg w3b r.2.2 he c))))(hb hd hg:Nat)(hj:Value)(he:Nat)(v:(List Ab))(first:Bool)(l:Ac)(c:Ab)(r:Bool×Ac)(h:N2 F hi v first l c=some r):FN 136 [B4 4 (Bu A5 v),rv (.func (.func 137) #[] #[(.pointer (some ⟨hb,0,none⟩)),(.pointer (some ⟨hd,0,none⟩)),(.pointer (some ⟨he,0,none⟩))])] (HA hb first hd hg hj l he c) (λR H=>∃w1_1b:Value,R=rv (.tuple #[])∧H=(HA hb r.1 hd hg w1_1b r.2 he c)):=en Tryz.func136 Tryz.ntmps136 Aa λw Z=>AA Aa<|BM Aa<|ck h λg1 h2=>wv (AX g1)<|wv CL<|wv AS<|Cs Aa<|Au<|ob h2 λh3 h4 hq=>Bk (V:=(Bool×Ac)×Value) 0 (λσ=>Cg (λσ=>GY F v c hi σ.1 σ.2.1 σ.2.2.1 σ.2.2.2) σ.1 σ.2.1=some h3) (λσ=>[(0,B4 4 (Bu A5 v)),(1,rv (.func (.func 137) #[] #[(.pointer (some ⟨hb,0,none⟩)),(.pointer (some ⟨hd,0,none⟩)),(.pointer (some ⟨he,0,none⟩))])),(4,AZ σ.2.1.1),(12,AZ (Af v 0).fN),(13,AZ σ.2.1.2.1)]) (λσ=>(HA hb σ.2.1.2.2.1 hd hg σ.2.2 σ.2.1.2.2.2 he c)) (λσ=>σ.1) (F,(1,0,first,l),hj) h4 (A7 Aa) (sM 15 Aa) (λσ=>KD σ.1.1 σ.1.2=some r) (λσ=>[]) (λσ=>(HA hb σ.1.1 hd hg σ.2 σ.1.2 he c)) (by rintro⟨g4,⟨hf,hr,hk,hl⟩,hs⟩ h5;refine EG ?_;obtain⟨h0,rfl,h6,ht,hh⟩:=Cq h5;have ht:GY F v c hi hf hr hk hl=some h6:=ht;exact Ay<|wv BI<|BU<|B2 ht (λc175 h7=>Bt<|Au<|Ay<|wv (r:=rS ([]:Ac)) AT<|BD Aa<|wv (AX g1)<|wv CL<|wv AS<|wv Bx<|AJ<|B2 h7 (λh8 h9=>AA Aa<|ck h9 λhA hB=>wv (AX hA)<|wv CL<|wv AS<|Cs Aa<|B7 Aa<|ck hB λhC hD=>wv (Bh hC)<|ms Aa<|BM Aa<|ck hD λhE hG=>wv (KK Mv JZ Aa Aa hE)<|ob hG λhm hH hI=>BV Tryz.call114 (Xv F (List.drop (D3 (hf+1)) v) hm hH)<|ms Aa<|wv Al<|wv Al<|wv Al<|BY (cs:=Og) YD Aa Aa λhJ=>by refine ms Aa<|Eu 0 II Aa Aa Aa (Bn.c Aa) Aa Aa ?_;exact ms Aa<|BD Aa<|ck hI λhu hK=>wv (Bh hu)<|ms Aa<|wv (Bh hu)<|ck hK λhL hN=>ck hN λhO hP=>wv (UH Mv JZ Aa Aa Aa Aa hL hO)<|ob hP λhw hQ hR=>Jr (Hr:=[Hq hJ hm.2.1]) Tryz.call137 Aa Aa ((Br 1 Aa).trans (Ap5 _ ((Br 1 Aa).trans (Ap5 _ ((Br 1 Aa).trans (Ap5 _ ((Br 1 Aa).trans (Ap5 _ (Ap3 _))))))))) (hz hb hd hg hs he (Af v hf).fStr (List.take (D3 ((hf+1)+hm.1)-D3 (hf+1)) (List.drop (D3 (hf+1)) v)) hk hl c hw hQ) Aa<|by rintro _ _ ⟨h1,rfl,rfl⟩;exact wv BQ<|AJ<|B2 hR (λhS hT=>BO<|Ao<|B8<|Ao<|Bf<|have hU:=BE hT hh hq;G9<|cs hU▸Ap (Y7 Tryz.results136) (sK 15) ⟨h1,Aa,Aa⟩) λhS hV=>BW<|B7 Aa<|wv (Bh hu)<|Bg Aa<|CR<|A4<|ck hV λhW hX=>wv (Bh hW)<|Bg Aa<|have hY:=Bd hX hh;Ax (As (h0,((hf+1)+hm.1,hr+1,hw.2.1,hw.2.2),h1) ⟨hY,Apu _⟩ (A7 Aa) (sC (sC (sC (sC (sS sN))))))) λh8 hZ=>BW<|AA Aa<|ck hZ λga gb=>wv (KK Mv JZ Aa Aa ga)<|ob gb λhn gc gd=>BV Tryz.call114 (Xv F (List.drop (D3 hf) v) hn gc)<|ms Aa<|wv Al<|wv Al<|wv Al<|BY (cs:=Og) YD Aa Aa λgf=>by refine ms Aa<|Eu 0 II Aa Aa Aa (Bn.c Aa) Aa Aa ?_;exact ms Aa<|BD Aa<|ck gd λhx gg=>wv (Bh hx)<|ms Aa<|wv (Bh hx)<|ck gg λgh gi=>ck gi λgj gl=>wv (UH Mv JZ Aa Aa Aa Aa gh gj)<|ob gl λhy gm gp=>Jr (Hr:=[Hq gf hn.2.1]) Tryz.call137 Aa Aa ((Br 1 Aa).trans (Ap5 _ ((Br 1 Aa).trans (Ap5 _ ((Br 1 Aa).trans (Ap5 _ ((Br 1 Aa).trans (Ap5 _ (Ap3 _))))))))) (hz hb hd hg hs he ([]:Ac) (List.take (D3 (hf+hn.1)-D3 hf) (List.drop (D3 hf) v)) hk hl c hy gm) Aa<|by rintro _ _ ⟨v222,rfl,rfl⟩;exact wv BQ<|AJ<|B2 gp (λgq gr=>BO<|Ao<|B8<|Ao<|Bf<|have gs:=BE gr hh hq;G9<|cs gs▸Ap (Y7 Tryz.results136) (sK 15) ⟨v222,Aa,Aa⟩) λgq gu=>BW<|B7 Aa<|wv (Bh hx)<|Bg Aa<|CR<|A4<|ck gu λgv gw=>wv (Bh gv)<|Bg Aa<|have gx:=Bd gw hh;Ax (As (h0,(hf+hn.1,hr+1,hy.2.1,hy.2.2),v222) ⟨gx,Apu _⟩ (A7 Aa) (sC (sC (sC (sC (sS sN))))))) λc175 gy=>Bs<|Ah<|have gz:=BG gy hh hq;Ah (AN (As ((hk,hl),hs) gz Hw.nil (sC (sC (sC (sC sN)))))))<|by rintro⟨⟨g0,g2⟩,g3⟩ hp;refine Gw ?_;exact have hp:KD g0 g2=some r:=hp;by unfold KD at hp;exact AR<|by cases hp;exact H7 (Y7 Tryz.results136) (sM 15 Aa) ⟨g3,Aa,Aa⟩
theorem KC:∀F:Nat,(∀(hb:Nat) (hd:Value) (l:Ac) (v:(List Ab)) (r:Ac),IN F l v=some r→FN 81 [rP hb 0,B4 4 (Bu A5 v)] (GM hb hd l) (λR H=>∃w0b:Value,R=rv (.tuple #[])∧H=(GM hb w0b r)))∧(∀(he:Nat) (hf:Nat) (hb:Nat) (hd:Value) (hg:Nat) (key:Ac) (x:(List Ab)) (first:Bool) (l:Ac) (c:Ab) (r:Bool×Bool×Ac),HQ F key x first l c=some r→FN 137 [rS key,B4 4 (Bu A5 x),rP he 0,rP hf 0,rP hg 0] (HA he first hf hb hd l hg c) (λR H=>∃w3b:Value,R=rB r.1∧H=(HA he r.2.1 hf hb w3b r.2.2 hg c)))∧(∀(he:Nat) (hf:Nat) (hb:Nat) (hd:Value) (hg:Nat) (v:(List Ab)) (first:Bool) (l:Ac) (c:Ab) (r:Bool×Ac),Kb F v first l c=some r→FN 136 [B4 4 (Bu A5 v),rv (.func (.func 137) #[] #[(.pointer (some ⟨he,0,none⟩)),(.pointer (some ⟨hf,0,none⟩)),(.pointer (some ⟨hg,0,none⟩))])] (HA he first hf hb hd l hg c) (λR H=>∃w1_1b:Value,R=rv (.tuple #[])∧H=(HA he r.1 hf hb w1_1b r.2 hg c)))
  | 0=>⟨(λ_ _ _ _ _ h=>by simp[IN] at h),(λ_ _ _ _ _ _ _ _ _ _ _ h=>by simp[HQ] at h),(λ_ _ _ _ _ _ _ _ _ _ h=>by simp[Kb] at h)⟩
  | nn+1=>⟨(λhb hd l v r h=>Aei nn (HQ nn) (Kb nn) (KC nn).2.1 (KC nn).2.2 hb hd l v r (by rw[IN] at h;exact h)),(λhe hf hb hd hg key x first l c r h=>Abc nn (IN nn) (KC nn).1 he hf hb hd hg key x first l c r (by rw[HQ] at h;exact h)),(λhe hf hb hd hg v first l c r h=>Abb nn (HQ nn) (KC nn).2.1 he hf hb hd hg v first l c r (by rw[Kb] at h;exact h))⟩
theorem Agi (F hb:Nat)(hd:Value)(l:Ac)(v:(List Ab))(r:Ac)(h:IN F l v=some r):FN 81 [rP hb 0,B4 4 (Bu A5 v)] (GM hb hd l) (λR H=>∃w0b:Value,R=rv (.tuple #[])∧H=(GM hb w0b r)):=(KC F).1 hb hd l v r h
theorem Ws (F:Nat)(v:(List Ab))(r:Ac×Int)(h:Ow F v=some r):FN 45 (Ea v) [] (PO (DW [rS r.1,AZ r.2])):=en Tryz.func45 Tryz.ntmps45 Aa λw Z=>Ay<|wv (r:=rS ([]:Ac)) AT<|ms Aa<|BD Aa<|ob h λr1 e3 h2=>BV Tryz.call68 (Q8 F v r1 e3)<|ms Aa<|BM Aa<|wv Ci<|AJ<|B2 h2 (λc4 h5=>AA Aa<|wv (r:=rS ([]:Ac)) AT<|By Aa<|Ao<|cs h5▸VH Tryz.results45 ⟨Aa,Aa⟩) λc4 h6=>BW<|Ay<|BY (cs:=[rv (.pointer none),rv (.slice none 0 0)]) Tryz.zeroValue150 Aa Aa λb7=>by refine BM Aa<|WL.tobld (te:=5) (i:=0) Aa<|ob h6 λr8 hb h9=>EX [0] AfR (Agi F b7 (.slice none 0 0) ([]:Ac) v r8 hb) ?_;rintro _ _ ⟨hd,rfl,rfl⟩;exact Dc<|ck h9 λhe hf=>DH (Hr:=[]) Tryz.call82 Aa (Ap3 _) (Xk b7 hd r8  he) Aa<|by rintro _ _ ⟨rfl,rfl⟩;exact By Aa<|cs hf▸VH Tryz.results45 ⟨Aa,Aa⟩
end Go.Proofs.YtphnhpcjnmmhiaaGreatDoor.Q
namespace Go.Proofs.YtphnhpcjnmmhiaaGreatDoor
open Go
set_option linter.unusedVariables false
def NC (s p:Ac):Option Bool:=
 AM (imp (decide ((p.length:Int)≤(s.length:Int))) (IG (p.length:Int) (s.length:Int)))<|some ((decide ((p.length:Int)≤(s.length:Int)))&&(decide ((List.take (Int.toNat (p.length:Int)) s)=p)))
def GH (s p:Ac):Option Bool:=
 Ba (NC s p) λr1=>some r1
end Go.Proofs.YtphnhpcjnmmhiaaGreatDoor
namespace Go.Proofs.YtphnhpcjnmmhiaaGreatDoor.Q
open Go Go.RowKit
set_option linter.unusedVariables false
set_option linter.unusedSimpArgs false
set_option maxRecDepth 100000
set_option maxHeartbeats 4000000
theorem VF (s p:Ac)(r:Bool)(h:NC s p=some r):FN 210 [rS s,rS p] [] (PO (rB r)):=en Tryz.func210 Tryz.ntmps210 Aa λw Z=>AA Aa<|AJ<|ck h λg1 h2=>Ar [(4,rB ((Bm ((p.length:Int)≤(s.length:Int)))&&(Bm ((List.take (D3 (p.length:Int)) s)=p))))] [] (B7 Aa<|wv Bo<|ms Aa<|wv Bo<|wv DK<|ms Aa<|AF (Bm ((p.length:Int)≤(s.length:Int))) (λc3=>wo c3<|ms Aa<|wo c3<|ms Aa<|Bq c3 Bo<|Bq c3 (HZ Lb Aa Aa (BL g1 c3))<|wo c3<|ms Aa<|Bq c3 BA<|Ej Aa c3 Aa<|Bg Aa<|BR c3) λc3=>CB c3 Aa<|wv (Am c3)<|Bg Aa<|BR c3)<|BO<|cs h2▸CY Tryz.results210 ⟨Aa,Aa⟩
theorem Tf (s p:Ac)(r:Bool)(h:GH s p=some r):FN 190 [rS s,rS p] [] (PO (rB r)):=en Tryz.func190 Tryz.ntmps190 Aa λw Z=>AA Aa<|BM Aa<|ob h λr1 e3 h2=>BV Tryz.call210 (VF s p r1 e3)<|By Aa<|cs h2▸CY Tryz.results190 ⟨Aa,Aa⟩
end Go.Proofs.YtphnhpcjnmmhiaaGreatDoor.Q
namespace Go.Proofs.YtphnhpcjnmmhiaaGreatDoor
open Go
set_option linter.unusedVariables false
def LL (a b:(List Ab))(hb:Int):Option (Stp Int (Out Bool Unit)):=
 Bj (decide (hb<(a.length:Int))) (AM (Cn hb (a.length:Int))<|AM (Cn hb (b.length:Int))<|Bj (!(decide ((Af a hb).fKind=(Af b hb).fKind)&&decide ((Af a hb).fInt=(Af b hb).fInt)&&decide ((Af a hb).fStr=(Af b hb).fStr)&&decide ((Af a hb).fN=(Af b hb).fN))) (some (.out (.ret false))) (AM (BT .i64 (hb+1))<|some (.next (hb+1)))) (some (.out (.go ())))
def NE :Option Bool:=
 some true
def HE (F:Nat)(a b:(List Ab)):Option Bool:=
 Bj (!decide ((a.length:Int)=(b.length:Int))) (some false) (Ba (Cg (λσ=>LL a b σ) F 0) (Cm λν=>NE ))
end Go.Proofs.YtphnhpcjnmmhiaaGreatDoor
namespace Go.Proofs.YtphnhpcjnmmhiaaGreatDoor.Q
open Go Go.RowKit
set_option linter.unusedVariables false
set_option linter.unusedSimpArgs false
set_option maxRecDepth 100000
set_option maxHeartbeats 4000000
theorem Ai0 {a0 b0 a1 b1:Int}{a2 b2:Ac}{a3 b3:Int}(w:World):(Op.equalIn 10000 82 (.agg #[.int .i64 a0,.int .i64 a1,.string (B a2),.int .i64 a3]) (.agg #[.int .i64 b0,.int .i64 b1,.string (B b2),.int .i64 b3])).run Tryz.prog w = .ok (Bm (a0=b0)&&Bm (a1=b1)&&Bm (a2=b2)&&Bm (a3=b3)) w:=by
  have hS:Tryz.prog.underlying 82=some (.struct (Tryz.prog.fieldsOf 82)):=by kernel_rfl
  have hp:Tryz.prog.stoodInHeld 82=false:=by kernel_rfl
  have u3:=yu3;have ia3:=Qy;have so3:=K9;have u9:=Lb;have ia9:=IK;have so9:=Ew;have hb:=Tryz.underlying80;have hd:=Tryz.isAgg80;have he:=Tryz.sizeOf80;rw[show(10000:Nat)=9999+1 from rfl,run_equalIn_agg w 9999 82 _ _ hS hp];simp only[Program.fieldsOf,AaT]
  go_simp
  simp only[La]
  by_cases h0:a0=b0<;>by_cases h1:a1=b1<;>by_cases h2:a2=b2<;>by_cases h3:a3=b3<;>simp[h0,h1,h2,h3]
theorem ZK {n:Nat}{c:Cx}{l:Fr}{H:List Ent}{d:Option Nat}{ty rty:TypeId}{pos:String}{af:Array Edge}{g:Option (Nat×Bool)}{x y:Operand}{a0 b0 a1 b1:Int}{a2 b2:Ac}{a3 b3:Int}(hx:ev l x=some (Cz [AZ a0,AZ a1,rS a2,AZ a3]))(hy:ev l y=some (Cz [AZ b0,AZ b1,rS b2,AZ b3])):Cd Tryz.prog n c l H { dst:=d,op:=.binOp .neq 82 x y rty,type:=ty,pos:=pos,after:=af,guard:=g } (rB (!(Bm (a0=b0)&&Bm (a1=b1)&&Bm (a2=b2)&&Bm (a3=b3)))):=λa w Z ha hw=>by
  obtain⟨us,e1,q1⟩:=ha.ev hx;obtain⟨vs,e2,q2⟩:=ha.ev hy;have k1:=B9.eq_rv (us:=[.int .i64 a0,.int .i64 a1,.string (B a2),.int .i64 a3]) q1;have k2:=B9.eq_rv (us:=[.int .i64 b0,.int .i64 b1,.string (B b2),.int .i64 b3]) q2;subst k1;subst k2;have hm:Tryz.prog.eqGuardType Tryz.prog.depth 82=false:=by kernel_rfl
  have hb:=Ai0 (a0:=a0) (a1:=a1) (a2:=a2) (a3:=a3) (b0:=b0) (b1:=b1) (b2:=b2) (b3:=b3) w;refine⟨.bool (!(Bm (a0=b0)&&Bm (a1=b1)&&Bm (a2=b2)&&Bm (a3=b3))),rfl,?_⟩;have hg:=run_eqGuard_agg (P:=Tryz.prog) w .neq 82 x y #[.int .i64 a0,.int .i64 a1,.string (B a2),.int .i64 a3] #[.int .i64 b0,.int .i64 b1,.string (B b2),.int .i64 b3] hm;simp only[execOp,e1,e2,Sem.run_bind,hg,Result.andThen_ok,run_neq_struct,hb,Sem.run_pure]
theorem M5 (F:Nat)(a b:(List Ab))(r:Bool)(h:HE F a b=some r):FN 10 [B4 4 (Bu A5 a),B4 4 (Bu A5 b)] [] (PO (rB r)):=en Tryz.func10 Tryz.ntmps10 Aa λw Z=>AA Aa<|BD Aa<|wv AU<|ms Aa<|wv AU<|wv Ci<|AJ<|B2 h (λc1 h2=>Bw Aa<|cs h2▸CY Tryz.results10 ⟨Aa,Aa⟩) λc1 h3=>Bt<|AA Aa<|AJ<|Au<|ob h3 λhh hi hf=>Bk (V:=Unit×Unit) 0 (λσ=>Cg (λσ=>LL a b σ) σ.1 σ.2.1=some hh) (λσ=>[(0,B4 4 (Bu A5 a)),(1,B4 4 (Bu A5 b)),(5,AZ σ.2.1)]) (λσ=>[]) (λσ=>σ.1) (F,0,()) hi (A7 Aa) sN (λσ=>NE =some r) (λσ=>[]) (λσ=>[]) (by rintro⟨h5,hg,⟨⟩⟩ hj;refine EG ?_;obtain⟨hk,rfl,hl,hd,he⟩:=Cq hj;have hd:LL a b hg=some hl:=hd;exact AV<|AA Aa<|wv AU<|wv BI<|AJ<|B2 hd (λhm hn=>by refine Bt<|Au<|AV<|ck hn λhp hq=>ck hq λhr hs=>Dn [0,1,5] ?_;refine rq AD<|rq AD<|rq (AX hp)<|rq C2<|rq AD<|rq AD<|rq (AX hr)<|rq C2<|rq (ZK Aa Aa)<|re [17,18,19,20,21,22,23,24,25,0,1,5] ?_;exact Cy<|B2 hs (λht hu=>B6 Aa<|B8<|Ao<|Bf<|have hw:=BE hu he hf;B8<|cs hw▸CY Tryz.results10 ⟨Aa,Aa⟩) λht hx=>B3<|CR<|B7 Aa<|ck hx λhy hz=>wv (Bh hy)<|Bg Aa<|have h0:=Bd hz he;Ax (As (hk,hg+1,()) ⟨h0,Apu _⟩ (A7 Aa) sN)) λhm h1=>Bs<|Ah<|have h4:=BG h1 he hf;Ah (AN (As ((),()) h4 Hw.nil sN)))<|by rintro⟨⟨⟩,⟨⟩⟩ hb;refine Gw ?_;exact have hb:NE =some r:=hb;by unfold NE at hb;exact AR<|Cy<|B6 Aa<|cs hb▸CY Tryz.results10 ⟨Aa,Aa⟩
end Go.Proofs.YtphnhpcjnmmhiaaGreatDoor.Q
namespace Go.Proofs.YtphnhpcjnmmhiaaGreatDoor
open Go
set_option linter.unusedVariables false
def NG (F:Nat)(v:(List Ab)):Option ((List Ab)×Int):=
 Ba (I1 F v) λr1=>Bj (!decide (r1=0)) (some (([]:List Ab),r1)) (some (v,0))
def LM :Option ((List Ab)):=
 some ([(Ab.mk 1 0 ([]:Ac) 0)]:List Ab)
def Ae7 (F:Nat)(n:Int):Option ((List Ab)×Int):=
 Ba (NG F ([(Ab.mk 3 n ([]:Ac) 0)]:List Ab)) λr2=>some (r2.1,r2.2)
def Ae2 (F:Nat)(s:Ac):Option ((List Ab)×Int):=
 Ba (NG F ([(Ab.mk 4 0 s 0)]:List Ab)) λr2=>some (r2.1,r2.2)
end Go.Proofs.YtphnhpcjnmmhiaaGreatDoor
namespace Go.Proofs.YtphnhpcjnmmhiaaGreatDoor.Q
open Go Go.RowKit
set_option linter.unusedVariables false
set_option linter.unusedSimpArgs false
set_option maxRecDepth 100000
set_option maxHeartbeats 4000000
theorem U4 (F:Nat)(v:(List Ab))(r:(List Ab)×Int)(h:NG F v=some r):FN 89 (Ea v) [] (PO (DW (Gp r.1 r.2))):=en Tryz.func89 Tryz.ntmps89 Aa λw Z=>AA Aa<|BM Aa<|ob h λr1 e3 h2=>BV AfT (NH F v r1 e3)<|ms Aa<|BD Aa<|wv Ci<|AJ<|B2 h2 (λc4 h5=>Bw Aa<|WK.up (d:=2) (r:=B4 4 (Bu A5 ([]:List Ab))) Aa (Up.le (Hx.nil _))<|cs h5▸VH Tryz.results89 ⟨Aa,Aa⟩) λc4 h6=>BW<|B6 Aa<|cs h6▸VH Tryz.results89 ⟨Aa,Aa⟩
theorem O1 (r:(List Ab))(h:LM=some r):FN 50 [] [] (PO (B4 4 (Bu A5 r))):=en Tryz.func50 Tryz.ntmps50 Aa λw Z=>by unfold LM at h;exact AA Aa<|Dc<|wv (CD Lx Aa (Eo Aa cN) Aa)<|DP ([(Ab.mk 1 0 ([]:Ac) 0)]:List Ab) A5 Mv JZ OZ Aa ⟨cA,trivial⟩ Dh λb1=>By Aa<|WK.freeze (i:=0) Aa<|WK.up (d:=0) Aa (Up.fact 0 Aa)<|cs h▸Ap (Ct Tryz.results50 AW) (sS sN) ⟨Aa,Aa⟩
theorem AgK (F:Nat)(n:Int)(r:(List Ab)×Int)(h:Ae7 F n=some r):FN 47 [AZ n] [] (PO (DW (Gp r.1 r.2))):=en Tryz.func47 Tryz.ntmps47 Aa λw Z=>by unfold Ae7 at h;exact AA Aa<|BM Aa<|wv (CD Lx Aa (Eo Aa (Eo Aa cN)) Aa)<|DP ([(Ab.mk 3 n ([]:Ac) 0)]:List Ab) A5 Mv JZ OZ Aa ⟨cA,trivial⟩ Dh λb1=>WL.freeze (i:=0) Aa<|WL.up (d:=6) Aa (Up.fact 0 Aa)<|ob h λr2 e4 h3=>BV Tryz.call89 (U4 F ([(Ab.mk 3 n ([]:Ac) 0)]:List Ab) r2 e4)<|wv Al<|wv Al<|By Aa<|cs h3▸Ap (LA Tryz.results47 AW AW) (sS sN) ⟨Aa,Aa⟩
theorem AgG (F:Nat)(s:Ac)(r:(List Ab)×Int)(h:Ae2 F s=some r):FN 94 [rS s] [] (PO (DW (Gp r.1 r.2))):=en Tryz.func94 Tryz.ntmps94 Aa λw Z=>by unfold Ae2 at h;exact AA Aa<|BM Aa<|wv (CD Lx Aa (Eo Aa (Eo Aa cN)) Aa)<|DP ([(Ab.mk 4 0 s 0)]:List Ab) A5 Mv JZ OZ Aa ⟨cA,trivial⟩ Dh λb1=>WL.freeze (i:=0) Aa<|WL.up (d:=6) Aa (Up.fact 0 Aa)<|ob h λr2 e4 h3=>BV Tryz.call89 (U4 F ([(Ab.mk 4 0 s 0)]:List Ab) r2 e4)<|wv Al<|wv Al<|By Aa<|cs h3▸Ap (LA Tryz.results94 AW AW) (sS sN) ⟨Aa,Aa⟩
end Go.Proofs.YtphnhpcjnmmhiaaGreatDoor.Q
namespace Go.Proofs.YtphnhpcjnmmhiaaGreatDoor
open Go
set_option linter.unusedVariables false
set_option linter.unusedSimpArgs false
variable{R St:Type}{K:St→Option R}
section
variable {T S : Type}
def DB:List (Ac×T)→Ac→Option T
 | [],_=>none
 | p::r,k=>bif decide (p.1=k) then some p.2 else DB r k
def Gc (xs:List (Ac×T))(k:Ac)(z:T):T:=(DB xs k).getD z
def Du (xs:List (Ac×T))(k:Ac):Bool:=(DB xs k).isSome
def mins (k:Ac)(v:T):List (Ac×T)→List (Ac×T)
 | []=>[(k,v)]
 | p::r=>bif Cr k p.1 then(k,v)::p::r else p::mins k v r
def mput (xs:List (Ac×T))(k:Ac)(v:T):List (Ac×T):=xs.map λp=>bif decide (p.1=k) then(k,v) else p
def mset (xs:List (Ac×T))(k:Ac)(v:T):List (Ac×T):=bif Du xs k then mput xs k v else mins k v xs
def AbG (xs:List (Ac×T))(k:Ac):List (Ac×T):=xs.filter λp=>!decide (p.1=k)
def BC (f:T→S)(xs:List (Ac×T)):List (Ac×S):=xs.map λp=>(p.1,f p.2)
theorem QU (f:T→S):∀(xs:List (Ac×T)) (k:Ac),DB (BC f xs) k=(DB xs k).map f
 | [],k=>rfl
 | p::r,k=>by
  show(bif decide (p.1=k) then some (f p.2) else DB (BC f r) k)=_;rw[DB,QU f r k]
  cases decide (p.1=k)<;>rfl
theorem Aht (f:T→S)(xs:List (Ac×T))(k:Ac):Du (BC f xs) k=Du xs k:=by
 unfold Du;rw[QU];cases DB xs k<;>rfl
theorem ZU (f:T→S)(k:Ac)(v:T):∀xs:List (Ac×T),BC f (mins k v xs)=mins k (f v) (BC f xs)
 | []=>rfl
 | p::r=>by
  show BC f (bif Cr k p.1 then(k,v)::p::r else p::mins k v r)=(bif Cr k p.1 then(k,f v)::(p.1,f p.2)::BC f r else(p.1,f p.2)::mins k (f v) (BC f r));rw[← ZU f k v r]
  cases Cr k p.1<;>rfl
theorem Ahr (f:T→S)(xs:List (Ac×T))(k:Ac)(v:T):BC f (mset xs k v)=mset (BC f xs) k (f v):=by
 unfold mset;rw[Aht]
 cases Du xs k with
 | false=>exact ZU f k v xs
 | true=>
  show BC f (mput xs k v)=mput (BC f xs) k (f v);unfold BC mput;rw[Aqo,Aqo];refine List.map_congr_left λp _=>?_;show _=(bif decide (p.1=k) then(k,f v) else(p.1,f p.2));simp only[Function.comp]
  cases decide (p.1=k)<;>rfl
theorem NU (f:T→S)(xs:List (Ac×T)):(BC f xs).length=xs.length:=by simp[BC]
theorem OK (k:Ac)(v:T):∀xs:List (Ac×T),(mins k v xs).Perm ((k,v)::xs)
 | []=>Ap3 _
 | p::r=>by
  rw[mins]
  cases Cr k p.1 with
  | true=>exact Ap3 _
  | false=>exact((OK k v r).cons p).trans (List.Perm.swap _ _ _)
def Kh (x:T):List T→List (List T)
 | []=>[[x]]
 | y::r=>(x::y::r)::(Kh x r).map (y::·)
def P0:List T→List (List T)
 | []=>[[]]
 | x::r=>(P0 r).flatMap (Kh x)
theorem SY (x:T):∀(a b:List T),a++x::b∈Kh x (a++b)
 | [],[]=>by simp[Kh]
 | [],y::b=>by simp[Kh]
 | y::a,b=>by
  simp only[Aqn,Kh,Aqb,List.mem_map];exact .inr ⟨_,SY x a b,rfl⟩
theorem WN:∀(xs ys:List T),ys.Perm xs→ys∈P0 xs
 | [],ys,h=>by rw[h.eq_nil];simp[P0]
 | x::r,ys,h=>by
  have hx:x∈ys:=h.symm.subset (List.mem_cons_self ..);obtain⟨a,b,rfl⟩:=List.append_of_mem hx;have h2:(a++b).Perm r:=(List.perm_middle.symm.trans h).cons_inv;simp only[P0,List.mem_flatMap];exact⟨a++b,WN r _ h2,SY x a b⟩
def Ahs {R:Type}[DecidableEq R](xs:List T)(K:List T→Option R):Option R:=match K xs with
 | none=>none
 | some r=>bif (P0 xs).all (λp=>decide (K p=some r)) then some r else none
theorem Alz [DecidableEq R]{xs:List T}{K:List T→Option R}{r:R}(h:Ahs xs K=some r):∀p:List T,p.Perm xs→K p=some r:=λp hp=>by
 unfold Ahs at h
 cases hk:K xs with
 | none=>rw[hk] at h;cases h
 | some q=>
  rw[hk] at h;simp only at h
  cases ha:(P0 xs).all (λp=>decide (K p=some q)) with
  | false=>rw[ha] at h;cases h
  | true=>
   rw[ha] at h;cases h;exact ApH (List.all_eq_true.1 ha p (WN xs p hp))
theorem LY (x:T):∀(xs ys:List T),ys∈Kh x xs→ys.Perm (x::xs)
 | [],ys,h=>by simp[Kh] at h;rw[h]
 | y::r,ys,h=>by
  simp only[Kh,Aqb,List.mem_map] at h;rcases h with rfl | ⟨z,hz,rfl⟩
  ·exact Ap3 _
  ·exact((LY x r z hz).cons y).trans (List.Perm.swap _ _ _)
theorem UG:∀(xs ys:List T),ys∈P0 xs→ys.Perm xs
 | [],ys,h=>by simp[P0] at h;rw[h]
 | x::r,ys,h=>by
  simp only[P0,List.mem_flatMap] at h;obtain⟨z,hz,hy⟩:=h;exact(LY x z ys hy).trans ((UG r z hz).cons x)
theorem Aly [DecidableEq R]{xs:List T}{K:List T→Option R}{r:R}(h:∀p:List T,p.Perm xs→K p=some r):Ahs xs K=some r:=by
 unfold Ahs;rw[h xs (Ap3 _)];have:(P0 xs).all (λp=>decide (K p=some r))=true:=List.all_eq_true.2 λp hp=>Apr (h p (UG xs p hp));simp only[this];rfl
def lfe {St O:Type}(body:T→St→Option (Stp St (Out O St))):List T→St→Option (Out O St)
 | [],s=>some (.go s)
 | x::r,s=>match body x s with
  | none=>none
  | some (.next s')=>lfe body r s'
  | some (.out o)=>some o
def Anq {St R:Type}(body:T→St→Option (Stp St (Out R St)))(ys:List T)(K:St→Option R)(r:R):Stp St (Out R St)→Prop
 | .next s'=>∀q:List T,q.Perm ys→Ba (lfe body q s') (Cm K)=some r
 | .out o=>Cm K o=some r
theorem AmB {body:T→St→Option (Stp St (Out R St))}{ys ys':List T}{p:T}{s:St}{r:R}(h:∀q:List T,q.Perm ys→Ba (lfe body q s) (Cm K)=some r)(hp:ys.Perm (p::ys')):∃t,body p s=some t∧Anq body ys' K r t:=by
 have h1:∀q:List T,q.Perm ys'→Ba (lfe body (p::q) s) (Cm K)=some r:=λq hq=>h _ ((hq.cons p).trans hp.symm)
 cases hb:body p s with
 | none=>
  have:=h1 ys' (Ap3 _);rw[lfe,hb] at this;cases this
 | some t=>
  refine⟨t,rfl,?_⟩
  cases t with
  | next s'=>
   intro q hq;have:=h1 q hq;rw[lfe,hb] at this;exact this
  | out o=>
   have:=h1 ys' (Ap3 _);rw[lfe,hb] at this;exact this
theorem AjC {body:T→St→Option (Stp St (Out R St))}{ys:List T}{s:St}{r:R}(h:∀q:List T,q.Perm ys→Ba (lfe body q s) (Cm K)=some r)(hy:ys=[]):K s=some r:=by
 subst hy;exact h [] (Ap3 _)
theorem Afg {body:T→St→Option (Stp St (Out R St))}{ys:List T}{s':St}{r:R}{t:Stp St (Out R St)}(h:some (Stp.next s')=some t)(ht:Anq body ys K r t):∀q:List T,q.Perm ys→Ba (lfe body q s') (Cm K)=some r:=by cases h;exact ht
theorem Ajj {ys ys':List T}{p:T}(h:ys.Perm (p::ys')):ys'.length<ys.length:=by rw[h.length_eq];exact Apu _
end
def Aaq (k:IntKind)(x y:Int):Int:=k.wrap ((BitVec.ofInt k.bits x&&& BitVec.ofInt k.bits y).toNat:Int)
def iOr (k:IntKind)(x y:Int):Int:=k.wrap ((BitVec.ofInt k.bits x||| BitVec.ofInt k.bits y).toNat:Int)
def Sc (k:IntKind)(x n:Int):Int:=k.wrap (x*2 ^ (min n.toNat k.bits))
end Go.Proofs.YtphnhpcjnmmhiaaGreatDoor
