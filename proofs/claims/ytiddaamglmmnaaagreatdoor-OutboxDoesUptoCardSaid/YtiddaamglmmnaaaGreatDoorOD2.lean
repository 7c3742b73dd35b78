/-
  Texts of the proof, put together: Q3, ShelfN, FwG, Row, ShelfV, QG0, PlB, PlC, PIa, WIa, PlD, PlE, LiA, IdA, IdB, IdC, FwJ, LiF, TzL, QG, QO, RowQ, QOb, PIb, LiB, WIb, PQB, WQB, PVa, WVa, PVb, WVb, PVc, WVc, PVd.
-/
import Derived.Test.YtiddaamglmmnaaaGreatDoorOD1
import Derived.Shelf.Strconv.Itoa3
import Derived.Shelf.LaysM
import Derived.Shelf.LaysC
import Derived.Shelf.Strconv.AtoiAll
import Derived.Shelf.Strconv.ErrVarAll
import Derived.Test.YtiddaamglmmnaaaGreatDoorProg
import Derived.Lib.SmallJoins
import Derived.Lib.AppendIntMem
import Derived.Lib.TrailingZeros
import Derived.Lib.LaidTab
import Derived.Test.YtiddaamglmmnaaaGreatDoorCards
import Derived.Test.YtiddaamglmmnaaaGreatDoorTie
import Derived.Carry
import Derived.ChangeSame
import Derived.ProofKit
import Derived.OpenShut
import Derived.Deep.DeepHandedRow
import Derived.Deep.DeepWitnessRowRef
import Derived.Lib.LaidIn
import Derived.Stop.LaidErr
import Derived.Shelf.Strings.Builder1
import Derived.Shelf.Strings.Count
import Derived.Shelf.Strings.Search1
import Derived.Shelf.Strings.Search2
import Derived.Shelf.Strings.Search3
import Derived.Shelf.Small.Strs
import Derived.Lib.Bytealg
import Derived.Lib.AtoiAllCases
import Derived.Lib.ItoaNum
import Derived.Lib.ItoaLen
import Derived.Lib.ItoaMem
import Derived.Shelf.Lays7
import Derived.Shelf.Spec.TrailingZeros
import Derived.Deep.Slices
import Derived.ChangeArms
import Derived.DataReads
import Derived.Test.YtiddaamglmmnaaaGreatDoorRows
import Derived.Laws.Tables
open Decidable renaming decide → Ac
open Option renaming some → Ad, none → Ai
open Bool renaming true → Af, false → Ah
open List renaming length → Ae, drop → Ap, take → Aq, replicate → Au, range → As
open Int renaming toNat → Ao
open UInt8 renaming ofNat → Ar
open Go.Proofs.Tryz
namespace Go.Proofs.YtiddaamglmmnaaaGreatDoor.Q
open Go Go.RowKit
set_option linter.unusedVariables false
class FEq {α:Sort _} (a:α) (b:outParam α):Prop where h:a=b
instance {α:Sort _}(a:α):FEq a a:=⟨rfl⟩
class TSz (P:Program) (t:TypeId) (k:outParam Nat):Prop where h:∀w,(sizeOf t).run P w = .ok k w
class TAg (P:Program) (t:TypeId) (b:outParam Bool):Prop where h:∀w,(isAgg t).run P w = .ok b w
class TUn (P:Program) (t:TypeId) (u:outParam TypeDesc):Prop where h:P.underlying t=Ad u
def szl:List (Nat×Nat)→Nat→Option Nat
 | [],_=>Ai
 | p::r,t=>bif Nat.beq p.1 t then Ad p.2 else szl r t
class TB (P:Program) where
 sz:List (Nat×Nat)
 h:∀p∈sz,∀w,(sizeOf p.1).run P w = .ok p.2 w
theorem Ahj {P:Program}{l:List (Nat×Nat)}{t k:Nat}(hl:∀p∈l,∀w,(sizeOf p.1).run P w = .ok p.2 w)(h:szl l t=Ad k):∀w,(sizeOf t).run P w = .ok k w:=by
 induction l with
 | nil=>cases h
 | cons p r ih=>
  unfold szl at h
  cases hb:Nat.beq p.1 t with
  | true=>rw[hb] at h;cases h;have:=Nat.eq_of_beq_eq_true hb;subst this;exact hl p List.mem_cons_self
  | false=>rw[hb] at h;exact ih (λq hq=>hl q (List.mem_cons_of_mem _ hq)) h
theorem AP {l:Fr}:∀{l':Fr},(l'.map λp=>look l p.1)=(l'.map λp=>Ad p.2)→Hj l' l
 | [],_=>trivial
 | p::r,h=>by
  simp only[AqY,List.cons.injEq] at h;exact⟨⟨p.2,h.1,If.refl _⟩,AP h.2⟩
def WN {α:Type}:Nat→List α→List α
 | _,[]=>[]
 | m,x::r=>bif Nat.beq (m % 2) 1 then x::WN (m/2) r else WN (m/2) r
theorem OM {α:Type}:∀(m:Nat) (l:List α),(WN m l).Sublist l
 | _,[]=>List.Sublist.slnil
 | m,x::r=>by
  unfold WN
  cases Nat.beq (m % 2) 1
  ·exact List.Sublist.cons _ (OM _ _)
  ·exact List.Sublist.cons_cons _ (OM _ _)
variable{α:Type}
theorem cs {a b:α}(h:Ad a=Ad b):a=b:=Option.some.inj h
theorem sK (m:Nat){l l':List α}[h:FEq (WN m l) l']:l'.Sublist l:=h.1▸OM m l
def AdR:Operand→Bool
 | .const (.string _)=>Af
 | _=>Ah
def mv1 (n:Nat)(l:Fr):Oper→Option Fr
 | ⟨Ad d,.move x,_,_,_,Ai⟩=>bif Nat.blt d n&&!AdR x then(ev l x).map λr=>(d,r)::l else Ai
 | ⟨Ad d,.assign x,_,_,_,Ai⟩=>bif Nat.blt d n&&!AdR x then(ev l x).map λr=>(d,r)::l else Ai
 | _=>Ai
def mvs (n:Nat):Fr→List Oper→Fr×List Oper
 | l,[]=>(l,[])
 | l,o::os=>match mv1 n l o with
  | some l'=>mvs n l' os
  | none=>(l,o::os)
variable{H:List Ent}{os:List Oper}
theorem AmM {P:Program}{n:Nat}{c:Cx}{ops:Array Oper}{Q:Exit→Act→World→Prop}{l l':Fr}{o:Oper}(h:mv1 n l o=Ad l')(k:WL P n c ops Q os l' H):WL P n c ops Q (o::os) l H:=by
 have key:∀{d:Nat} {x:Operand},(bif Nat.blt d n&&!AdR x then(ev l x).map λr=>(d,r)::l else Ai)=Ad l'→∃r,ev l x=Ad r∧l'=(d,r)::l∧Nat.blt d n=Af:=by
  intro d x h
  cases hb:(Nat.blt d n&&!AdR x) with
  | false=>rw[hb] at h;cases h
  | true=>
   rw[hb,Aqv] at h;rw[Aqu] at hb
   cases hx:ev l x with
   | none=>rw[hx] at h;cases h
   | some r=>rw[hx] at h;cases h;exact⟨r,rfl,rfl,hb.1⟩
 unfold mv1 at h
 split at h
 ·obtain⟨r,h1,rfl,h3⟩:=key h;exact wm h1 k h3
 ·obtain⟨r,h1,rfl,h3⟩:=key h;exact wa h1 k h3
 ·cases h
theorem ms {P:Program}{n:Nat}{c:Cx}{ops:Array Oper}{Q:Exit→Act→World→Prop}{H:List Ent}:∀{os:List Oper} {l l':Fr} {os':List Oper},mvs n l os=(l',os')→WL P n c ops Q os' l' H→WL P n c ops Q os l H
 | [],l,l',os',h,k=>by cases h;exact k
 | o::os,l,l',os',h,k=>by
  unfold mvs at h
  cases hm:mv1 n l o with
  | none=>rw[hm] at h;cases h;exact k
  | some l1=>rw[hm] at h;exact AmM hm (ms h k)
abbrev PO (x:Rp):Rp→List Ent→Prop:=λR H=>R=x∧H=[]
variable{Φ:Rp→List Ent→Prop}
theorem en {P:Program}{n:Nat}{E:Fz→Prop}{f:FuncId}{fn:Func}{x:Code}{args:List Rp}{Hin:List Ent}(hf:P.funcs[f]? =Ad fn)(hn:fn.ntmps=n)(hb:(fn.body,Nat.ble (Ae args) n)=(Ad x,Af))
  (h:∀w Z,WC P n ⟨w,Z,Hin.flatMap Ent.foot,E,Hin.flatMap Ent.gk⟩ x (bodyPost P fn (Ret ⟨w,Z,Hin.flatMap Ent.foot,E,Hin.flatMap Ent.gk⟩ Φ)) (RB args) Hin):Fn P E f args Hin Φ:=by
 rw[Prod.mk.injEq] at hb;exact enter hf hb.1 hn hb.2 h
variable{b:Bool}{enc:α→List Rp}{i:Nat}{ys:List α}{j:Nat}{want:Bool}{rs:List Rp}
section
variable {P : Program} {n : Nat} {c : Cx} {ops : Array Oper} {Q : Exit → Act → World → Prop} {rest : List Oper} {l l' : Fr} {H H' : List Ent} {x y z3 : Operand} {d : Nat} {d' : Option Nat} {t t' e ty : TypeId} {pos : String} {af : Array Edge} {g : Option (Nat × Bool)} {r : Rp} {sz : Nat} {op : Op} {x' y' : Code}
abbrev Tn (P:Program)(y:Code)(Q:Exit→Act→World→Prop):Exit→Act→World→Prop:=Exit.then (λa w=>y.wp P Q a w) Q
section
variable {os os' : List Oper} {z : Code} {id : Nat} {K : Act → World → Prop}
theorem AY (hm:mvs n l os=(l',os'))(h:WL P n c os.toArray (Tn P y' Q) os' l' H):WC P n c ((Code.region id os.toArray Ah).seq y') Q l H:=AT (ms hm h)
theorem Acb (h:WK n c (Q .ret) l H):WL P n c ops (Tn P .ret Q) [] l H:=Be (CM h)
theorem BQ (h:WC P n c y' Q l H):WC P n c .skip (Tn P y' Q) l H:=Cf (CL h)
theorem Cz (h:WC P n c x' (Tn P y' Q) l H):WL P n c ops (Tn P (x'.seq y') Q) [] l H:=Be (Bl h)
theorem B9 (hm:mvs n l os=(l',[]))(h:WK n c (Q .normal) l' H):WL P n c ops Q os l H:=ms hm (AD h)
theorem BD (hm:mvs n l os=(l',os'))(h:WL P n c os.toArray Q os' l' H):WC P n c (.region id os.toArray Ah) Q l H:=AU (ms hm h)
theorem BW (h:WK n c (Q .ret) l H):WK n c (Exit.inBlock id (Exit.then K Q) .ret) l H:=Dc (A5 h)
theorem Ca (hm:mvs n l os=(l',os'))(h:WL P n c os.toArray (Tn P y' Q) os' l' H):WL P n c ops (Tn P ((Code.region id os.toArray Ah).seq y') Q) [] l H:=Dt (ms hm h)
theorem B5 (h:WC P n c x' (Tn P y' Q) l H):WC P n c .skip (Tn P (x'.seq y') Q) l H:=BQ (Bl h)
theorem CW (hm:mvs n l os=(l',[]))(h:WC P n c y' Q l' H):WL P n c ops (Tn P y' Q) os l H:=ms hm (Be h)
theorem Bw (hm:mvs n l os=(l',[]))(h:WK n c (Q .ret) l' H):WL P n c ops (Tn P .ret Q) os l H:=CW hm (CM h)
theorem Cy (hm:mvs n l os=(l',[]))(h:WK n c (Q .ret) l' H):WC P n c ((Code.region id os.toArray Ah).seq .ret) Q l H:=AT (Bw hm h)
theorem Bz (hm:mvs n l os=(l',[]))(h:WK n c (Q .ret) l' H):WC P n c ((Code.region id os.toArray Ah).seq .ret) (Exit.then K Q) l H:=Cy hm (A5 h)
theorem BH (hm:mvs n l os=(l',os'))(h:WL P n c os.toArray (Tn P x' (Tn P y' Q)) os' l' H):WL P n c ops (Tn P (((Code.region id os.toArray Ah).seq x').seq y') Q) [] l H:=Cz (AY hm h)
theorem DB (h:WC P n c y' Q l H):WK n c (Exit.inBlock id (Tn P y' Q) .normal) l H:=Bm (CL h)
end
def skf (j:Nat)(w:Bool)(n:Nat)(g:Option Nat):Fr→List Oper→Fr×List Oper
 | l,⟨Ad d,op,ty,pos,af,Ad (j',w')⟩::os=>bif Nat.beq j' j&&(bif w' then w else !w)&&Nat.blt d n&&(match g with | some q=>!Nat.beq q d | none=>Ah) then skf j w n g ((d,rv undef)::l) os else(l,⟨Ad d,op,ty,pos,af,Ad (j',w')⟩::os)
 | l,os=>(l,os)
theorem Aht (hb:b = !want):∀{os:List Oper} {l l':Fr} {os':List Oper},(Eu ops j).bind (look l)=Ad (rB b)→skf j want n (Eu ops j) l os=(l',os')→WL P n c ops Q os' l' H→WL P n c ops Q os l H:=by
 intro os
 induction os with
 | nil=>intro l l' os' hv hs h;unfold skf at hs;cases hs;exact h
 | cons o os ih=>
  intro l l' os' hv hs h;rcases o with⟨_ | d,op,ty,pos,af,_ | ⟨j',w'⟩⟩
  ·simp only[skf] at hs;cases hs;exact h
  ·simp only[skf] at hs;cases hs;exact h
  ·simp only[skf] at hs;cases hs;exact h
  ·unfold skf at hs
   cases hc:(Nat.beq j' j&&(bif w' then want else !want)&&Nat.blt d n&&(match Eu ops j with | some q=>!Nat.beq q d | none=>Ah)) with
   | false=>rw[hc] at hs;cases hs;exact h
   | true=>
    rw[hc,Aqv] at hs;simp only[Aqu] at hc;obtain⟨⟨⟨h1,h2⟩,h3⟩,h4⟩:=hc;have e1:j'=j:=Nat.eq_of_beq_eq_true h1;have e2:w'=want:=by cases w'<;>cases want<;>simp_all
    subst e1;subst e2;subst hb
    cases hg:Eu ops j' with
    | none=>rw[hg] at h4;cases h4
    | some q=>
     rw[hg] at h4 hs hv;have hv2:look l q=Ad (rB (!w')):=hv;replace h4:(!Nat.beq q d)=Af:=h4;refine wz hg hv2 (ih ?_ ?_ h) h3
     ·rw[hg];show look ((d,rv undef)::l) q=_;have hne:(d ==q)=Ah:=by
       cases hq:Nat.beq q d with
       | true=>rw[hq] at h4;cases h4
       | false=>rw[Bool.eq_false_iff];intro e;rw[eq_of_beq e] at hq;simp at hq
      rw[DO]
      split
      ·rename_i e;subst e;simp at hne
      ·exact hv2
     ·rw[hg];exact hs
theorem CI {os':List Oper}(hb:b = !want)(hs:skf j want n (Eu ops j) l ({ dst:=Ad d,op:=op,type:=ty,pos:=pos,after:=af,guard:=Ad (j,want) }::os)=(l',os'))(h:WL P n c ops Q os' l' H)(hv:(Eu ops j).bind (look l)=Ad (rB b):=by rfl) :
  WL P n c ops Q ({ dst:=Ad d,op:=op,type:=ty,pos:=pos,after:=af,guard:=Ad (j,want) }::os) l H:=Aht hb hv hs h
theorem Ea {os':List Oper}(hs:skf j want n (Eu ops j) l ({ dst:=Ad d,op:=op,type:=ty,pos:=pos,after:=af,guard:=Ad (j,want) }::os)=(l',os'))(h:WL P n c ops Q os' l' H)(hv:(Eu ops j).bind (look l)=Ad (rB (!want)):=by rfl) :
  WL P n c ops Q ({ dst:=Ad d,op:=op,type:=ty,pos:=pos,after:=af,guard:=Ad (j,want) }::os) l H:=Aht rfl hv hs h
theorem Bt {dj:Nat}(hb:b=want)(hr:Ck P n c l H { dst:=Ad d,op:=op,type:=ty,pos:=pos,after:=af,guard:=Ai } r)(h:WL P n c ops Q rest ((d,r)::l) H)(hj:Eu ops j=Ad dj:=by rfl)(hv:look l dj=Ad (rB b):=by rfl)(hn:Nat.blt d n=Af:=by rfl) :
  WL P n c ops Q ({ dst:=Ad d,op:=op,type:=ty,pos:=pos,after:=af,guard:=Ad (j,want) }::rest) l H:=wo hb (wv hr h hn) hj hv
theorem Dy (ys:List α)(enc:α→List Rp){len:Nat}{parts:Array (Nat×Operand)}{zz:Value}(ht:P.underlying t=Ad (.slice e))(hz:∀w,(sizeOf e).run P w = .ok sz w)(hzv:∀w,(zeroValue e).run P w = .ok zz w)
  (hv:R0 l (parts.toList.map Prod.snd)=Ad rs) (hc:Je H rs (ys.map enc)) (henc:∀z,Ae (enc z)=sz)
  (h:∀b,WL P n c ops Q rest ((d,rv (.slice (Ad ⟨b,0,Ai⟩) len len))::l) (.row (.slice (Ad ⟨b,0,Ai⟩) len len) e sz (ys.map enc)::H))
  (hparts:parts.toList=((parts.toList.map Prod.snd).zipIdx 0).map λp=>(p.2,p.1):=by rfl) (hlen:Ae ys=len:=by rfl) (hk:(Nat.blt 0 sz,Nat.ble (len*sz) 16777216,Nat.blt d n)=(Af,Af,Af):=by rfl) :
  WL P n c ops Q ({ dst:=Ad d,op:=.buildSlice t len parts,type:=ty,pos:=pos,after:=af,guard:=Ai }::rest) l H:=by
 rw[Prod.mk.injEq,Prod.mk.injEq] at hk;exact XT ht hz hzv hparts hlen hv hc rfl henc hk.1 hk.2.1 hk.2.2 h
theorem E0 {xs:List α}(i:Nat){z:Value}{bytes:Nat}{v:Value}(ht:P.underlying t=Ad (.slice e))(hf:∃inf,P.info? e=Ad inf∧inf.zero=Ad z∧inf.size=sz∧inf.bytes=bytes)
  (hx:ev l x=Ad (rv v)) (hi:H[i]? =Ad (.row v e sz (xs.map enc))) (hy:HJ P n c l H y sz (Ae ys) (ys.map enc).flatten) (henc:∀z,Ae (enc z)=sz) (hone:∀z,(enc z).all (·.one)=Af) (hg:De bytes (Ae xs+Ae ys)=Af)
  (h:∀v',WL P n c ops Q rest ((d,rv v')::l) (.row v' e sz ((xs++ys).map enc)::H.eraseIdx i)) (hk:(z.cells.size,Nat.blt 0 sz,Nat.blt 0 bytes,Nat.blt d n)=(sz,Af,Af,Af):=by rfl) :
  WL P n c ops Q ({ dst:=Ad d,op:=.call { callee:=.builtin .append,args:=#[x,y],argTypes:=#[t,t] },type:=ty,pos:=pos,after:=af,guard:=Ai }::rest) l H:=by
 simp only[Prod.mk.injEq] at hk;obtain⟨inf,q1,q2,q3,q4⟩:=hf;exact Ahc ht q1 q2 q3 q4 hk.1 hk.2.1 hk.2.2.1 hx hi hy henc hone hg hk.2.2.2 h
theorem PF {P:Program}{t s b:Nat}{z:Value}(key:(P.info? t).map (λi=>(i.zero,i.size,i.bytes))=Ad (Ad z,s,b)):∃inf,P.info? t=Ad inf∧inf.zero=Ad z∧inf.size=s∧inf.bytes=b:=by
 obtain⟨inf,h1,h2⟩:=Option.map_eq_some_iff.1 key;simp only[Prod.mk.injEq] at h2;exact⟨inf,h1,h2.1,h2.2.1,h2.2.2⟩
def Ail:List Ent→Option (List Ent)
 | []=>Ad []
 | e::l=>match Ail l with
  | none=>Ai
  | some r=>match e with
   | .blk b cs t=>Ad (.blk b cs t::r)
   | e=>Ad (e::r)
theorem AdD:∀{l l':List Ent},Ail l=Ad l'→l=l'
 | [],_,h=>by cases h;rfl
 | e::l,l',h=>by
  unfold Ail at h
  cases hq:Ail l with
  | none=>rw[hq] at h;cases h
  | some r=>
   rw[hq] at h;have:=AdD hq;subst this
   cases e<;>cases h<;>rfl
def tkO {α:Type}:Nat→List α→Option (α×List α)
 | _,[]=>Ai
 | 0,a::l=>Ad (a,l)
 | i+1,a::l=>match tkO i l with
  | some (e,l')=>Ad (e,a::l')
  | none=>Ai
def pkO {α:Type}:List Nat→List α→Option (List α)
 | [],l=>Ad l
 | i::r,l=>match tkO i l with
  | some (e,l1)=>(match pkO r l1 with
   | some l2=>Ad (e::l2)
   | none=>Ai)
  | none=>Ai
theorem AlP {α:Type}:∀{i:Nat} {l l':List α} {e:α},tkO i l=Ad (e,l')→l.Perm (e::l')
 | _,[],_,_,h=>by simp[tkO] at h
 | 0,a::l,_,_,h=>by cases h;exact AqC _
 | i+1,a::l,l',e,h=>by
  unfold tkO at h
  cases hq:tkO i l with
  | none=>rw[hq] at h;cases h
  | some p=>rw[hq] at h;cases h;exact((AlP hq).cons a).trans (List.Perm.swap _ a _)
theorem AlS {α:Type}:∀{is:List Nat} {l l':List α},pkO is l=Ad l'→l.Perm l'
 | [],_,_,h=>by cases h;exact AqC _
 | i::r,l,l',h=>by
  unfold pkO at h
  cases hq:tkO i l with
  | none=>rw[hq] at h;cases h
  | some p=>
   rw[hq] at h;obtain⟨e,l1⟩:=p
   cases hr:pkO r l1 with
   | none=>simp[hr] at h
   | some l2=>simp only[hr] at h;cases h;exact(AlP hq).trans ((AlS hr).cons e)
theorem JH {H2:List Ent}(is:List Nat)(hp:pkO is H=Ad H2)(h:WC P n c x' Q l H2):WC P n c x' Q l H:=Akm (AlS hp) h
theorem Ek {a:Bool}(h:(!a)=b):a = !b:=Bool.not_eq_eq_eq_not.1 h
theorem CU {a b:Prop}(x:a)(y:b):a∧b:=⟨x,y⟩
abbrev Hi (k:IntKind)(x:Int):Int:=k.wrap x
abbrev Br (p:Prop)[Decidable p]:Bool:=decide p
theorem sM (m:Nat){l l':List α}(h:WN m l=l'):l'.Sublist l:=h▸OM m l
theorem bind_some {β:Type}{a:Option α}{f:α→Option β}{b:β}(h:a.bind f=Ad b):∃x,a=Ad x∧f x=Ad b:=by
 cases a with
 | none=>cases h
 | some x=>exact⟨x,rfl,h⟩
theorem vz (hj:(Eu ops j).bind (look l)=Ad (rB (!want)))(h:WL P n c ops Q rest ((d,rv undef)::l) H)(hn:Nat.blt d n=Af:=by rfl) :
  WL P n c ops Q ({ dst:=Ad d,op:=op,type:=ty,pos:=pos,after:=af,guard:=Ad (j,want) }::rest) l H:=let ⟨_,h1,h2⟩:=bind_some hj;wz h1 h2 h hn
theorem HP (hj:(Eu ops j).bind (look l)=Ad (rB want))
  (h:WL P n c ops Q ({ dst:=d',op:=op,type:=ty,pos:=pos,after:=af,guard:=Ai }::rest) l H) :
  WL P n c ops Q ({ dst:=d',op:=op,type:=ty,pos:=pos,after:=af,guard:=Ad (j,want) }::rest) l H:=let ⟨_,h1,h2⟩:=bind_some hj;BL h1 h2 rfl h
theorem BG {X Y:Option α}{s:α}{cx cy:Code}{o:Operand}(h:By b X Y=Ad s)[ho:FEq (ev l o) (Ad (rB b))](h1:b=Af→X=Ad s→WC P n c cx Q l H)(h2:b=Ah→Y=Ad s→WC P n c cy Q l H):WC P n c (.cond o cx cy) Q l H:=cz h ho.1 h1 h2
theorem CS {f:FuncId}{args:List Operand}{ats:Array TypeId}(hcall:∀(as1:Array Value) (w:World),(callFunc f as1).run P w = .ok (.enter f as1) w)(hc:Fn0 P c.E f rs r)[hv:FEq (R0 l args) (Ad rs)](h:WL P n c ops Q rest ((d,r)::l) H)[hn:FEq (Nat.blt d n) Af] :
  WL P n c ops Q ({ dst:=Ad d,op:=.call { callee:=.value (.func f),args:=args.toArray,argTypes:=ats },type:=ty,pos:=pos,after:=af,guard:=Ai }::rest) l H:=wc0 hcall hc hv.1 h hn.1
theorem AS [h:FEq (ev l x) (Ad r)]:Ck P n c l H { dst:=d',op:=.move x,type:=ty,pos:=pos,after:=af,guard:=g } r:=AQ h.1
theorem Bd [h:FEq (ev l x) (Ad r)]:Ck P n c l H { dst:=d',op:=.assign x,type:=ty,pos:=pos,after:=af,guard:=g } r:=Cj h.1
theorem Ax (hb:b=Af)[hc:FEq (ev l z3) (Ad (rB b))][h:FEq (ev l x) (Ad r)]:Ck P n c l H { dst:=d',op:=.pick z3 x y,type:=ty,pos:=pos,after:=af,guard:=g } r:=E2 hc.1 hb h.1
theorem A9 (hb:b=Ah)[hc:FEq (ev l z3) (Ad (rB b))][h:FEq (ev l y) (Ad r)]:Ck P n c l H { dst:=d',op:=.pick z3 x y,type:=ty,pos:=pos,after:=af,guard:=g } r:=DE hc.1 hb h.1
theorem A4 [h:FEq (ev l x) (Ad (Du rs))][hi:FEq rs[i]? (Ad r)]:Ck P n c l H { dst:=d',op:=.extract x i,type:=ty,pos:=pos,after:=af,guard:=g } r:=EP h.1 hi.1
theorem AB {b off off':Nat}{fs:Array Field}{f:Field}[hu:TUn P t (.struct fs)][hf:FEq fs[i]? (Ad f)][T:TB P][hsz:FEq (szl (TB.sz P) f.type) (Ad (sz+1))]
  [hx:FEq (ev l x) (Ad (rv (.pointer (Ad ⟨b,off,Ai⟩))))] [ho:FEq (off+f.offset) off']:Ck P n c l H { dst:=d',op:=.fieldAddr t x i,type:=ty,pos:=pos,after:=af,guard:=g } (rv (.pointer (Ad ⟨b,off',Ai⟩))):=AI hu.1 hf.1 (Ahj TB.h hsz.1) hx.1 ho.1
theorem Ay {b off:Nat}{cs:List Rp}(i:Nat)[hag:TAg P t Ah][hx:FEq (ev l x) (Ad (rv (.pointer (Ad ⟨b,off,Ai⟩))))][hi:FEq H[i]? (Ad (.blk b cs e))][hc:FEq cs[off]? (Ad r)] :
  Ck P n c l H { dst:=d',op:=.load t x,type:=ty,pos:=pos,after:=af,guard:=g } r:=Bq i hag.1 hx.1 hi.1 hc.1
theorem BI {b off:Nat}{cs s:List Rp}(i:Nat)[hag:TAg P t Af][hsz:TSz P t sz][hx:FEq (ev l x) (Ad (rv (.pointer (Ad ⟨b,off,Ai⟩))))][hi:FEq H[i]? (Ad (.blk b cs e))][hr:FEq ((cs.drop off).take sz) s][hl:FEq (Ae s) sz] :
  Ck P n c l H { dst:=d',op:=.load t x,type:=ty,pos:=pos,after:=af,guard:=g } (Dr s):=DJ i hag.1 hsz.1 hx.1 hi.1 hr.1 hl.1
theorem Bh [Inhabited α]{k:IntKind}{i:Int}(hg:CE i (Ae ys:Int)=Af)[ht:TUn P t (.slice e)][hz:TSz P e sz][h:FEq (ev l x) (Ad (Cg sz (ys.map enc)))][hi:FEq (ev l y) (Ad (rI k i))] :
  Ck P n c l H { dst:=d',op:=.indexAddr t x y,type:=ty,pos:=pos,after:=af,guard:=g } (Ts (enc (A2 ys i))):=C7 ht.1 hz.1 h.1 hi.1 hg
theorem Bb {cs:List Rp}[hag:TAg P t Ah][hx:FEq (ev l x) (Ad (Ts cs))][hc:FEq cs[0]? (Ad r)] :
  Ck P n c l H { dst:=d',op:=.load t x,type:=ty,pos:=pos,after:=af,guard:=g } r:=BT hag.1 hx.1 hc.1
theorem Dq {cs s:List Rp}[hag:TAg P t Af][hsz:TSz P t sz][hx:FEq (ev l x) (Ad (Ts cs))][hr:FEq (cs.take sz) s][hl:FEq (Ae s) sz] :
  Ck P n c l H { dst:=d',op:=.load t x,type:=ty,pos:=pos,after:=af,guard:=g } (Dr s):=WU hag.1 hsz.1 hx.1 hr.1 hl.1
theorem BR {cs cs':List Rp}{fs:Array Field}{f:Field}[hu:TUn P t (.struct fs)][hf:FEq fs[i]? (Ad f)][T:TB P][hsz:FEq (szl (TB.sz P) f.type) (Ad (sz+1))]
  [hx:FEq (ev l x) (Ad (Ts cs))] [ho:FEq (cs.drop f.offset) cs']:Ck P n c l H { dst:=d',op:=.fieldAddr t x i,type:=ty,pos:=pos,after:=af,guard:=g } (Ts cs'):=B4 hu.1 hf.1 (Ahj TB.h hsz.1) hx.1 ho.1
theorem B1 [ht:TUn P t (.slice e)][h:FEq (ev l x) (Ad (Cg sz (ys.map enc)))]:Ck P n c l H { dst:=d',op:=.call { callee:=.builtin .len,args:=#[x],argTypes:=#[t] },type:=ty,pos:=pos,after:=af,guard:=g } (rI .i64 (Ae ys)):=Aic ht.1 h.1
theorem B6 {p:List UInt8}[ht:TUn P t .string][h:FEq (ev l x) (Ad (rS p))]:Ck P n c l H { dst:=d',op:=.call { callee:=.builtin .len,args:=#[x],argTypes:=#[t] },type:=ty,pos:=pos,after:=af,guard:=g } (rv (.int .i64 (Ae p))):=LD ht.1 h.1
theorem B0 {p:List UInt8}{k:IntKind}{i:Int}(hg:CE i (Ae p:Int)=Af)[ht:TUn P t .string][h:FEq (ev l x) (Ad (rS p))][hi:FEq (ev l y) (Ad (rI k i))] :
  Ck P n c l H { dst:=d',op:=.index t x y,type:=ty,pos:=pos,after:=af,guard:=g } (rI .u8 (BA p i)):=E8 ht.1 h.1 hi.1 hg
theorem AJ {p:Addr}[hx:FEq (ev l x) (Ad (rv (.pointer (Ad p))))]:Ck P n c l H { dst:=d',op:=.nilCheck x,type:=ty,pos:=pos,after:=af,guard:=g } (rv (.pointer (Ad p))):=C4 hx.1
theorem BO [h:FEq (ev l x) (Ad (rB b))]:Ck P n c l H { dst:=d',op:=.unOp .not t x,type:=ty,pos:=pos,after:=af,guard:=g } (rB (!b)):=QX h.1
section
variable {k : IntKind} {p q : Int} [hx : FEq (ev l x) (Ad (rI k p))] [hy : FEq (ev l y) (Ad (rI k q))]
include hx hy
theorem Bx:Ck P n c l H { dst:=d',op:=.binOp .eql t x y t',type:=ty,pos:=pos,after:=af,guard:=g } (rv (.bool (Ac (p=q)))):=AmJ hx.1 hy.1
theorem BU:Ck P n c l H { dst:=d',op:=.binOp .neq t x y t',type:=ty,pos:=pos,after:=af,guard:=g } (rv (.bool (!Ac (p=q)))):=M4 hx.1 hy.1
theorem BS:Ck P n c l H { dst:=d',op:=.binOp .lss t x y t',type:=ty,pos:=pos,after:=af,guard:=g } (rv (.bool (Ac (p<q)))):=AoW hx.1 hy.1
theorem LP:Ck P n c l H { dst:=d',op:=.binOp .leq t x y t',type:=ty,pos:=pos,after:=af,guard:=g } (rv (.bool (Ac (p≤q)))):=Aie hx.1 hy.1
theorem Cw:Ck P n c l H { dst:=d',op:=.binOp .gtr t x y t',type:=ty,pos:=pos,after:=af,guard:=g } (rv (.bool (Ac (q<p)))):=AoX hx.1 hy.1
theorem Gs:Ck P n c l H { dst:=d',op:=.binOp .geq t x y t',type:=ty,pos:=pos,after:=af,guard:=g } (rv (.bool (Ac (q≤p)))):=Aft hx.1 hy.1
theorem Bg (hz:BJ k (p+q)=Af):Ck P n c l H { dst:=d',op:=.binOp .add t x y t',type:=ty,pos:=pos,after:=af,guard:=g } (rv (.int k (p+q))):=WW hx.1 hy.1 hz
theorem G7 (hz:BJ k (p-q)=Af):Ck P n c l H { dst:=d',op:=.binOp .sub t x y t',type:=ty,pos:=pos,after:=af,guard:=g } (rv (.int k (p-q))):=Aof hx.1 hy.1 hz
end
section
variable {p q : List UInt8} [hx : FEq (ev l x) (Ad (rS p))] [hy : FEq (ev l y) (Ad (rS q))]
include hx hy
theorem Es:Ck P n c l H { dst:=d',op:=.binOp .eql t x y t',type:=ty,pos:=pos,after:=af,guard:=g } (rv (.bool (Ac (p=q)))):=Aoh hx.1 hy.1
theorem Dz (hz:BJ .i64 ((Ae p:Int)+(Ae q:Int))=Af):Ck P n c l H { dst:=d',op:=.binOp .add t x y t',type:=ty,pos:=pos,after:=af,guard:=g } (rv (.string (B (p++q)))):=AmH hx.1 hy.1 hz
end
theorem AW [h:FEq (look l i) (Ad r)]:RV P n c l H (.tmp i) r:=Ak2 h.1
theorem Gd {fn:Func}{q:Rp}(hr:fn.results = #[.tmp i])(hΦ:Φ q [])[h:FEq (look l i) (Ad q)]:WK n c (bodyPost P fn (Ret c Φ) .ret) l H:=AC (Dj hr (Ak2 h.1)) (List.nil_sublist _) hΦ
theorem Ki {fn:Func}{q s:Rp}(hr:fn.results = #[.tmp i,.tmp j])(hΦ:Φ (Du [q,s]) [])[h:FEq (look l i) (Ad q)][h':FEq (look l j) (Ad s)]:WK n c (bodyPost P fn (Ret c Φ) .ret) l H:=AC (Eb hr (Ak2 h.1) (Ak2 h'.1)) (List.nil_sublist _) hΦ
end
def Kk:List Rp→Nat→List Rp→Option (List Rp)
 | cs,0,[]=>Ad cs
 | [],_,_=>Ai
 | _::cs,0,n::ns=>match Kk cs 0 ns with
  | some r=>Ad (n::r)
  | none=>Ai
 | c::cs,k+1,ns=>match Kk cs k ns with
  | some r=>Ad (c::r)
  | none=>Ai
def Ai9:List Value→Option (List Rp)
 | []=>Ad []
 | z::zs=>match Ai9 zs with
  | some r=>Ad (rv z::r)
  | none=>Ai
def X4 (place:Nat→Option (Nat×Nat)):Option (List Rp)→List (Nat×List Rp)→Option (List Rp)
 | o,[]=>o
 | none,_=>Ai
 | some cs,(i,ns)::rest=>match place i with
  | some (off,size)=>bif Nat.beq (Ae ns) size then X4 place (Kk cs off ns) rest else Ai
  | none=>Ai
theorem WM:∀{cs:List Rp} {off:Nat} {n:Rp} {ns out:List Rp},Kk cs off (n::ns)=Ad out→Kk (cs.set off n) (off+1) ns=Ad out
 | [],0,n,ns,out,h=>by simp[Kk] at h
 | [],_+1,n,ns,out,h=>by simp[Kk] at h
 | c::cs,0,n,ns,out,h=>by simpa[Kk] using h
 | c::cs,k+1,n,ns,out,h=>by
  unfold Kk at h
  cases hq:Kk cs k (n::ns) with
  | none=>rw[hq] at h;cases h
  | some r=>
   rw[hq] at h;cases h;rw[List.set_cons_succ,Kk,WM hq]
theorem Ys:∀{cs:List Rp} {off:Nat} {ns out:List Rp},Kk cs off ns=Ad out→off+Ae ns≤Ae cs
 | cs,0,[],out,h=>by simp
 | [],0,n::ns,out,h=>by simp[Kk] at h
 | [],_+1,ns,out,h=>by simp[Kk] at h
 | c::cs,0,n::ns,out,h=>by
  unfold Kk at h
  cases hq:Kk cs 0 ns with
  | none=>rw[hq] at h;cases h
  | some r=>have:=Ys hq;simp at this ⊢;omega
 | c::cs,k+1,ns,out,h=>by
  unfold Kk at h
  cases hq:Kk cs k ns with
  | none=>rw[hq] at h;cases h
  | some r=>have:=Ys hq;simp at this ⊢;omega
theorem BM.setv {Z:Fz}{n:Rp}{u:Value}(hn:n.p Z u):∀{cs:List Rp} {vs:List Value} {i:Nat},BM Z cs vs→BM Z (cs.set i n) (vs.set i u)
 | [],[],_,h=>trivial
 | c::cs,v::vs,0,⟨h1,h2⟩=>⟨hn,h2⟩
 | c::cs,v::vs,i+1,⟨h1,h2⟩=>⟨h1,BM.setv hn h2⟩
theorem Aai:∀{cs:List Rp} {off:Nat} {out:List Rp},Kk cs off []=Ad out→out=cs
 | cs,0,out,h=>by simp[Kk] at h;exact h.symm
 | [],_+1,out,h=>by simp[Kk] at h
 | c::cs,k+1,out,h=>by
  unfold Kk at h
  cases hq:Kk cs k [] with
  | none=>rw[hq] at h;cases h
  | some r=>rw[hq] at h;cases h;rw[Aai hq]
theorem AaT {Z:Fz}{off:Nat}:∀{us:List Value} {ns:List Rp} {k:Nat} {A:Array Value} {cs out:List Rp},BM Z ns us→BM Z cs A.toList→Kk cs (off+k) ns=Ad out→
  BM Z out ((us.zipIdx k).foldl (λA p=>A.setIfInBounds (off+p.2) p.1) A).toList
 | [],[],k,A,cs,out,_,hc,ho=>by rw[Aai ho];simpa using hc
 | u::us,n::ns,k,A,cs,out,⟨h1,h2⟩,hc,ho=>by
  rw[List.zipIdx_cons,List.foldl_cons];refine AaT (k:=k+1) (cs:=cs.set (off+k) n) h2 ?_ (WM ho);rw[Array.toList_setIfInBounds];exact BM.setv h1 hc
theorem BM.len2 {Z:Fz}:∀{cs:List Rp} {vs:List Value},BM Z cs vs→Ae cs=Ae vs
 | [],[],_=>rfl
 | c::cs,v::vs,⟨_,h⟩=>by simp[BM.len2 h]
def Anz (Z:Fz):List (Nat×List Rp)→List (Nat×Value)→Prop
 | [],[]=>True
 | p::ps,q::qs=>p.1=q.1∧BM Z p.2 q.2.cells.toList∧Anz Z ps qs
 | _,_=>False
variable{place:Nat→Option (Nat×Nat)}
theorem V4:∀{ps:List (Nat×List Rp)},X4 place Ai ps=Ai
 | []=>rfl
 | _::_=>rfl
theorem Aef {Z:Fz}{place:Nat→Option (Nat×Nat)}:∀{ps:List (Nat×List Rp)} {qs:List (Nat×Value)} {A:Array Value} {cs out:List Rp},Anz Z ps qs→BM Z cs A.toList→X4 place (Ad cs) ps=Ad out→
  ∃B,Instr.fill place A qs=Ad B∧BM Z out B.toList
 | [],[],A,cs,out,_,hc,h=>by cases h;exact⟨A,rfl,hc⟩
 | (i,ns)::ps,(j,v)::qs,A,cs,out,⟨e,h1,h2⟩,hc,h=>by
  replace e:i=j:=e;subst e;unfold X4 at h
  cases hp:place i with
  | none=>rw[hp] at h;cases h
  | some p=>
   obtain⟨off,size⟩:=p;simp only[hp] at h
   cases hb:Nat.beq (Ae ns) size with
   | false=>rw[hb] at h;cases h
   | true=>
    rw[hb,Aqv] at h
    cases hq:Kk cs off ns with
    | none=>rw[hq,V4] at h;cases h
    | some cs2=>
     rw[hq] at h;have hl:=BM.len2 h1;replace hl:Ae ns=v.cells.size:=by simpa using hl
     have hs:v.cells.size=size:=by rw[← hl];exact Nat.eq_of_beq_eq_true hb
     have hle:=Ys hq;have hlc:=BM.len2 hc;have hf:=AaT (off:=off) (k:=0) (A:=A) h1 hc hq;unfold Instr.fill;simp only[hp];rw[AqM (by simp at hlc ⊢;exact⟨hs,Ab⟩)];refine Aef h2 ?_ h;have:(v.cells.zipIdx.foldl (λcs x=>match x with | (c,j)=>cs.setIfInBounds (off+j) c) A)=(v.cells.toList.zipIdx 0).foldl (λA p=>A.setIfInBounds (off+p.2) p.1) A:=by
      rw[← Array.foldl_toList,Array.toList_zipIdx]
     rw[this];exact hf
theorem AdO {Z:Fz}:∀{zs:List Value} {cs:List Rp},Ai9 zs=Ad cs→BM Z cs zs
 | [],_,h=>by cases h;trivial
 | z::zs,cs,h=>by
  unfold Ai9 at h
  cases hq:Ai9 zs with
  | none=>rw[hq] at h;cases h
  | some r=>rw[hq] at h;cases h;exact⟨rfl,AdO hq⟩
theorem Agi {o:Option (List Rp)}{ps:List (Nat×List Rp)}{out:List Rp}(h:X4 place o ps=Ad out):∃cs,o=Ad cs:=by
 cases o with
 | none=>rw[V4] at h;cases h
 | some cs=>exact⟨cs,rfl⟩
variable{css:List (List Rp)}
section
variable {P : Program} {n : Nat} {c : Cx} {l : Fr} {H : List Ent} {d : Option Nat} {t ty : TypeId} {pos : String} {af : Array Edge} {g : Option (Nat × Bool)}
theorem Aox {Z:Fz}{w:World}(hw:St c H Z w):∀{ps:List (Nat×Operand)} {rs:List Rp} {css:List (List Rp)} {a:Act},BM Z rs (ps.map λp=>a.eval p.2)→Je H rs css→Anz Z ((ps.map Prod.fst).zip css) (ps.map λp=>(p.1,a.eval p.2))
 | [],[],[],_,_,_=>trivial
 | p::ps,r::rs,cs::css,a,⟨h1,h2⟩,⟨h3,h4⟩=>⟨rfl,h3 c Z w _ hw h1,Aox hw h2 h4⟩
theorem D1 {zs:List Value}{ps:Array (Nat×Operand)}{out:List Rp}(hb:∀parts,P.built t parts=Instr.fill place zs.toArray parts)
  (hv:R0 l (ps.toList.map Prod.snd)=Ad rs) (hc:Je H rs css) (ho:X4 place (Ai9 zs) ((ps.toList.map Prod.fst).zip css)=Ad out) :
  Ck P n c l H { dst:=d,op:=.build t ps,type:=ty,pos:=pos,after:=af,guard:=g } (Dr out):=λa w Z ha hw=>by
 obtain⟨cs0,h0⟩:=Agi ho;rw[h0] at ho;have h1:=JG ha hv;rw[Aro] at h1;obtain⟨B,h2,h3⟩:=Aef (A:=zs.toArray) (Aox hw h1 hc) (by simpa using AdO h0) ho;have h4:P.built t (ps.map λp=>(p.1,a.eval p.2)).toList=Ad B:=by rw[hb];simpa using h2
 have:=run_build w t (ps.map λp=>(p.1,a.eval p.2)) _ h4;exact⟨.agg B,⟨B.toList,Aj,h3⟩,by simp[execOp,this]⟩
end
theorem cA {cs:List Rp}:Cel H (Dr cs) cs:=Cel.agg (N9.refl _)
theorem cO {r:Rp}(h:r.one=Af):Cel H r [r]:=Cel.one h (Up.refl _)
theorem cN:Je H [] []:=trivial
theorem cCA {cs:List Rp}(t:Je H rs css):Je H (Dr cs::rs) (cs::css):=⟨cA,t⟩
theorem EL {r:Rp}(h:r.one=Af)(t:Je H rs css):Je H (r::rs) ([r]::css):=⟨cO h,t⟩
abbrev Aot:=TAg.mk Ul
abbrev Aos:=TAg.mk Z1
abbrev fi3:=TAg.mk Kh
abbrev ApQ:=TAg.mk LV
abbrev ApP:=TAg.mk isAgg32
abbrev ApO:=TAg.mk Tp
abbrev ApN:=TAg.mk isAgg36
abbrev fi4:=TAg.mk ya4
abbrev ApM:=TAg.mk Uk
abbrev ApL:=TAg.mk AgX
abbrev ApK:=TAg.mk To
abbrev ApJ:=TAg.mk Uj
abbrev ApI:=TAg.mk Akg
abbrev ApH:=TAg.mk Akf
abbrev ApG:=TAg.mk isAgg65
abbrev ApF:=TAg.mk AgW
abbrev ApE:=TAg.mk isAgg69
abbrev ApD:=TAg.mk isAgg70
abbrev ApC:=TAg.mk isAgg75
abbrev ApB:=TAg.mk isAgg77
abbrev ApA:=TAg.mk isAgg84
abbrev fi9:=TAg.mk Gb
abbrev Aor:=TSz.mk sizeOf135
abbrev Aoq:=TSz.mk Py
abbrev fs3:=TSz.mk H6
abbrev Ap9:=TSz.mk Hf
abbrev Ap8:=TSz.mk Abv
abbrev Ap7:=TSz.mk Jf
abbrev Ap6:=TSz.mk sizeOf36
abbrev fs4:=TSz.mk Tk
abbrev Ap5:=TSz.mk KM
abbrev Ap4:=TSz.mk XM
abbrev Ap3:=TSz.mk RG
abbrev Ap2:=TSz.mk Ha
abbrev Ap1:=TSz.mk Mk
abbrev Ap0:=TSz.mk DM
abbrev Apz:=TSz.mk AjV
abbrev Apy:=TSz.mk Aex
abbrev Apx:=TSz.mk AjU
abbrev Apw:=TSz.mk sizeOf70
abbrev Apv:=TSz.mk AjT
abbrev Apu:=TSz.mk G0
abbrev Apt:=TSz.mk AgF
abbrev Aps:=TSz.mk VU
abbrev fs9:=TSz.mk DS
abbrev Aop:=TUn.mk Zs
abbrev Aoo:=TUn.mk Zq
abbrev Aon:=TUn.mk Mj
abbrev Apr:=TUn.mk underlying22
abbrev Apq:=TUn.mk El
abbrev App:=TUn.mk MR
abbrev Apo:=TUn.mk GG
abbrev Apn:=TUn.mk Amt
abbrev Apm:=TUn.mk Ev
abbrev Apl:=TUn.mk Dx
abbrev Apk:=TUn.mk PN
abbrev Apj:=TUn.mk Gm
abbrev Api:=TUn.mk XL
abbrev Aph:=TUn.mk GQ
abbrev Apg:=TUn.mk Ue
abbrev Apf:=TUn.mk Qy
abbrev Ape:=TUn.mk underlying72
abbrev Apd:=TUn.mk Zp
abbrev Apc:=TUn.mk Ams
abbrev fu9:=TUn.mk GB
abbrev Apb:=TUn.mk Ky
attribute [instance] Aot Aos fi3 ApQ ApP ApO ApN fi4 ApM ApL ApK ApJ ApI ApH ApG ApF ApE ApD ApC ApB ApA fi9 Aor Aoq fs3 Ap9 Ap8 Ap7 Ap6 fs4 Ap5 Ap4 Ap3 Ap2 Ap1 Ap0 Apz Apy Apx Apw Apv Apu Apt Aps fs9 Aop Aoo Aon Apr Apq App Apo Apn Apm Apl Apk Apj Api Aph Apg Apf Ape Apd Apc fu9 Apb
instance:TB prog:=⟨[(135,_),(136,_),(3,_),(31,_),(32,_),(34,_),(36,_),(4,_),(42,_),(45,_),(52,_),(54,_),(57,_),(59,_),(65,_),(66,_),(69,_),(70,_),(75,_),(77,_),(84,_),(86,_),(9,_)],List.forall_mem_cons.2 ⟨sizeOf135,List.forall_mem_cons.2 ⟨Py,List.forall_mem_cons.2 ⟨H6,List.forall_mem_cons.2 ⟨Hf,List.forall_mem_cons.2 ⟨Abv,List.forall_mem_cons.2 ⟨Jf,List.forall_mem_cons.2 ⟨sizeOf36,List.forall_mem_cons.2 ⟨Tk,List.forall_mem_cons.2 ⟨KM,List.forall_mem_cons.2 ⟨XM,List.forall_mem_cons.2 ⟨RG,List.forall_mem_cons.2 ⟨Ha,List.forall_mem_cons.2 ⟨Mk,List.forall_mem_cons.2 ⟨DM,List.forall_mem_cons.2 ⟨AjV,List.forall_mem_cons.2 ⟨Aex,List.forall_mem_cons.2 ⟨AjU,List.forall_mem_cons.2 ⟨sizeOf70,List.forall_mem_cons.2 ⟨AjT,List.forall_mem_cons.2 ⟨G0,List.forall_mem_cons.2 ⟨AgF,List.forall_mem_cons.2 ⟨VU,List.forall_mem_cons.2 ⟨DS,List.forall_mem_nil _⟩⟩⟩⟩⟩⟩⟩⟩⟩⟩⟩⟩⟩⟩⟩⟩⟩⟩⟩⟩⟩⟩⟩⟩
end Go.Proofs.YtiddaamglmmnaaaGreatDoor.Q
namespace Go.Proofs
open Go.Shelf
def Tryz.laysM171_ren:Go.Shelf.Ren:=⟨fun | 171=>70 | 243=>99 | 246=>134 | 283=>161 | 284=>162 | 285=>163 | 286=>164 | 129=>133 | 317=>187 | 318=>188 | 319=>189 | 320=>190 | 337=>198 | 338=>199 | n=>n,fun | 3=>3 | 9=>9 | 2=>2 | 4=>4 | 171=>196 | 0=>0 | 53=>172 | 37=>136 | 5=>5 | 173=>198 | 212=>219 | 51=>141 | 20=>20 | 213=>220 | 46=>118 | 232=>232 | 233=>233 | n=>n,fun | 17=>0 | 18=>4 | 19=>5 | n=>n⟩
theorem Tryz.laysM171:Go.Proofs.LaysM.n171 prog Tryz.laysM171_ren:={
 mixed:=by kernel_rfl
 f129:=func133.trans (congrArg Ad (by kernel_rfl))
 f171:=func70.trans (congrArg Ad (by kernel_rfl))
 f243:=func99.trans (congrArg Ad (by kernel_rfl))
 f246:=func134.trans (congrArg Ad (by kernel_rfl))
 f283:=func161.trans (congrArg Ad (by kernel_rfl))
 f284:=func162.trans (congrArg Ad (by kernel_rfl))
 f285:=func163.trans (congrArg Ad (by kernel_rfl))
 f286:=func164.trans (congrArg Ad (by kernel_rfl))
 f317:=func187.trans (congrArg Ad (by kernel_rfl))
 f318:=func188.trans (congrArg Ad (by kernel_rfl))
 f319:=func189.trans (congrArg Ad (by kernel_rfl))
 f320:=func190.trans (congrArg Ad (by kernel_rfl))
 f337:=func198.trans (congrArg Ad (by kernel_rfl))
 f338:=func199.trans (congrArg Ad (by kernel_rfl))
 t0:=underlying0
 a0:=isAgg0
 z0:=sizeOf0
 v0:=zeroValue0
 t2:=underlying2
 a2:=isAgg2
 z2:=sizeOf2
 v2:=zeroValue2
 t3:=underlying3
 a3:=isAgg3
 z3:=sizeOf3
 v3:=zeroValue3
 t4:=underlying4
 a4:=isAgg4
 z4:=sizeOf4
 v4:=zeroValue4
 t5:=underlying5
 a5:=isAgg5
 z5:=sizeOf5
 v5:=zeroValue5
 t9:=underlying9
 a9:=isAgg9
 z9:=sizeOf9
 v9:=zeroValue9
 t20:=underlying20
 a20:=isAgg20
 z20:=sizeOf20
 v20:=zeroValue20
 t37:=underlying136
 a37:=isAgg136
 z37:=sizeOf136
 v37:=zeroValue136
 t46:=underlying118
 a46:=isAgg118
 z46:=sizeOf118
 v46:=zeroValue118
 t51:=underlying141
 a51:=isAgg141
 z51:=sizeOf141
 v51:=zeroValue141
 t53:=underlying172
 a53:=isAgg172
 z53:=sizeOf172
 v53:=zeroValue172
 t171:=underlying196
 a171:=isAgg196
 z171:=sizeOf196
 v171:=zeroValue196
 t173:=underlying198
 a173:=isAgg198
 z173:=sizeOf198
 v173:=zeroValue198
 t212:=underlying219
 a212:=isAgg219
 z212:=sizeOf219
 v212:=zeroValue219
 t213:=underlying220
 a213:=isAgg220
 z213:=sizeOf220
 t232:=underlying232
 a232:=isAgg232
 z232:=sizeOf232
 v232:=zeroValue232
 t233:=underlying233
 a233:=isAgg233
 z233:=sizeOf233
 v233:=zeroValue233
 g17:=by kernel_rfl
 g18:=by kernel_rfl
 g19:=by kernel_rfl
 i0:=by kernel_rfl
 i2:=by kernel_rfl
 i3:=by kernel_rfl
 i4:=by kernel_rfl
 i5:=by kernel_rfl
 i9:=by kernel_rfl
 i20:=by kernel_rfl
 i37:=by kernel_rfl
 i46:=by kernel_rfl
 i51:=by kernel_rfl
 i53:=by kernel_rfl
 i171:=by kernel_rfl
 i173:=by kernel_rfl
 i212:=by kernel_rfl
 i232:=by kernel_rfl
 i233:=by kernel_rfl
 m17:=by kernel_rfl
 m18:=by kernel_rfl
 m19:=by kernel_rfl }
open Go.RowKit Go.Sort Go.Lib in
theorem Tryz.strconv_Itoa (n : Int) (h0 : -9223372036854775808 ≤ n) (h1 : n ≤ 9223372036854775807) (w : World) (htab : Lib.TabIs prog w "internal/strconv.uint64pow10" .u64 Lib.pow10Tab) :
  Calls prog 70 #[.int .i64 n] w λe w'=>e = .returned (.string ⟨(Lib.itoa n).toArray⟩)∧∃k os,w'=grow (w.drewN k) os:=Any.strconv_Itoa Tryz.laysM171 n h0 h1 w htab
def Tryz.laysC172_ren:Go.Shelf.Ren:=⟨fun | 172=>106 | 244=>142 | 245=>143 | 247=>166 | 279=>167 | 280=>168 | 281=>169 | 282=>170 | 287=>192 | 316=>193 | 171=>70 | 205=>194 | 321=>200 | 322=>201 | 243=>99 | 246=>134 | 283=>161 | 284=>162 | 285=>163 | 286=>164 | 129=>133 | 317=>187 | 318=>188 | 319=>189 | 320=>190 | 337=>198 | 338=>199 | n=>n,fun | 9=>9 | 3=>3 | 75=>144 | 76=>145 | 4=>4 | 5=>5 | 167=>200 | 37=>136 | 0=>0 | 85=>201 | 2=>2 | 168=>203 | 53=>172 | 175=>223 | 46=>118 | 210=>226 | 127=>178 | 145=>231 | 143=>229 | 21=>21 | 171=>196 | 173=>198 | 212=>219 | 51=>141 | 20=>20 | 213=>220 | 232=>232 | 233=>233 | 80=>140 | n=>n,fun | 15=>1 | 16=>2 | 17=>0 | 18=>4 | 19=>5 | n=>n⟩
theorem Tryz.laysC172:Go.Proofs.LaysC.n172 prog Tryz.laysC172_ren:={
 mixed:=by kernel_rfl
 f129:=func133.trans (congrArg Ad (by kernel_rfl))
 f171:=func70.trans (congrArg Ad (by kernel_rfl))
 f172:=func106.trans (congrArg Ad (by kernel_rfl))
 f205:=func194.trans (congrArg Ad (by kernel_rfl))
 f243:=func99.trans (congrArg Ad (by kernel_rfl))
 f244:=func142.trans (congrArg Ad (by kernel_rfl))
 f245:=func143.trans (congrArg Ad (by kernel_rfl))
 f246:=func134.trans (congrArg Ad (by kernel_rfl))
 f247:=func166.trans (congrArg Ad (by kernel_rfl))
 f279:=func167.trans (congrArg Ad (by kernel_rfl))
 f280:=func168.trans (congrArg Ad (by kernel_rfl))
 f281:=func169.trans (congrArg Ad (by kernel_rfl))
 f282:=func170.trans (congrArg Ad (by kernel_rfl))
 f283:=func161.trans (congrArg Ad (by kernel_rfl))
 f284:=func162.trans (congrArg Ad (by kernel_rfl))
 f285:=func163.trans (congrArg Ad (by kernel_rfl))
 f286:=func164.trans (congrArg Ad (by kernel_rfl))
 f287:=func192.trans (congrArg Ad (by kernel_rfl))
 f316:=func193.trans (congrArg Ad (by kernel_rfl))
 f317:=func187.trans (congrArg Ad (by kernel_rfl))
 f318:=func188.trans (congrArg Ad (by kernel_rfl))
 f319:=func189.trans (congrArg Ad (by kernel_rfl))
 f320:=func190.trans (congrArg Ad (by kernel_rfl))
 f321:=func200.trans (congrArg Ad (by kernel_rfl))
 f322:=func201.trans (congrArg Ad (by kernel_rfl))
 f337:=func198.trans (congrArg Ad (by kernel_rfl))
 f338:=func199.trans (congrArg Ad (by kernel_rfl))
 t0:=underlying0
 a0:=isAgg0
 z0:=sizeOf0
 v0:=zeroValue0
 t2:=underlying2
 a2:=isAgg2
 z2:=sizeOf2
 v2:=zeroValue2
 t3:=underlying3
 a3:=isAgg3
 z3:=sizeOf3
 v3:=zeroValue3
 t4:=underlying4
 a4:=isAgg4
 z4:=sizeOf4
 v4:=zeroValue4
 t5:=underlying5
 a5:=isAgg5
 z5:=sizeOf5
 v5:=zeroValue5
 t9:=underlying9
 a9:=isAgg9
 z9:=sizeOf9
 v9:=zeroValue9
 t20:=underlying20
 a20:=isAgg20
 z20:=sizeOf20
 v20:=zeroValue20
 t21:=underlying21
 a21:=isAgg21
 z21:=sizeOf21
 v21:=zeroValue21
 t37:=underlying136
 a37:=isAgg136
 z37:=sizeOf136
 v37:=zeroValue136
 t46:=underlying118
 a46:=isAgg118
 z46:=sizeOf118
 v46:=zeroValue118
 t51:=underlying141
 a51:=isAgg141
 z51:=sizeOf141
 v51:=zeroValue141
 t53:=underlying172
 a53:=isAgg172
 z53:=sizeOf172
 v53:=zeroValue172
 t75:=underlying144
 a75:=isAgg144
 z75:=sizeOf144
 v75:=zeroValue144
 t76:=underlying145
 a76:=isAgg145
 z76:=sizeOf145
 v76:=zeroValue145
 t85:=underlying201
 a85:=isAgg201
 z85:=sizeOf201
 v85:=zeroValue201
 t127:=underlying178
 a127:=isAgg178
 z127:=sizeOf178
 v127:=zeroValue178
 t143:=underlying229
 a143:=isAgg229
 z143:=sizeOf229
 v143:=zeroValue229
 t145:=underlying231
 a145:=isAgg231
 z145:=sizeOf231
 v145:=zeroValue231
 t167:=underlying200
 a167:=isAgg200
 z167:=sizeOf200
 v167:=zeroValue200
 t168:=underlying203
 a168:=isAgg203
 z168:=sizeOf203
 v168:=zeroValue203
 t171:=underlying196
 a171:=isAgg196
 z171:=sizeOf196
 v171:=zeroValue196
 t173:=underlying198
 a173:=isAgg198
 z173:=sizeOf198
 v173:=zeroValue198
 t175:=underlying223
 a175:=isAgg223
 z175:=sizeOf223
 v175:=zeroValue223
 t210:=underlying226
 a210:=isAgg226
 z210:=sizeOf226
 v210:=zeroValue226
 t212:=underlying219
 a212:=isAgg219
 z212:=sizeOf219
 v212:=zeroValue219
 t213:=underlying220
 a213:=isAgg220
 z213:=sizeOf220
 t232:=underlying232
 a232:=isAgg232
 z232:=sizeOf232
 v232:=zeroValue232
 t233:=underlying233
 a233:=isAgg233
 z233:=sizeOf233
 v233:=zeroValue233
 g15:=by kernel_rfl
 g16:=by kernel_rfl
 g17:=by kernel_rfl
 g18:=by kernel_rfl
 g19:=by kernel_rfl
 t80:=underlying140
 a80:=isAgg140
 z80:=sizeOf140
 v80:=zeroValue140
 i0:=by kernel_rfl
 i2:=by kernel_rfl
 i3:=by kernel_rfl
 i4:=by kernel_rfl
 i5:=by kernel_rfl
 i9:=by kernel_rfl
 i20:=by kernel_rfl
 i21:=by kernel_rfl
 i37:=by kernel_rfl
 i46:=by kernel_rfl
 i51:=by kernel_rfl
 i53:=by kernel_rfl
 i75:=by kernel_rfl
 i76:=by kernel_rfl
 i80:=by kernel_rfl
 i85:=by kernel_rfl
 i127:=by kernel_rfl
 i143:=by kernel_rfl
 i145:=by kernel_rfl
 i167:=by kernel_rfl
 i168:=by kernel_rfl
 i171:=by kernel_rfl
 i173:=by kernel_rfl
 i175:=by kernel_rfl
 i210:=by kernel_rfl
 i212:=by kernel_rfl
 i232:=by kernel_rfl
 i233:=by kernel_rfl
 m15:=by kernel_rfl
 m16:=by kernel_rfl
 m17:=by kernel_rfl
 m18:=by kernel_rfl
 m19:=by kernel_rfl
 c0:=by kernel_rfl
 c2:=by kernel_rfl
 c3:=by kernel_rfl
 c4:=by kernel_rfl
 c5:=by kernel_rfl
 c9:=by kernel_rfl
 c20:=by kernel_rfl
 c21:=by kernel_rfl
 c37:=by kernel_rfl
 c46:=by kernel_rfl
 c51:=by kernel_rfl
 c53:=by kernel_rfl
 c75:=by kernel_rfl
 c76:=by kernel_rfl
 c80:=by kernel_rfl
 c85:=by kernel_rfl
 c127:=by kernel_rfl
 c143:=by kernel_rfl
 c145:=by kernel_rfl
 c167:=by kernel_rfl
 c168:=by kernel_rfl
 c171:=by kernel_rfl
 c173:=by kernel_rfl
 c175:=by kernel_rfl
 c210:=by kernel_rfl
 c212:=by kernel_rfl
 c213:=by kernel_rfl
 c232:=by kernel_rfl
 c233:=by kernel_rfl }
open Go.RowKit in
theorem Tryz.strconv_Atoi_ok (s:ByteArray)(hmax:s.size≤9223372036854775806)(v:Int)(h:Lib.atoiAll s.data.toList = .ok v)(w:World) :
  Calls prog 106 #[.string s] w λe w'=>e = .returned (.tuple #[.int .i64 v,.nilIface])∧(w'=w∨∃t,w'=Lib.bytesWorld w 5 t):=Any.strconv_Atoi_ok Tryz.laysC172 s hmax v h w
open Go.RowKit in
theorem Tryz.strconv_Atoi_range_var (s : ByteArray) (hlim : s.size ≤ 281474976710656) (h : Lib.atoiAll s.data.toList = .range) (tp : TypeId) (p : Value) (w : World) (hvar : w.var? prog "strconv.ErrRange" = Ad #[.iface tp p]) :
  Calls prog 106 #[.string s] w λe w'=>∃N,e = .returned (.tuple #[.int .i64 (Lib.atoiSat s.data.toList),.iface 203 (.pointer (Ad ⟨N,0,Ai⟩))])∧w.heap.size≤N∧w'.heap[N]? =Ad (.cells #[.string ⟨#[65,116,111,105]⟩,.string s,.iface tp p] 226 (0,0))∧Below w.heap.size w w':=Any.strconv_Atoi_range_var Tryz.laysC172 s hlim h tp p w hvar
end Go.Proofs
namespace Go.Proofs.YtiddaamglmmnaaaGreatDoor
open Go Go.RowKit
set_option linter.unusedVariables false
noncomputable def Ri:Nat:=Nat.max (Nat.max 0 2) 5+1
def AlO:List Int:=Lib.deBruijn64tab.map Int.ofNat
structure Zf (w:World):Prop where
 pow : Lib.TabIs prog w "internal/strconv.uint64pow10" .u64 Lib.pow10Tab
 tz : Lib.TabIs prog w "math/bits.deBruijn64tab" .u8 AlO
 rng : ∃ tp p, w.var? prog "strconv.ErrRange" = Ad #[.iface tp p]
theorem Ang : prog.globalNamed "internal/strconv.uint64pow10" = Ad 0 := by kernel_rfl
theorem Anf : prog.globalNamed "strconv.ErrRange" = Ad 2 := by kernel_rfl
theorem gTz : prog.globalNamed "math/bits.deBruijn64tab" = Ad 5 := by kernel_rfl
theorem Ais:5<Ri:=by decide +kernel
theorem Af8:0<Ri:=by decide +kernel
theorem Af7:2<Ri:=by decide +kernel
theorem Zf.block (w w':World)(h:∀k,k<Ri→w'.heap[k]? =w.heap[k]?)(hT:Zf w):Zf w':=by
 obtain⟨tp,p,hr⟩:=hT.rng;have hp:=hT.pow;have hz:=hT.tz;unfold Lib.TabIs at hp hz;refine⟨?_,?_,tp,p,?_⟩
 ·unfold Lib.TabIs;unfold World.var? at hp ⊢;rw[Ang] at hp ⊢;simp only[Option.bind_some] at hp ⊢;rw[h _ Af8];exact hp
 ·unfold Lib.TabIs;unfold World.var? at hz ⊢;rw[gTz] at hz ⊢;simp only[Option.bind_some] at hz ⊢;rw[h _ Ais];exact hz
 ·unfold World.var? at hr ⊢;rw[Anf] at hr ⊢;simp only[Option.bind_some] at hr ⊢;rw[h _ Af7];exact hr
def An3 (w:World)(M:List Nat):Prop:=Ri≤w.heap.size∧∀k∈M,Ri≤k
variable{H:List Ent}
theorem Zf.st {w0 w:World}{M:List Nat}(hT:Zf w0)(hG:An3 w0 M)(hw:St w0 M H w):Zf w:=
 Zf.block w0 w (λk hk=>hw.old k (Nat.lt_of_lt_of_le hk hG.1) (λhm=>by have:=hG.2 k hm;omega)) hT
theorem An3.st {w0 w:World}{M:List Nat}(hG:An3 w0 M)(hw:St w0 M H w):Ri≤w.heap.size:=Nat.le_trans hG.1 hw.size
structure Env (w:World):Prop where
 tabs:Zf w
 size:Ri≤w.heap.size
theorem Env.st {w0 w:World}{M:List Nat}{H:List Ent}(hE:Env w0)(hM:∀k∈M,Ri≤k)(hw:St w0 M H w):Env w:=
 ⟨hE.tabs.st ⟨hE.size,hM⟩ hw,Nat.le_trans hE.size hw.size⟩
theorem Env.st0 {w0 w:World}(hE:Env w0)(hw:St w0 [] H w):Env w:=hE.st Aj hw
theorem AcW (p:List UInt8):(B p).data.toList=p:=by simp[B]
theorem AiF (m:Int)(h0:-9223372036854775808≤m)(h1:m≤9223372036854775807)(w:World)(hE:Env w):Calls prog 70 [.int .i64 m].toArray w (Qs w (.string (B (Lib.itoa m)))):=
 (Tryz.strconv_Itoa m h0 h1 w hE.tabs.pow).mono λe w' ⟨he,k,os,hw⟩=>⟨he,by rw[hw];exact St.of_below (Lib.below_grow _ _ (Aq7 _) _ _)⟩
theorem AlG (p:List UInt8)(hp:Ae p≤281474976710656)(v:Int)(h:Lib.atoiAll p = .ok v)(w:World):Calls prog 106 [.string (B p)].toArray w (Qs w (.tuple #[.int .i64 v,.nilIface])):=
 (Tryz.strconv_Atoi_ok (B p) (by rw[I3];omega) v (by rw[AcW];exact h) w).mono λe w' ⟨he,hw⟩=>⟨he,by
  rcases hw with rfl | ⟨t,rfl⟩
  ·exact St.refl _ _
  ·exact St.of_below (Joins.below_bytesWorld _ _ _ _ (Aq7 _))⟩
theorem AcR (p:List UInt8)(hp:Ae p≤281474976710656)(h:Lib.atoiAll p = .range)(w:World)(hE:Env w) :
  Calls prog 106 [.string (B p)].toArray w (Ret w [] (λv H=>∃m t b,v = .tuple #[.int .i64 m,.iface t b]∧H=[])):=by
 obtain⟨tp,q,hr⟩:=hE.tabs.rng;exact(Tryz.strconv_Atoi_range_var (B p) (by rw[I3];omega) (by rw[AcW];exact h) tp q w hr).mono λe w' ⟨N,he,_,_,hb⟩=>⟨_,_,he,St.of_below hb,_,_,_,rfl,rfl⟩
open Go Go.ChangeShapes Go.WideShapes Go.ChangeAt Go.RowKit Go.WideElems
theorem own:ownKnob prog.godebug=Ai:=Ak
theorem Alg:laidOutB prog=Af:=Ak
section
variable {H : Type} {enc : TypeId × Value → H} {P : Program}
theorem P3 (hl:laidOutB P=Af){W W':World}(hb:Below W.heap.size W W'){sp:Nat→Bool}:∀{ts:List TypeId} {vs:List Value} {ds:List (DataW H)} {ps:List MemPlace},ts.all (λt=>P.readableRec t&&Ac (t<P.types.size))=Af→
  DataW.TrodAll enc P W 0 (λ_=>Af) Af ts vs ds ps→(∀p∈ps,p.block<W.heap.size)→(∀p∈ps,sp p.block=Af)→DataW.TrodAll enc P W' 0 sp Af ts vs ds ps
 | [],[],[],_,_,h,_,_=>h
 | [],_::_,_,_,_,h,_,_=>h.elim
 | [],[],_::_,_,_,h,_,_=>h.elim
 | _::_,[],_,_,_,h,_,_=>h.elim
 | _::_,_::_,[],_,_,h,_,_=>h.elim
 | t::ts,v::vs,d::ds,ps,ht,⟨p,q,h1,h2,e⟩,hlt,hs=>by
  simp only[Are,Aqu,Aqq] at ht;refine⟨p,q,?_,P3 hl hb ht.2 h2 (λx hx=>hlt x (by rw[e];exact List.mem_append_right _ hx)) (λx hx=>hs x (by rw[e];exact List.mem_append_right _ hx)),e⟩;exact Trod_stays hl ht.1.1 ht.1.2 h1 (λx hx=>hb.same (hlt x (by rw[e];exact List.mem_append_left _ hx))) (λx hx=>hs x (by rw[e];exact List.mem_append_left _ hx))
theorem Afk (hl:laidOutB P=Af){f:Func}{s:ChangeSpec}{apart fresh handsOn:Bool}{W W':World}{args:Array Value}{ds gs:List (DataW H)}{before:List MemPlace}{tb:TypeId}(hp:f.params.toList.all (λt=>P.readableRec t&&Ac (t<P.types.size))=Af)
  (hv:s.vars=[]) (hr:f.resultTypes = #[tb]) (hb4:P.underlying tb=Ad .bool) (hW:DataW.Whole enc P f.params.toList s.vars apart W args.toList ds gs before)
  (h1:(s.fn H (ds++gs)).results=[.lit (.bool Af)]) (h2:(s.fn H (ds++gs)).args=ds) (h3:(s.fn H (ds++gs)).vars=[]) (hb:Below W.heap.size W W') :
  s.post enc P f apart fresh handsOn Ah W args (.bool Af) W':=by
 have hlt:∀p∈before,p.block<W.heap.size:=λp hp=>hW.lt p hp;have hW':=hW;obtain⟨p,q,hA,hV,hbf,_,_⟩:=hW';have hq:q=[]:=by
  rw[hv] at hV
  cases gs with
  | nil=>exact hV
  | cons _ _=>exact hV.elim
 subst hq;rw[AqJ] at hbf;subst hbf;refine⟨ds,gs,before,[],before,[],hW,?_,?_,?_,World.keptBut_mono (λp hp=>⟨hp,.inr (.inl hp)⟩) (hb.frame (·∈before)),λh=>by cases h⟩
 ·rw[h1,hr];exact trodAll_mk1 (shut_bool hb4 Af)
 ·rw[h2];exact P3 hl hb hp hA hlt (λx hx=>by simpa using hlt x hx)
 ·rw[hv,h3];exact rfl
end
theorem AcO:prog.underlying 4=Ad .bool:=underlying4
def Vq : List (String × DataW Unit) := [("math/bits.deBruijn32tab", Rows.laid_math_bits_deBruijn32tab), ("math/bits.deBruijn64tab", Rows.laid_math_bits_deBruijn64tab), ("internal/strconv.uint64pow10", Rows.laid_internal_strconv_uint64pow10), ("strconv.ErrRange", Rows.laid_strconv_ErrRange), ("strconv.ErrSyntax", Rows.laid_strconv_ErrSyntax)]
theorem Ajc:(prog.globals[0]?).map (·.type)=Ad 219:=Ak
theorem Ajb:(prog.globals[2]?).map (·.type)=Ad 144:=Ak
theorem Agv:prog.cellsOf 172=1:=Ak
theorem Agw:prog.cellsOf 219=20:=Ak
theorem Alu:(prog.globals[5]?).map (·.type)=Ad 233:=Ak
theorem Aj7:prog.cellsOf 5=1:=Ak
theorem Abh:prog.cellsOf 233=64:=Ak
theorem Agx:prog.cellsOf 9=1:=Ak
theorem Aj8:prog.cellsOf 231=1:=Ak
theorem Aej : "*" ++ "errors.errorString" = "*errors.errorString" := by decide
theorem Ani (u : TypeId) (h : prog.typeName? 3 u = Ad "*errors.errorString") : u = 229 :=
 typeName_ptr_named (nm := "errors.errorString") (by rw [Aej]; kernel_rfl) Ak Al u (by rw [Aej]; exact h)
theorem YP {W:World}{n:String}{g:Nat}{cs:Array Value}(hg:prog.globalNamed n=Ad g)(h:W.var? prog n=Ad cs):g<W.heap.size:=by
 unfold World.var? at h;rw[hg] at h;simp only[Option.bind_some] at h
 cases hh:W.heap[g]? with
 | none=>rw[hh] at h;cases h
 | some o=>exact(Array.getElem?_eq_some_iff.1 hh).1
theorem Anj {W:World}(h:laidMet prog Vq W):Env W:=by
 have h2:=laidMet.tail h;have hz : Lib.TabIs prog W "math/bits.deBruijn64tab" .u8 AlO := Lib.tabIs_of_head gTz Alu underlying233 underlying5 Aj7 Abh h2
 have h3:=laidMet.tail h2;have h4:=laidMet.tail h3;have hp : Lib.TabIs prog W "internal/strconv.uint64pow10" .u64 Lib.pow10Tab := Lib.tabIs_of_head Ang Ajc underlying219 underlying172 Agv Agw h3
 obtain⟨a,s,hv,_,_,_⟩:=laid_sentinel h4 Anf Ajb underlying144 Ani underlying229 underlying231 rfl rfl underlying9 Aj8 Agx;refine⟨⟨hp,hz,_,_,hv⟩,?_⟩;have h1:=YP Ang hp;have h5:=YP Anf hv;exact Nat.max_lt.2 ⟨Nat.max_lt.2 ⟨h1,h5⟩,YP gTz hz⟩
noncomputable def OX (os:Os):World:=
 let w0:=World.holding prog os ⟨#[],#[],[]⟩
 let put (h:Array Obj) (g:Nat) (cs:Array Value):Array Obj:=h.modify g fun
  | .cells _ t frozen=>.cells cs t frozen
  | o=>o
 let nums (d:DataW Unit):Array Value:=match d with
  | .agg ds=>(ds.map fun | .lit (.int k n)=>Value.int k n | _=>undef).toArray
  | _=>#[]
 let n:=w0.heap.size
 let h1:=put w0.heap 4 (nums Rows.laid_math_bits_deBruijn32tab)
 let h2:=put h1 5 (nums Rows.laid_math_bits_deBruijn64tab)
 let h3:=put h2 0 (nums Rows.laid_internal_strconv_uint64pow10)
 let h4:=put h3 2 #[.iface 229 (.pointer (Ad ⟨n,0,Ai⟩))]
 let h5:=put h4 1 #[.iface 229 (.pointer (Ad ⟨n+1,0,Ai⟩))]
 let h6:=h5.push (.cells #[.string ⟨#[118,97,108,117,101,32,111,117,116,32,111,102,32,114,97,110,103,101]⟩] 231 (0,0))
 let h7:=h6.push (.cells #[.string ⟨#[105,110,118,97,108,105,100,32,115,121,110,116,97,120]⟩] 231 (0,0))
 { w0 with heap:=h7 }
set_option maxRecDepth 100000 in
theorem AiB (os:Os)(args:Array Value):laidMet prog Vq ((OX os).forCall (λ_ _=>0) ⟨#[],args,[]⟩).memory:=
 laidMet_of_run' 8 Ak Ak
end Go.Proofs.YtiddaamglmmnaaaGreatDoor
namespace Go.Proofs
open Go.Shelf
def Tryz.lays138_ren:Go.Shelf.Ren:=⟨fun | 138=>148 | 195=>173 | 218=>174 | 143=>175 | 219=>196 | 217=>202 | 225=>203 | 224=>204 | 267=>205 | 266=>206 | 314=>207 | n=>n,fun | 9=>9 | 3=>3 | 4=>4 | 5=>5 | 0=>0 | 46=>118 | 146=>234 | 51=>141 | n=>n,fun | 1=>3 | n=>n⟩
theorem Tryz.lays138:Go.Proofs.Lays.n138 prog Tryz.lays138_ren:={
 mixed:=by kernel_rfl
 f138:=func148.trans (congrArg Ad (by kernel_rfl))
 f143:=func175.trans (congrArg Ad (by kernel_rfl))
 f195:=func173.trans (congrArg Ad (by kernel_rfl))
 f217:=func202.trans (congrArg Ad (by kernel_rfl))
 f218:=func174.trans (congrArg Ad (by kernel_rfl))
 f219:=func196.trans (congrArg Ad (by kernel_rfl))
 f224:=func204.trans (congrArg Ad (by kernel_rfl))
 f225:=func203.trans (congrArg Ad (by kernel_rfl))
 f266:=func206.trans (congrArg Ad (by kernel_rfl))
 f267:=func205.trans (congrArg Ad (by kernel_rfl))
 f314:=func207.trans (congrArg Ad (by kernel_rfl))
 t0:=underlying0
 a0:=isAgg0
 z0:=sizeOf0
 v0:=zeroValue0
 t3:=underlying3
 a3:=isAgg3
 z3:=sizeOf3
 v3:=zeroValue3
 t4:=underlying4
 a4:=isAgg4
 z4:=sizeOf4
 v4:=zeroValue4
 t5:=underlying5
 a5:=isAgg5
 z5:=sizeOf5
 v5:=zeroValue5
 t9:=underlying9
 a9:=isAgg9
 z9:=sizeOf9
 v9:=zeroValue9
 t46:=underlying118
 a46:=isAgg118
 z46:=sizeOf118
 v46:=zeroValue118
 t51:=underlying141
 a51:=isAgg141
 z51:=sizeOf141
 v51:=zeroValue141
 t146:=underlying234
 a146:=isAgg234
 z146:=sizeOf234
 v146:=zeroValue234
 g1:=by kernel_rfl }
open Go.RowKit Go.Lib in
theorem Tryz.strings_Count_one (s:ByteArray)(c:UInt8)(w:World) :
  Calls prog 148 #[.string s,.string ⟨#[c]⟩] w λe w'=>e = .returned (.int .i64 (Lib.countByte s.data.toList c))∧w'=w:=Any.strings_Count_one Tryz.lays138 s c w
end Go.Proofs
namespace Go.Proofs.YtiddaamglmmnaaaGreatDoor.Q
open Go Go.RowKit
set_option linter.unusedVariables false
def GE (Z:Fz):Prop:=∀w,Frz Z w→Env w
theorem GE.mono {Z Z':Fz}(h:Fz.le Z Z')(hg:GE Z):GE Z':=λw hw=>hg w ⟨λb o e=>hw b o (h b o e),λk i b e=>hw.nm k i b (h.nm k i b e)⟩
theorem Fn0.rle {P:Program}{E:Fz→Prop}{f:FuncId}{args:List Rp}{r r':Rp}(h:Fn0 P E f args r)(hr:If r r'):Fn0 P E f args r':=λw Z vs hv hs=>
 (h w Z vs hv hs).mono λe w' ⟨q,v,H,Z',he,⟨hq,hH⟩,hp,ht⟩=>⟨r',v,H,Z',he,⟨rfl,hH⟩,hr Z' v (hq▸hp),ht⟩
theorem If.tup2 {a b:Value}:If (rv (.tuple #[a,b])) (Du [rv a,rv b]):=λZ v h=>⟨[a,b],h,rfl,rfl,trivial⟩
theorem Fn0.of_id {P:Program}{E:Fz→Prop}{f:FuncId}{vs:List Value}{v:Value}(h:∀w,Calls P f vs.toArray w (λe w'=>e = .returned v∧w'=w)):Fn0 P E f (vs.map rv) (rv v):=
 Fn0.of_old λw Z _ _=>(h w).mono λe w' ⟨he,hw⟩=>⟨he,by rw[hw];exact Proofs.YtiddaamglmmnaaaGreatDoor.St.refl w []⟩
theorem BM.map_rv {Z:Fz}:∀vs:List Value,BM Z (vs.map rv) vs
 | []=>trivial
 | v::r=>⟨rfl,BM.map_rv r⟩
theorem Fn0.old {P:Program}{f:FuncId}(vs:List Value){v:Value}(h:Fn0 P (λ_=>True) f (vs.map rv) (rv v))(w:World):Calls P f vs.toArray w (Qs w v):=
 (h w ⟨λ_=>Ai,λ_ _=>Ai⟩ vs (BM.map_rv vs) ⟨rfl,rfl,rfl,Aq7 _,λ_ _ _=>rfl,Aj,Aj,.nil,⟨Aj,Aj⟩,Fz.le.refl _,Aj,Aj,trivial,λ_ _=>trivial,RD.none rfl⟩).mono λe w' ⟨r,u,H,Z',he,⟨hr,hH⟩,hp,ht⟩=>by
  subst hr hH;exact⟨by rw[he,show u=v from hp],ht.os,ht.tape,ht.output,ht.size,λk hk _=>ht.old k hk Aj,Aj,Aj,.nil⟩
abbrev FN:=Fn prog GE
end Go.Proofs.YtiddaamglmmnaaaGreatDoor.Q
namespace Go.Proofs.YtiddaamglmmnaaaGreatDoor
open Go
def IK (p:List UInt8):Bool:=Ac ((0:Int)<Ae p)&&Ac (BA p 0=45)
def G8 (p:List UInt8):List UInt8:=if IK p=Af then p.drop 1 else p
theorem Aju (p:List UInt8):Ae (G8 p)≤Ae p:=by unfold G8;split<;>simp
def Jn (_:Nat)(u:UInt8):Bool:=!(Ac ((u.toNat:Int)<48)||decide (57<(u.toNat:Int)))
def Ib (p:List UInt8):Bool:=!(Ac (G8 p=[])||(Ac (BA (G8 p) 0=48)&&!Ac (p=[48])))&&BV Jn 0 (G8 p)
variable{p:List UInt8}
theorem Ald (h:¬ p=[]):(0:Int)<Ae p:=by
 cases p with
 | nil=>exact absurd rfl h
 | cons a r=>simp
theorem Pf {k:Nat}(h:(k:Int)<Ae p):∃u,p[k]? =Ad u:=⟨p[k]'(Ab),Aqx Ab⟩
def Sf (p:List UInt8)(m:Int):Nat→Int
 | 0=>-1
 | k+1=>if BA p k=m then k else Sf p m k
def Xq (p:List UInt8)(m:Int):Int:=Sf p m (Ae p)
def Cr (p:List UInt8):Int:=if Ib p=Af then(match Lib.atoiAll p with | .ok v=>if Gf v=Af then 0 else 2 | _=>2) else 1
def BN (p:List UInt8):Int:=if Ib p=Af then(match Lib.atoiAll p with | .ok v=>if Gf v=Af then v else 0 | _=>0) else 0
theorem VB:∀(l:List UInt8) (i acc:Nat),BV Jn i l=Af→(∃u,Lib.parseUint10 acc l = .ok u)∨Lib.parseUint10 acc l = .range
 | [],_,acc,_=>.inl ⟨acc,rfl⟩
 | c::r,i,acc,h=>by
  simp only[BV,Aqu] at h;have hc:48≤c.toNat∧c.toNat≤57:=by have:=h.1;simp[Jn] at this;omega
  unfold Lib.parseUint10;rw[Arc hc]
  split
  ·exact .inr rfl
  ·split
   ·exact .inr rfl
   ·exact VB r _ _ h.2
theorem AdL {l:List UInt8}(hne:l≠[])(h:BV Jn 0 l=Af):(∃u,Lib.parseMag l = .ok u)∨Lib.parseMag l = .range:=by
 unfold Lib.parseMag;rw[AqM hne];exact VB l 0 0 h
theorem Ya {e:Lib.NumEnd Nat}(h:(∃u,e = .ok u)∨e = .range):(∃v,Lib.signless e = .ok v)∨Lib.signless e = .range:=by
 rcases h with⟨u,rfl⟩ | rfl
 ·unfold Lib.signless
  by_cases h:9223372036854775808≤u
  ·exact .inr (by simp[h])
  ·exact .inl ⟨_,by simp[h];rfl⟩
 ·exact .inr rfl
theorem AbF {e:Lib.NumEnd Nat}(h:(∃u,e = .ok u)∨e = .range):(∃v,Lib.signed e = .ok v)∨Lib.signed e = .range:=by
 rcases h with⟨u,rfl⟩ | rfl
 ·unfold Lib.signed
  by_cases h:9223372036854775808<u
  ·exact .inr (by simp[h])
  ·exact .inl ⟨_,by simp[h];rfl⟩
 ·exact .inr rfl
theorem AjG (h:Ib p=Af):(∃v,Lib.atoiAll p = .ok v∧-9223372036854775808≤v∧v≤9223372036854775807)∨Lib.atoiAll p = .range:=by
 have key:(∃v,Lib.atoiAll p = .ok v)∨Lib.atoiAll p = .range:=by
  simp only[Ib,Aqu,Aq6,AqD,Aqt] at h;obtain⟨⟨hne,_⟩,hall⟩:=h
  cases p with
  | nil=>simp[G8,IK] at hne
  | cons c r=>
   by_cases hc:c=45
   ·subst hc;have hd:G8 (45::r)=r:=by simp[G8,IK,BA]
    rw[hd] at hne hall;rw[Lib.atoiAll_minus];exact AbF (AdL hne hall)
   ·have hb : ¬ BA (c::r) 0=45:=by
     simp only[BA,Int.toNat_zero,List.getElem?_cons_zero,AqE];intro e;exact hc (UInt8.toNat_inj.1 (by simpa using(by omega:c.toNat=45)))
    have hd:G8 (c::r)=c::r:=by simp[G8,IK,hb]
    rw[hd] at hne hall;have ha:48≤c.toNat:=by
     simp only[BV,Aqu] at hall;have:=hall.1;simp[Jn] at this;omega
    rw[Lib.atoiAll_plain c r Ab Ab];exact Ya (AdL hne hall)
 rcases key with⟨v,hv⟩ | h
 ·exact .inl ⟨v,hv,Lib.atoiAll_bounds hv⟩
 ·exact .inr h
theorem Vu (m:Int)(h0:-9223372036854775808≤m)(h1:m≤9223372036854775807):Ae (Lib.itoa m)≤21:=Lib.itoa_length_le m h0 h1
def Qr (id:List UInt8)(m:Int):List UInt8:=id++[46]++Lib.itoa m
def DR (id:List UInt8)(m:Int):Int:=if KH id=Af then(if 0≤m∧m≤1000000000000 then(if (Ae (Qr id m))≤64 then 0 else 3) else 2) else 4
def Df (id:List UInt8)(m:Int):List UInt8:=if DR id m=0 then Qr id m else[]
def AhM (s:List UInt8):List UInt8:=s.take (Xq s 46).toNat
def Afo (s:List UInt8):List UInt8:=s.drop (Xq s 46+1).toNat
def AlT (s:List UInt8):Bool:=Ac (0≤Xq s 46)&&Ac (Cr (Afo s)=0)&&Ac (DR (AhM s) (BN (Afo s))=0)&&Ac (Df (AhM s) (BN (Afo s))=s)
set_option linter.unusedVariables false
def YL (c:Int):Option Bool:=
 Ad ((Ac (97≤c))&&(Ac (c≤122)))
def YN (c:Int):Option Bool:=
 Ad ((Ac (48≤c))&&(Ac (c≤57)))
def D3 (ha:Bool):Option Bool:=
 Ad ha
def TO (c:Int):Option Bool:=
 BB (YL c) λha=>By ha (D3 Af) (BB (YN c) λhb=>By hb (D3 Af) (By (Ac (65≤c)) (By (Ac (c≤90)) (D3 Af) (By (Ac (c=45)) (D3 Af) (By (Ac (c=95)) (D3 Af) (By (Ac (c=46)) (D3 Af) (By (Ac (c=58)) (D3 Af) (D3 (Ac (c=47)))))))) (By (Ac (c=45)) (D3 Af) (By (Ac (c=95)) (D3 Af) (By (Ac (c=46)) (D3 Af) (By (Ac (c=58)) (D3 Af) (D3 (Ac (c=47)))))))))
def DQ (n:Int):Option Bool:=
 Ad ((Ac ((-1000000000000)≤n))&&(Ac (n≤1000000000000)))
def LJ (hb:Aw)(ha:Int):Option (Stp Int (Out Bool Unit)):=
 By (Ac (ha<(hb.length:Int))) (Bc (CE ha (hb.length:Int))<|By (((Ac ((BA hb ha)<48))||(Ac (57<(BA hb ha))))) (Ad (.out (.ret Ah))) (Bc (BJ .i64 (ha+1))<|some (.next (ha+1)))) (Ad (.out (.go ())))
def LI :Option Bool:=
 Ad Af
def IH (F:Nat)(s ha:Aw):Option Bool:=
 Bc (imp (!(Ac (ha=([]:Aw)))) (CE 0 (ha.length:Int)))<|By (((Ac (ha=([]:Aw)))||((Ac ((BA ha 0)=48))&&(!Ac (s=([48]:Aw)))))) (Ad Ah) (BB (Cp (λσ=>LJ ha σ) F 0) (Cb λν=>LI ))
def Vk (F:Nat)(s:Aw):Option Bool:=
 Bc (imp (Ac (0<(Ae s:Int))) (CE 0 (Ae s:Int)))<|By (((Ac (0<(Ae s:Int)))&&(Ac ((BA s 0)=45)))) (Bc (Gk 1 (Ae s:Int))<|IH F s (Ap (Ao 1) s)) (IH F s s)
def G2 (c:Int):Option Bool:=
 Ad ((Ac (97≤c))&&(Ac (c≤122)))
def IU (c:Int):Option Bool:=
 Ad ((Ac (48≤c))&&(Ac (c≤57)))
def DC (ha:Bool):Option Bool:=
 Ad ha
def V0 (c:Int):Option Bool:=
 BB (G2 c) λha=>By ha (DC Af) (By (Ac (65≤c)) (By (Ac (c≤90)) (DC Af) (BB (IU c) λhb=>By hb (DC Af) (By (Ac (c=45)) (DC Af) (By (Ac (c=95)) (DC Af) (By (Ac (c=46)) (DC Af) (By (Ac (c=58)) (DC Af) (DC (Ac (c=47))))))))) (BB (IU c) λhd=>By hd (DC Af) (By (Ac (c=45)) (DC Af) (By (Ac (c=95)) (DC Af) (By (Ac (c=46)) (DC Af) (By (Ac (c=58)) (DC Af) (DC (Ac (c=47)))))))))
def MH (s:Aw)(ha:Int):Option (Stp Int (Out Bool Unit)):=
 By (Ac (ha<(Ae s:Int))) (Bc (CE ha (Ae s:Int))<|Bc (G2 (BA s ha)).isSome<|Bc (imp (!(ov (G2 (BA s ha)))) (IU (BA s ha)).isSome)<|By (((!(ov (G2 (BA s ha))))&&((!(ov (IU (BA s ha))))&&((!Ac ((BA s ha)=45))&&(!Ac ((BA s ha)=95)))))) (Ad (.out (.ret Ah))) (Bc (BJ .i64 (ha+1))<|some (.next (ha+1)))) (Ad (.out (.go ())))
def Pc :Option Bool:=
 Ad Af
def AcB (F:Nat)(s:Aw):Option Bool:=
 Bc (imp (!(Ac ((Ae s:Int)<1))) (imp (!(Ac (24<(Ae s:Int)))) (CE 0 (Ae s:Int))))<|Bc (imp (!(Ac ((Ae s:Int)<1))) (imp (!(Ac (24<(Ae s:Int)))) (G2 (BA s 0)).isSome))<|By (((Ac ((Ae s:Int)<1))||((Ac (24<(Ae s:Int)))||(!(ov (G2 (BA s 0))))))) (Ad Ah) (BB (Cp (λσ=>MH s σ) F 1) (Cb λν=>Pc ))
def Ru (s:Aw)(ha:Int):Option (Stp Int (Out Bool Unit)):=
 By (Ac (ha<(Ae s:Int))) (Bc (CE ha (Ae s:Int))<|BB (V0 (BA s ha)) λhb=>By (!hb) (Ad (.out (.ret Ah))) (Bc (BJ .i64 (ha+1))<|some (.next (ha+1)))) (Ad (.out (.go ())))
def TP :Option Bool:=
 Ad Af
def Als (F:Nat)(s:Aw):Option Bool:=
 By (((Ac ((Ae s:Int)<1))||(Ac (64<(Ae s:Int))))) (Ad Ah) (BB (Cp (λσ=>Ru s σ) F 0) (Cb λν=>TP ))
def OT (hb:Aw)(ha:Int):Option (Stp Int (Out Bool Unit)):=
 By (Ac (ha<(hb.length:Int))) (Bc (CE ha (hb.length:Int))<|By (((Ac ((BA hb ha)<48))||(Ac (57<(BA hb ha))))) (Ad (.out (.ret Ah))) (Bc (BJ .i64 (ha+1))<|some (.next (ha+1)))) (Ad (.out (.go ())))
def OS :Option Bool:=
 Ad Af
def KF (F:Nat)(ha:Aw):Option Bool:=
 Bc (imp (!(Ac ((ha.length:Int)=0))) (imp (Ac (1<(ha.length:Int))) (CE 0 (ha.length:Int))))<|By (((Ac ((ha.length:Int)=0))||((Ac (1<(ha.length:Int)))&&(Ac ((BA ha 0)=48))))) (Ad Ah) (BB (Cp (λσ=>OT ha σ) F 0) (Cb λν=>OS ))
def YC (F:Nat)(s:Aw):Option Bool:=
 Bc (imp (Ac (0<(Ae s:Int))) (CE 0 (Ae s:Int)))<|By (((Ac (0<(Ae s:Int)))&&(Ac ((BA s 0)=45)))) (Bc (Gk 1 (Ae s:Int))<|Bc (imp (Ac (0<(Ae (Ap (Ao 1) s):Int))) (CE 0 (Ae (Ap (Ao 1) s):Int)))<|By (((Ac (0<(Ae (Ap (Ao 1) s):Int)))&&(Ac ((BA (Ap (Ao 1) s) 0)=48)))) (Ad Ah) (KF F (Ap (Ao 1) s))) (KF F s)
def Ln (ha hb:Int):Option (Stp (Int×Int) (Out (Int×Int) Int)):=
 Bc (BJ .i64 (ha+1))<|some (.next (hb,ha+1))
def ED (s:Aw)(hb ha:Int):Option (Stp (Int×Int) (Out (Int×Int) Int)):=
 By (Ac (ha<(Ae s:Int))) (Bc (CE ha (Ae s:Int))<|By (Ac ((BA s ha)=45)) (Ln ha hb) (Bc (BJ .i64 (10*hb))<|Bc (BJ .u8 ((BA s ha)-48))<|Bc (BJ .i64 ((BA s ha)-48))<|Bc (BJ .i64 ((10*hb)+((BA s ha)-48)))<|By (Ac (1000000000000<((10*hb)+((BA s ha)-48)))) (Ad (.out (.ret (0,2)))) (Ln ha ((10*hb)+((BA s ha)-48))))) (Ad (.out (.go hb)))
def Lm (s:Aw)(ha:Int):Option (Int×Int):=
 By (((Ac (0<(Ae s:Int)))&&(Ac ((BA s 0)=45)))) (Bc (BJ .i64 (-ha))<|some ((-ha),0)) (Ad (ha,0))
def YB (F:Nat)(s:Aw):Option (Int×Int):=
 Bc (imp (Ac (0<(Ae s:Int))) (CE 0 (Ae s:Int)))<|BB (YC F s) λr4=>By (!r4) (Ad (0,1)) (BB (Cp (λσ=>ED s σ.1 σ.2) F (0,0)) (Cb λν=>Lm s ν))
def E3 (hb:Aw)(ha:Int):Option (Stp (Aw×Int) (Out Aw Aw)):=
 By (((!Ac (ha=0))||(Ac (hb=([]:Aw))))) (Bc (imp (Ac ((Int.tmod ha 10)<0)) (BJ .i64 (-(Int.tmod ha 10))))<|Bc (BJ .i64 ((bif Ac ((Int.tmod ha 10)<0) then -(Int.tmod ha 10) else Int.tmod ha 10)+1))<|Bc (Gk (bif Ac ((Int.tmod ha 10)<0) then -(Int.tmod ha 10) else Int.tmod ha 10) ((bif Ac ((Int.tmod ha 10)<0) then -(Int.tmod ha 10) else Int.tmod ha 10)+1))<|Bc (Gk ((bif Ac ((Int.tmod ha 10)<0) then -(Int.tmod ha 10) else Int.tmod ha 10)+1) (Ae ([48,49,50,51,52,53,54,55,56,57]:Aw):Int))<|Bc (BJ .i64 ((Ae (Aq (Ao ((bif Ac ((Int.tmod ha 10)<0) then -(Int.tmod ha 10) else Int.tmod ha 10)+1)-Ao (bif Ac ((Int.tmod ha 10)<0) then -(Int.tmod ha 10) else Int.tmod ha 10)) (Ap (Ao (bif Ac ((Int.tmod ha 10)<0) then -(Int.tmod ha 10) else Int.tmod ha 10)) ([48,49,50,51,52,53,54,55,56,57]:Aw))):Int)+(hb.length:Int)))<|Bc (BJ .i64 (Int.tdiv ha 10))<|some (.next ((Aq (Ao ((bif Ac ((Int.tmod ha 10)<0) then -(Int.tmod ha 10) else Int.tmod ha 10)+1)-Ao (bif Ac ((Int.tmod ha 10)<0) then -(Int.tmod ha 10) else Int.tmod ha 10)) (Ap (Ao (bif Ac ((Int.tmod ha 10)<0) then -(Int.tmod ha 10) else Int.tmod ha 10)) ([48,49,50,51,52,53,54,55,56,57]:Aw)))++hb,Int.tdiv ha 10))) (Ad (.out (.go hb)))
def Ka (n:Int)(ha:Aw):Option Aw:=
 By (Ac (n<0)) (Bc (BJ .i64 ((Ae ([45]:Aw):Int)+(ha.length:Int)))<|some (([45]:Aw)++ha)) (Ad ha)
def Vl (F:Nat)(n:Int):Option Aw:=
 BB (Cp (λσ=>E3 σ.1 σ.2) F (([]:Aw),n)) (Cb λν=>Ka n ν)
end Go.Proofs.YtiddaamglmmnaaaGreatDoor
namespace Go.Proofs.YtiddaamglmmnaaaGreatDoor.Q
open Go Go.RowKit
set_option linter.unusedVariables false
set_option linter.unusedSimpArgs false
set_option maxRecDepth 100000
set_option maxHeartbeats 4000000
variable{E:Fz→Prop}
theorem iSmall_w (c:Int)(r:Bool)(h:YL c=Ad r):Fn prog E 78 [rI .i32 c] [] (PO (rB r)):=en func78 ntmps78 Aa λw Z=>by unfold YL at h;exact AY Aa<|Be<|AM [(2,rB ((Br (97≤c))&&(Br (c≤122))))] [] (BD Aa<|wv Gs<|ms Aa<|Ba (Br (97≤c)) (λc1=>wo c1<|ms Aa<|Bt c1 LP<|EA Aa c1 Aa<|B9 Aa<|Ce c1) λc1=>CI c1 Aa<|wv (A9 c1)<|B9 Aa<|Ce c1)<|CM<|cs h▸Gd results78 ⟨Aa,Aa⟩
theorem iDigit_w (c:Int)(r:Bool)(h:YN c=Ad r):Fn prog E 79 [rI .i32 c] [] (PO (rB r)):=en func79 ntmps79 Aa λw Z=>by unfold YN at h;exact AY Aa<|Be<|AM [(2,rB ((Br (48≤c))&&(Br (c≤57))))] [] (BD Aa<|wv Gs<|ms Aa<|Ba (Br (48≤c)) (λc1=>wo c1<|ms Aa<|Bt c1 LP<|EA Aa c1 Aa<|B9 Aa<|Ce c1) λc1=>CI c1 Aa<|wv (A9 c1)<|B9 Aa<|Ce c1)<|CM<|cs h▸Gd results79 ⟨Aa,Aa⟩
theorem iLetter_w (c:Int)(r:Bool)(h:TO c=Ad r):Fn prog E 74 [rI .i32 c] [] (PO (rB r)):=en func74 ntmps74 Aa λw Z=>by unfold TO at h;exact AY Aa<|Be<|D2 (S:=Bool×Unit) (λσ=>D3 σ.1=Ad r) (λσ=>[(2,rB σ.1)]) (λσ=>[]) (BD Aa<|ob h λhm hn ho=>CS call78 (iSmall_w c hm hn)<|ms Aa<|bz ho (λha hp=>CI ha Aa<|wv (Ax ha)<|ms Aa<|Ea Aa<|wu<|wu<|vz Aa<|wv (Ax Aa)<|ms Aa<|Ea Aa<|wv (Ax Aa)<|ms Aa<|Ea Aa<|wv (Ax Aa)<|ms Aa<|Ea Aa<|wv (Ax Aa)<|ms Aa<|Ea Aa<|wv (Ax Aa)<|ms Aa<|Ea Aa<|wv (Ax Aa)<|B9 Aa<|AG (AA (Af,()) hp (AP Aa) sN)) λha hq=>wo ha<|ms Aa<|wo ha<|ob hq λhr hs ht=>CS call79 (iDigit_w c hr hs)<|D7 Aa ha Aa<|ms Aa<|bz ht (λc53 hu=>CI c53 Aa<|wu<|wu<|wf c53<|wv (Ax c53)<|ms Aa<|Ea Aa<|wv (Ax Aa)<|ms Aa<|Ea Aa<|wv (Ax Aa)<|ms Aa<|Ea Aa<|wv (Ax Aa)<|ms Aa<|Ea Aa<|wv (Ax Aa)<|ms Aa<|Ea Aa<|wv (Ax Aa)<|B9 Aa<|AG (AA (Af,()) hu (AP Aa) sN)) λc53 hw=>wo c53<|ms Aa<|Bt c53 Gs<|wo c53<|ms Aa<|bz hw (λhb hx=>wo hb<|ms Aa<|Bt hb LP<|wo c53<|EA Aa hb Aa<|D7 Aa c53 Aa<|ms Aa<|bz hx (λhd hy=>CI hd Aa<|wv (Ax hd)<|ms Aa<|Ea Aa<|wv (Ax Aa)<|ms Aa<|Ea Aa<|wv (Ax Aa)<|ms Aa<|Ea Aa<|wv (Ax Aa)<|ms Aa<|Ea Aa<|wv (Ax Aa)<|B9 Aa<|AG (AA (Af,()) hy (AP Aa) sN)) λhd hz=>wo hd<|ms Aa<|Bt hd Bx<|D7 Aa hd Aa<|ms Aa<|bz hz (λhe h0=>CI he Aa<|wv (Ax he)<|ms Aa<|Ea Aa<|wv (Ax Aa)<|ms Aa<|Ea Aa<|wv (Ax Aa)<|ms Aa<|Ea Aa<|wv (Ax Aa)<|B9 Aa<|AG (AA (Af,()) h0 (AP Aa) sN)) λhe h1=>wo he<|ms Aa<|Bt he Bx<|D7 Aa he Aa<|ms Aa<|bz h1 (λhf h2=>by exact CI hf Aa<|wv (Ax hf)<|ms Aa<|Ea Aa<|wv (Ax Aa)<|ms Aa<|Ea Aa<|wv (Ax Aa)<|B9 Aa<|AG (AA (Af,()) h2 (AP Aa) sN)) λhf h3=>by exact wo hf<|ms Aa<|Bt hf Bx<|D7 Aa hf Aa<|ms Aa<|bz h3 (λhg h4=>CI hg Aa<|wv (Ax hg)<|ms Aa<|Ea Aa<|wv (Ax Aa)<|B9 Aa<|AG (AA (Af,()) h4 (AP Aa) sN)) λhg h5=>wo hg<|ms Aa<|Bt hg Bx<|D7 Aa hg Aa<|ms Aa<|bz h5 (λhh h6=>CI hh Aa<|wv (Ax hh)<|B9 Aa<|AG (AA (Af,()) h6 (AP Aa) sN)) λhh h7=>wo hh<|ms Aa<|Bt hh Bx<|D7 Aa hh Aa<|B9 Aa<|AG (AA (Br (c=47),()) h7 (AP Aa) sN)) λhb h8=>CI hb Aa<|Bt c53 (A9 hb)<|D7 Aa c53 Aa<|ms Aa<|HP Aa<|ms Aa<|HP Aa<|wv Bx<|wv (A9 Aa)<|ms Aa<|bz h8 (λhi h9=>CI hi Aa<|wv (Ax hi)<|ms Aa<|Ea Aa<|wv (Ax Aa)<|ms Aa<|Ea Aa<|wv (Ax Aa)<|ms Aa<|Ea Aa<|wv (Ax Aa)<|B9 Aa<|AG (AA (Af,()) h9 (AP Aa) sN)) λhi hA=>wo hi<|ms Aa<|Bt hi Bx<|D7 Aa hi Aa<|ms Aa<|bz hA (λhj hB=>by exact CI hj Aa<|wv (Ax hj)<|ms Aa<|Ea Aa<|wv (Ax Aa)<|ms Aa<|Ea Aa<|wv (Ax Aa)<|B9 Aa<|AG (AA (Af,()) hB (AP Aa) sN)) λhj hC=>by exact wo hj<|ms Aa<|Bt hj Bx<|D7 Aa hj Aa<|ms Aa<|bz hC (λc80 hD=>CI c80 Aa<|wv (Ax c80)<|ms Aa<|Ea Aa<|wv (Ax Aa)<|B9 Aa<|AG (AA (Af,()) hD (AP Aa) sN)) λc80 hE=>wo c80<|ms Aa<|Bt c80 Bx<|D7 Aa c80 Aa<|ms Aa<|bz hE (λhk hG=>CI hk Aa<|wv (Ax hk)<|B9 Aa<|AG (AA (Af,()) hG (AP Aa) sN)) λhk hH=>wo hk<|ms Aa<|Bt hk Bx<|D7 Aa hk Aa<|B9 Aa<|AG (AA (Br (c=47),()) hH (AP Aa) sN))<|by rintro⟨hI,⟨⟩⟩ hl;refine EM ?_;exact have hl:D3 hI=Ad r:=hl;by unfold D3 at hl;exact CM<|cs hl▸Gd results74 ⟨Aa,Aa⟩
theorem nValid_w (n:Int)(r:Bool)(h:DQ n=Ad r):Fn prog E 107 [Bn n] [] (PO (rB r)):=en func107 ntmps107 Aa λw Z=>by unfold DQ at h;exact AY Aa<|Be<|AM [(2,rB ((Br ((-1000000000000)≤n))&&(Br (n≤1000000000000))))] [] (BD Aa<|wv LP<|ms Aa<|Ba (Br ((-1000000000000)≤n)) (λc1=>wo c1<|ms Aa<|Bt c1 LP<|EA Aa c1 Aa<|B9 Aa<|Ce c1) λc1=>CI c1 Aa<|wv (A9 c1)<|B9 Aa<|Ce c1)<|CM<|cs h▸Gd results107 ⟨Aa,Aa⟩
theorem nDecimal_w (F:Nat)(s:Aw)(r:Bool)(h:Vk F s=Ad r):Fn prog E 105 [rS s] [] (PO (rB r)):=en func105 ntmps105 Aa λw Z=>AY Aa<|Ca Aa<|Cz<|ck h λg1 h2=>AM [(0,rS s),(3,rS s),(13,rB ((Br (0<(Ae s:Int)))&&(Br ((BA s 0)=45))))] [] (BD Aa<|wv B6<|wv Cw<|ms Aa<|Ba (Br (0<(Ae s:Int))) (λc3=>wo c3<|ms Aa<|Bt c3 (B0 (C3 g1 c3))<|Bt c3 Bx<|EA Aa c3 Aa<|AD<|Ce c3) λc3=>CI c3 Aa<|wv (A9 c3)<|AD<|Ce c3)<|SA (S:=Aw×Unit) (λσ=>IH F s σ.1=Ad r) (λσ=>[(0,rS s),(3,rS σ.1)]) (λσ=>[]) (BG h2 (λhl hm=>BD Aa<|ck hm λg15 hn=>wv (Gx GB Aa Aa g15)<|B9 Aa<|AG (AA (Ap (CV 1) s,()) hn (AP Aa) sN)) λhl ho=>Cf<|AG (AA (s,()) ho (AP Aa) sN))<|by rintro⟨ha,⟨⟩⟩ hg;refine EM ?_;exact have hg:IH F s ha=Ad r:=hg;Bl<|ck hg λg19 hp=>AM [(3,rS ha),(26,rB ((Br (ha=([]:Aw)))||((Br ((BA ha 0)=48))&&(!Br (s=([48]:Aw))))))] [] (BD Aa<|wv Es<|ms Aa<|Ba (Br (ha=([]:Aw))) (λc21=>CI c21 Aa<|wu<|wu<|wf c21<|wv (Ax c21)<|AD<|Ce c21) λc21=>wo c21<|ms Aa<|Bt c21 (B0 (CA g19 c21))<|Bt c21 Bx<|wo c21<|ms Aa<|Ba (Br ((BA ha 0)=48)) (λhd=>wo hd<|ms Aa<|Bt hd (DN Aa Aa)<|wo c21<|EA Aa hd Aa<|D7 Aa c21 Aa<|AD<|Ce (CU c21 hd)) λhd=>CI hd Aa<|Bt c21 (A9 hd)<|D7 Aa c21 Aa<|AD<|Ce (CU c21 hd))<|BG hp (λhq hr=>Bz Aa<|cs hr▸Gd results105 ⟨Aa,Aa⟩) λhq hs=>B5<|AY Aa<|wv B6<|CW Aa<|AL<|ob hs λht hu hj=>B8 (V:=Unit×Unit) 0 (λσ=>Cp (λσ=>LJ ha σ) σ.1 σ.2.1=Ad ht) (λσ=>[(3,rS ha),(28,Bn (ha.length:Int)),(29,Bn σ.2.1)]) (λσ=>[]) (λσ=>σ.1) (F,0,()) hu (AP Aa) sN (λσ=>LI =Ad r) (λσ=>[]) (λσ=>[]) (by rintro⟨hC,he,⟨⟩⟩ hw;refine EM ?_;obtain⟨hx,rfl,hy,hh,hi⟩:=C5 hw;have hh:LJ ha he=Ad hy:=hh;exact AT<|wv BS<|Cz<|BG hh (λhz h0=>B5<|AL<|AY Aa<|Be<|ck h0 λhk h1=>AM [(3,rS ha),(28,Bn (ha.length:Int)),(29,Bn he),(41,rB ((Br ((BA ha he)<48))||(Br (57<(BA ha he)))))] [] (BD Aa<|wv (B0 hk)<|wv BS<|ms Aa<|Ba (Br ((BA ha he)<48)) (λhb=>CI hb Aa<|wv (Ax hb)<|AD<|Ce hb) λhb=>wo hb<|ms Aa<|wo hb<|ms Aa<|Bt hb (B0 hk)<|Bt hb Cw<|D7 Aa hb Aa<|AD<|Ce hb)<|BG h1 (λh3 h4=>Cy Aa<|BW<|A5<|Bj<|have h5:=BK h4 hi hj;BW<|cs h5▸Gd results105 ⟨Aa,Aa⟩) λh3 h6=>Cf<|DB<|AU<|ck h6 λh7 h8=>wv (Bg h7)<|B9 Aa<|have h9:=Bp h8 hi;AG (AA (hx,he+1,()) ⟨h9,Aqw _⟩ (AP Aa) sN)) λhz hA=>BE<|A3<|have hB:=Ci hA hi hj;A3 (Bk (AA ((),()) hB Hj.nil sN)))<|by rintro⟨⟨⟩,⟨⟩⟩ hf;refine Hb ?_;exact have hf:LI =Ad r:=hf;by unfold LI at hf;exact Bo<|CL<|Cy Aa<|cs hf▸Gd results105 ⟨Aa,Aa⟩
theorem Sl (c:Int)(r:Bool)(h:G2 c=Ad r):Fn prog E 114 [rI .u8 c] [] (PO (rB r)):=en func114 ntmps114 Aa λw Z=>by unfold G2 at h;exact AY Aa<|Be<|AM [(2,rB ((Br (97≤c))&&(Br (c≤122))))] [] (BD Aa<|wv Gs<|ms Aa<|Ba (Br (97≤c)) (λc1=>wo c1<|ms Aa<|Bt c1 LP<|EA Aa c1 Aa<|B9 Aa<|Ce c1) λc1=>CI c1 Aa<|wv (A9 c1)<|B9 Aa<|Ce c1)<|CM<|cs h▸Gd results114 ⟨Aa,Aa⟩
theorem Sm (c:Int)(r:Bool)(h:IU c=Ad r):Fn prog E 115 [rI .u8 c] [] (PO (rB r)):=en func115 ntmps115 Aa λw Z=>by unfold IU at h;exact AY Aa<|Be<|AM [(2,rB ((Br (48≤c))&&(Br (c≤57))))] [] (BD Aa<|wv Gs<|ms Aa<|Ba (Br (48≤c)) (λc1=>wo c1<|ms Aa<|Bt c1 LP<|EA Aa c1 Aa<|B9 Aa<|Ce c1) λc1=>CI c1 Aa<|wv (A9 c1)<|B9 Aa<|Ce c1)<|CM<|cs h▸Gd results115 ⟨Aa,Aa⟩
theorem AiP (c:Int)(r:Bool)(h:V0 c=Ad r):Fn prog E 96 [rI .u8 c] [] (PO (rB r)):=en func96 ntmps96 Aa λw Z=>by unfold V0 at h;exact AY Aa<|Be<|D2 (S:=Bool×Unit) (λσ=>DC σ.1=Ad r) (λσ=>[(2,rB σ.1)]) (λσ=>[]) (BD Aa<|ob h λhn ho hp=>CS call114 (Sl c hn ho)<|ms Aa<|bz hp (λc53 hq=>CI c53 Aa<|wu<|wu<|wf c53<|wv (Ax c53)<|ms Aa<|Ea Aa<|wv (Ax Aa)<|ms Aa<|Ea Aa<|wv (Ax Aa)<|ms Aa<|Ea Aa<|wv (Ax Aa)<|ms Aa<|Ea Aa<|wv (Ax Aa)<|ms Aa<|Ea Aa<|wv (Ax Aa)<|ms Aa<|Ea Aa<|wv (Ax Aa)<|B9 Aa<|AG (AA (Af,()) hq (AP Aa) sN)) λc53 hr=>wo c53<|ms Aa<|Bt c53 Gs<|wo c53<|ms Aa<|bz hr (λha hs=>wo ha<|ms Aa<|Bt ha LP<|wo c53<|EA Aa ha Aa<|D7 Aa c53 Aa<|ms Aa<|bz hs (λhb ht=>CI hb Aa<|wv (Ax hb)<|ms Aa<|Ea Aa<|wv (Ax Aa)<|ms Aa<|Ea Aa<|wv (Ax Aa)<|ms Aa<|Ea Aa<|wv (Ax Aa)<|ms Aa<|Ea Aa<|wv (Ax Aa)<|ms Aa<|Ea Aa<|wv (Ax Aa)<|ms Aa<|by exact AD<|AG (AA (Af,()) ht (AP Aa) sN)) λhb hu=>wo hb<|ms Aa<|wo hb<|ob hu λhw hx hy=>CS call115 (Sm c hw hx)<|D7 Aa hb Aa<|ms Aa<|bz hy (λhd hz=>CI hd Aa<|wv (Ax hd)<|ms Aa<|Ea Aa<|wv (Ax Aa)<|ms Aa<|Ea Aa<|wv (Ax Aa)<|ms Aa<|Ea Aa<|wv (Ax Aa)<|ms Aa<|Ea Aa<|wv (Ax Aa)<|B9 Aa<|AG (AA (Af,()) hz (AP Aa) sN)) λhd h0=>wo hd<|ms Aa<|Bt hd Bx<|D7 Aa hd Aa<|ms Aa<|bz h0 (λhe h1=>CI he Aa<|wv (Ax he)<|ms Aa<|Ea Aa<|wv (Ax Aa)<|ms Aa<|Ea Aa<|wv (Ax Aa)<|ms Aa<|Ea Aa<|wv (Ax Aa)<|B9 Aa<|AG (AA (Af,()) h1 (AP Aa) sN)) λhe h2=>wo he<|ms Aa<|Bt he Bx<|D7 Aa he Aa<|ms Aa<|bz h2 (λhf h3=>by exact CI hf Aa<|wv (Ax hf)<|ms Aa<|Ea Aa<|wv (Ax Aa)<|ms Aa<|Ea Aa<|wv (Ax Aa)<|B9 Aa<|AG (AA (Af,()) h3 (AP Aa) sN)) λhf h4=>by exact wo hf<|ms Aa<|Bt hf Bx<|D7 Aa hf Aa<|ms Aa<|bz h4 (λhg h5=>CI hg Aa<|wv (Ax hg)<|ms Aa<|Ea Aa<|wv (Ax Aa)<|B9 Aa<|AG (AA (Af,()) h5 (AP Aa) sN)) λhg h6=>wo hg<|ms Aa<|Bt hg Bx<|D7 Aa hg Aa<|ms Aa<|bz h6 (λc76 h7=>CI c76 Aa<|wv (Ax c76)<|B9 Aa<|AG (AA (Af,()) h7 (AP Aa) sN)) λc76 h8=>wo c76<|ms Aa<|Bt c76 Bx<|D7 Aa c76 Aa<|B9 Aa<|AG (AA (Br (c=47),()) h8 (AP Aa) sN)) λha h9=>CI ha Aa<|Bt c53 (A9 ha)<|D7 Aa c53 Aa<|ms Aa<|HP Aa<|ms Aa<|HP Aa<|ob h9 λhA hB hC=>CS call115 (Sm c hA hB)<|wv (A9 Aa)<|ms Aa<|bz hC (λhh hD=>CI hh Aa<|wv (Ax hh)<|ms Aa<|Ea Aa<|wv (Ax Aa)<|ms Aa<|Ea Aa<|wv (Ax Aa)<|ms Aa<|Ea Aa<|wv (Ax Aa)<|ms Aa<|Ea Aa<|wv (Ax Aa)<|B9 Aa<|AG (AA (Af,()) hD (AP Aa) sN)) λhh hE=>wo hh<|ms Aa<|Bt hh Bx<|D7 Aa hh Aa<|ms Aa<|bz hE (λhi hG=>CI hi Aa<|wv (Ax hi)<|ms Aa<|Ea Aa<|wv (Ax Aa)<|ms Aa<|Ea Aa<|wv (Ax Aa)<|ms Aa<|Ea Aa<|wv (Ax Aa)<|B9 Aa<|AG (AA (Af,()) hG (AP Aa) sN)) λhi hH=>wo hi<|ms Aa<|Bt hi Bx<|D7 Aa hi Aa<|ms Aa<|bz hH (λhj hI=>by exact CI hj Aa<|wv (Ax hj)<|ms Aa<|Ea Aa<|wv (Ax Aa)<|ms Aa<|Ea Aa<|wv (Ax Aa)<|B9 Aa<|AG (AA (Af,()) hI (AP Aa) sN)) λhj hJ=>by exact wo hj<|ms Aa<|Bt hj Bx<|D7 Aa hj Aa<|ms Aa<|bz hJ (λhk hK=>CI hk Aa<|wv (Ax hk)<|ms Aa<|Ea Aa<|wv (Ax Aa)<|B9 Aa<|AG (AA (Af,()) hK (AP Aa) sN)) λhk hL=>wo hk<|ms Aa<|Bt hk Bx<|D7 Aa hk Aa<|ms Aa<|bz hL (λhl hN=>CI hl Aa<|wv (Ax hl)<|B9 Aa<|AG (AA (Af,()) hN (AP Aa) sN)) λhl hO=>wo hl<|ms Aa<|Bt hl Bx<|D7 Aa hl Aa<|B9 Aa<|AG (AA (Br (c=47),()) hO (AP Aa) sN))<|by rintro⟨hP,⟨⟩⟩ hm;refine EM ?_;exact have hm:DC hP=Ad r:=hm;by unfold DC at hm;exact CM<|cs hm▸Gd results96 ⟨Aa,Aa⟩
theorem AiQ (F:Nat)(s:Aw)(r:Bool)(h:AcB F s=Ad r):Fn prog E 83 [rS s] [] (PO (rB r)):=en func83 ntmps83 Aa λw Z=>AY Aa<|Cz<|ck h λg1 h2=>ck h2 λg3 h4=>AM [(0,rS s),(17,rB ((Br ((Ae s:Int)<1))||((Br (24<(Ae s:Int)))||(!(ov (G2 (BA s 0)))))))] [] (BD Aa<|wv B6<|wv BS<|ms Aa<|Ba (Br ((Ae s:Int)<1)) (λc5=>CI c5 Aa<|wv (Ax c5)<|ms Aa<|Ea Aa<|wv (Ax Aa)<|AD<|Ce c5) λc5=>wo c5<|ms Aa<|Bt c5 B6<|Bt c5 Cw<|D7 Aa c5 Aa<|ms Aa<|Ba (Br (24<(Ae s:Int))) (λc6=>CI c6 Aa<|wv (Ax c6)<|AD<|Ce (CU c5 c6)) λc6=>wo c6<|ms Aa<|Bt c6 (B0 (CA (CA g1 c5) c6))<|wo c6<|CS call114 (Sl (BA s 0) (ov (G2 (BA s 0))) (GR (CA (CA g3 c5) c6)))<|Bt c6 BO<|D7 Aa c6 Aa<|AD<|Ce (CU c5 c6))<|BG h4 (λc7 h8=>Bz Aa<|cs h8▸Gd results83 ⟨Aa,Aa⟩) λc7 h9=>B5<|AY Aa<|Be<|AL<|ob h9 λhj hk hi=>B8 (V:=Unit×Unit) 0 (λσ=>Cp (λσ=>MH s σ) σ.1 σ.2.1=Ad hj) (λσ=>[(0,rS s),(3,Bn σ.2.1)]) (λσ=>[]) (λσ=>σ.1) (F,1,()) hk (AP Aa) sN (λσ=>Pc =Ad r) (λσ=>[]) (λσ=>[]) (by rintro⟨h7,ha,⟨⟩⟩ hl;refine EM ?_;obtain⟨hm,rfl,hn,hg,hh⟩:=C5 hl;have hg:MH s ha=Ad hn:=hg;exact Bl<|AY Aa<|wv B6<|wv BS<|Be<|BG hg (λho hp=>B5<|AL<|ck hp λhe hq=>ck hq λhr hs=>ck hs λht hu=>AM [(0,rS s),(3,Bn ha),(47,rB ((!(ov (G2 (BA s ha))))&&((!(ov (IU (BA s ha))))&&((!Br ((BA s ha)=45))&&(!Br ((BA s ha)=95))))))] [] (BD Aa<|wv (B0 he)<|CS call114 (Sl (BA s ha) (ov (G2 (BA s ha))) (GR hr))<|wv BO<|ms Aa<|Ba (!(ov (G2 (BA s ha)))) (λhb=>wo hb<|ms Aa<|wo hb<|ms Aa<|Bt hb (B0 he)<|wo hb<|CS call115 (Sm (BA s ha) (ov (IU (BA s ha))) (GR (C3 ht hb)))<|Bt hb BO<|EA Aa hb Aa<|ms Aa<|Ba (!(ov (IU (BA s ha)))) (λhd=>wo hd<|ms Aa<|wo hd<|ms Aa<|Bt hd (B0 he)<|Bt hd BU<|EA Aa hd Aa<|ms Aa<|Ba (!Br ((BA s ha)=45)) (λc80=>by exact wo c80<|ms Aa<|wo c80<|ms Aa<|Bt c80 (B0 he)<|Bt c80 BU<|EA Aa c80 Aa<|AD<|Ce (CU hb (CU hd c80))) λc80=>by exact CI c80 Aa<|wv (A9 c80)<|AD<|Ce (CU hb (CU hd c80))) λhd=>CI hd Aa<|wv (A9 hd)<|ms Aa<|Ea Aa<|wv (A9 Aa)<|AD<|by exact Ce (CU hb hd)) λhb=>CI hb Aa<|wv (A9 hb)<|ms Aa<|Ea Aa<|wv (A9 Aa)<|ms Aa<|Ea Aa<|wv (A9 Aa)<|AD<|Ce hb)<|BG hu (λhw hx=>Cy Aa<|BW<|A5<|Bj<|have hy:=BK hx hh hi;BW<|cs hy▸Gd results83 ⟨Aa,Aa⟩) λhw hz=>Cf<|DB<|BD Aa<|ck hz λh0 h1=>wv (Bg h0)<|B9 Aa<|have h3:=Bp h1 hh;AG (AA (hm,ha+1,()) ⟨h3,Aqw _⟩ (AP Aa) sN)) λho h5=>BE<|A3<|have h6:=Ci h5 hh hi;A3 (Bk (AA ((),()) h6 Hj.nil sN)))<|by rintro⟨⟨⟩,⟨⟩⟩ hf;refine Hb ?_;exact have hf:Pc =Ad r:=hf;by unfold Pc at hf;exact Bo<|CL<|Cy Aa<|cs hf▸Gd results83 ⟨Aa,Aa⟩
theorem Ane (F:Nat)(s:Aw)(r:Bool)(h:Als F s=Ad r):Fn prog E 67 [rS s] [] (PO (rB r)):=en func67 ntmps67 Aa λw Z=>by unfold Als at h;exact AY Aa<|Cz<|AM [(0,rS s),(11,rB ((Br ((Ae s:Int)<1))||(Br (64<(Ae s:Int)))))] [] (BD Aa<|wv B6<|wv BS<|ms Aa<|Ba (Br ((Ae s:Int)<1)) (λc1=>CI c1 Aa<|wv (Ax c1)<|AD<|Ce c1) λc1=>wo c1<|ms Aa<|Bt c1 B6<|Bt c1 Cw<|D7 Aa c1 Aa<|AD<|Ce c1)<|BG h (λc2 h3=>Bz Aa<|cs h3▸Gd results67 ⟨Aa,Aa⟩) λc2 h4=>B5<|AY Aa<|Be<|AL<|ob h4 λhg hh hf=>B8 (V:=Unit×Unit) 0 (λσ=>Cp (λσ=>Ru s σ) σ.1 σ.2.1=Ad hg) (λσ=>[(0,rS s),(3,Bn σ.2.1)]) (λσ=>[]) (λσ=>σ.1) (F,0,()) hh (AP Aa) sN (λσ=>TP =Ad r) (λσ=>[]) (λσ=>[]) (by rintro⟨h1,hb,⟨⟩⟩ hi;refine EM ?_;obtain⟨hj,rfl,hk,hd,he⟩:=C5 hi;have hd:Ru s hb=Ad hk:=hd;exact Bl<|AY Aa<|wv B6<|wv BS<|Be<|BG hd (λc53 hl=>B5<|AL<|AY Aa<|ck hl λhm hn=>wv (B0 hm)<|ob hn λho hp hq=>CS call96 (AiP (BA s hb) ho hp)<|wv BO<|Be<|BG hq (λhr hs=>Cy Aa<|BW<|A5<|Bj<|have ht:=BK hs he hf;BW<|cs ht▸Gd results67 ⟨Aa,Aa⟩) λhr hu=>Cf<|DB<|BD Aa<|ck hu λhw hx=>wv (Bg hw)<|B9 Aa<|have hy:=Bp hx he;AG (AA (hj,hb+1,()) ⟨hy,Aqw _⟩ (AP Aa) sN)) λc53 hz=>BE<|A3<|have h0:=Ci hz he hf;A3 (Bk (AA ((),()) h0 Hj.nil sN)))<|by rintro⟨⟨⟩,⟨⟩⟩ ha;refine Hb ?_;exact have ha:TP =Ad r:=ha;by unfold TP at ha;exact Bo<|CL<|Cy Aa<|cs ha▸Gd results67 ⟨Aa,Aa⟩
theorem Ait (F:Nat)(s:Aw)(r:Bool)(h:YC F s=Ad r):Fn prog E 120 [rS s] [] (PO (rB r)):=en func120 ntmps120 Aa λw Z=>AY Aa<|Ca Aa<|Cz<|ck h λg1 h2=>AM [(3,rS s),(13,rB ((Br (0<(Ae s:Int)))&&(Br ((BA s 0)=45))))] [] (BD Aa<|wv B6<|wv Cw<|ms Aa<|Ba (Br (0<(Ae s:Int))) (λc3=>wo c3<|ms Aa<|Bt c3 (B0 (C3 g1 c3))<|Bt c3 Bx<|EA Aa c3 Aa<|AD<|Ce c3) λc3=>CI c3 Aa<|wv (A9 c3)<|AD<|Ce c3)<|SA (S:=Aw×Unit) (λσ=>KF F σ.1=Ad r) (λσ=>[(3,rS σ.1)]) (λσ=>[]) (BG h2 (λhn ho=>AY Aa<|ck ho λg18 hp=>wv (Gx GB Aa Aa g18)<|CW Aa<|ck hp λhq hr=>AM [(3,rS (Ap (CV 1) s)),(23,rB ((Br (0<(Ae (Ap (CV 1) s):Int)))&&(Br ((BA (Ap (CV 1) s) 0)=48))))] [] (BD Aa<|wv B6<|wv Cw<|ms Aa<|Ba (Br (0<(Ae (Ap (CV 1) s):Int))) (λhd=>wo hd<|ms Aa<|Bt hd (B0 (C3 hq hd))<|Bt hd Bx<|EA Aa hd Aa<|AD<|Ce hd) λhd=>CI hd Aa<|wv (A9 hd)<|AD<|Ce hd)<|BG hr (λhs ht=>Bz Aa<|cs ht▸Gd Adb ⟨Aa,Aa⟩) λhs hu=>Cf<|AG (AA (Ap (CV 1) s,()) hu (AP Aa) sN)) λhn hw=>Cf<|AG (AA (s,()) hw (AP Aa) sN))<|by rintro⟨ha,⟨⟩⟩ hi;refine EM ?_;exact have hi:KF F ha=Ad r:=hi;Bl<|ck hi λhx hy=>AM [(3,rS ha),(36,rB ((Br ((ha.length:Int)=0))||((Br (1<(ha.length:Int)))&&(Br ((BA ha 0)=48)))))] [] (BD Aa<|wv B6<|wv Bx<|ms Aa<|Ba (Br ((ha.length:Int)=0)) (λhb=>CI hb Aa<|wu<|wu<|wu<|wf hb<|wv (Ax hb)<|AD<|Ce hb) λhb=>wo hb<|ms Aa<|Bt hb B6<|Bt hb Cw<|wo hb<|ms Aa<|Ba (Br (1<(ha.length:Int))) (λhe=>wo he<|ms Aa<|Bt he (B0 (C3 (CA hx hb) he))<|Bt he Bx<|wo hb<|EA Aa he Aa<|D7 Aa hb Aa<|AD<|Ce (CU hb he)) λhe=>CI he Aa<|Bt hb (A9 he)<|D7 Aa hb Aa<|AD<|Ce (CU hb he))<|BG hy (λhz h0=>Bz Aa<|cs h0▸Gd Adb ⟨Aa,Aa⟩) λhz h1=>B5<|AY Aa<|wv B6<|CW Aa<|AL<|ob h1 λh3 h4 hl=>B8 (V:=Unit×Unit) 0 (λσ=>Cp (λσ=>OT ha σ) σ.1 σ.2.1=Ad h3) (λσ=>[(3,rS ha),(38,Bn (ha.length:Int)),(39,Bn σ.2.1)]) (λσ=>[]) (λσ=>σ.1) (F,0,()) h4 (AP Aa) sN (λσ=>OS =Ad r) (λσ=>[]) (λσ=>[]) (by rintro⟨hL,hg,⟨⟩⟩ h5;refine EM ?_;obtain⟨h6,rfl,h7,hj,hk⟩:=C5 h5;have hj:OT ha hg=Ad h7:=hj;exact AT<|wv BS<|Cz<|BG hj (λh8 h9=>B5<|AL<|AY Aa<|Be<|ck h9 λhm hA=>AM [(3,rS ha),(38,Bn (ha.length:Int)),(39,Bn hg),(51,rB ((Br ((BA ha hg)<48))||(Br (57<(BA ha hg)))))] [] (BD Aa<|wv (B0 hm)<|wv BS<|ms Aa<|Ba (Br ((BA ha hg)<48)) (λhf=>CI hf Aa<|wv (Ax hf)<|AD<|Ce hf) λhf=>wo hf<|ms Aa<|wo hf<|ms Aa<|Bt hf (B0 hm)<|Bt hf Cw<|D7 Aa hf Aa<|AD<|Ce hf)<|BG hA (λhB hC=>Cy Aa<|BW<|A5<|Bj<|have hD:=BK hC hk hl;BW<|cs hD▸Gd Adb ⟨Aa,Aa⟩) λhB hE=>Cf<|DB<|AU<|ck hE λhG hH=>wv (Bg hG)<|B9 Aa<|have hI:=Bp hH hk;AG (AA (h6,hg+1,()) ⟨hI,Aqw _⟩ (AP Aa) sN)) λh8 hJ=>BE<|A3<|have hK:=Ci hJ hk hl;A3 (Bk (AA ((),()) hK Hj.nil sN)))<|by rintro⟨⟨⟩,⟨⟩⟩ hh;refine Hb ?_;exact have hh:OS =Ad r:=hh;by unfold OS at hh;exact Bo<|CL<|Cy Aa<|cs hh▸Gd Adb ⟨Aa,Aa⟩
theorem Af9 (F:Nat)(s:Aw)(r:Int×Int)(h:YB F s=Ad r):Fn prog E 91 [rS s] [] (PO (Du [Bn r.1,Bn r.2])):=en func91 ntmps91 Aa λw Z=>AY Aa<|Be<|ck h λg1 h2=>AM [(0,rS s),(4,rB ((Br (0<(Ae s:Int)))&&(Br ((BA s 0)=45))))] [] (BD Aa<|wv B6<|wv Cw<|ms Aa<|Ba (Br (0<(Ae s:Int))) (λc3=>wo c3<|ms Aa<|Bt c3 (B0 (C3 g1 c3))<|Bt c3 Bx<|EA Aa c3 Aa<|B9 Aa<|Ce c3) λc3=>CI c3 Aa<|wv (A9 c3)<|B9 Aa<|Ce c3)<|Bl<|AY Aa<|ob h2 λr4 e6 h5=>CS call120 (Ait F s r4 e6)<|wv BO<|Be<|BG h5 (λc7 h8=>Bz Aa<|cs h8▸Ki AjX ⟨Aa,Aa⟩) λc7 h9=>BQ<|AY Aa<|BH Aa<|wv B6<|CW Aa<|AL<|ob h9 λhl hm hi=>B8 (V:=Int×Unit) 0 (λσ=>Cp (λσ=>ED s σ.1 σ.2) σ.1 σ.2.1=Ad hl) (λσ=>[(0,rS s),(4,rB ((Br (0<(Ae s:Int)))&&(Br ((BA s 0)=45)))),(5,Bn σ.2.1.1),(19,Bn (Ae s:Int)),(20,Bn σ.2.1.2)]) (λσ=>[]) (λσ=>σ.1) (F,(0,0),()) hm (AP Aa) sN (λσ=>Lm s σ.1=Ad r) (λσ=>[(4,rB ((Br (0<(Ae s:Int)))&&(Br ((BA s 0)=45)))),(5,Bn σ.1)]) (λσ=>[]) (by rintro⟨hO,⟨hb,ha⟩,⟨⟩⟩ hn;refine EM ?_;obtain⟨ho,rfl,hd,he,hf⟩:=C5 hn;have he:ED s hb ha=Ad hd:=he;exact AT<|wv BS<|Cz<|BG he (λhp hq=>BQ<|D2 (S:=Int×Unit) (λσ=>Ln ha σ.1=Ad hd) (λσ=>[(0,rS s),(4,rB ((Br (0<(Ae s:Int)))&&(Br ((BA s 0)=45)))),(5,Bn σ.1),(6,Bn ha),(19,Bn (Ae s:Int)),(20,Bn ha),(21,rB (Br (ha<(Ae s:Int)))),(22,Bn ha),(23,rS s),(24,Bn ha),(25,rI .u8 (BA s ha)),(26,rB (Br ((BA s ha)=45)))]) (λσ=>[]) (AL<|AY Aa<|BH Aa<|ck hq λhj hr=>wv (B0 hj)<|wv Bx<|Be<|BG hr (λhs ht=>BE<|A3<|Bo<|AG (AA (hb,()) ht (AP Aa) sN)) λhs hu=>BQ<|AY Aa<|ck hu λhw hx=>wv (UZ Aa Aa hw)<|ms Aa<|wv (B0 hj)<|ck hx λhy hz=>wv (G7 hy)<|ck hz λh0 h1=>wv (Eo ⟨_,Mi⟩ S7 Aa h0)<|ck h1 λh3 h4=>wv (Bg h3)<|ms Aa<|Ca Aa<|wv Cw<|Be<|BG h4 (λc167 h6=>Cy Aa<|BW<|A5<|Bj<|by exact have h7:=BK h6 hf hi;BW<|cs h7▸Ki AjX ⟨Aa,Aa⟩) λc167 hA=>Cf<|Bm<|AG (AA ((10*hb)+((BA s ha)-48),()) hA (AP Aa) sN))<|by rintro⟨hk,⟨⟩⟩ hg;refine EM ?_;exact have hg:Ln ha hk=Ad hd:=hg;AU<|ck hg λhB hC=>wv (Bg hB)<|B9 Aa<|have hD:=Bp hC hf;AG (AA (ho,(hk,ha+1),()) ⟨hD,Aqw _⟩ (AP Aa) sN)) λhp hE=>BE<|A3<|have hG:=Ci hE hf hi;A3 (Bk (AA (hb,()) hG (AP Aa) sN)))<|by rintro⟨hH,⟨⟩⟩ hh;refine Hb ?_;exact have hh:Lm s hH=Ad r:=hh;Bo<|CL<|Bl<|AY Aa<|Be<|BG hh (λhI hJ=>AY Aa<|ck hJ λhK hL=>wv (WT Aa hK)<|Bw Aa<|A5<|cs hL▸Ki AjX ⟨Aa,Aa⟩) λhI hN=>BQ<|Cy Aa<|cs hN▸Ki AjX ⟨Aa,Aa⟩
theorem Acu (F:Nat)(n:Int)(r:Aw)(h:Vl F n=Ad r):Fn prog E 64 [Bn n] [] (PO (rS r)):=en func64 ntmps64 Aa λw Z=>AT<|wv (r:=rS ([]:Aw)) Bd<|Dt<|wv (r:=rS ([48,49,50,51,52,53,54,55,56,57]:Aw)) Bd<|Dt<|wv (r:=rS ([]:Aw)) Bd<|BH Aa<|Be<|AL<|ob h λhi hj hk=>B8 (V:=Aw×Unit) 0 (λσ=>Cp (λσ=>E3 σ.1 σ.2) σ.1 σ.2.1=Ad hi) (λσ=>[(0,Bn n),(3,rS ([48,49,50,51,52,53,54,55,56,57]:Aw)),(4,rS σ.2.1.1),(5,Bn σ.2.1.2)]) (λσ=>[]) (λσ=>σ.1) (F,(([]:Aw),n),()) hj (AP Aa) sN (λσ=>Ka n σ.1=Ad r) (λσ=>[(0,Bn n),(4,rS σ.1)]) (λσ=>[]) (by rintro⟨hC,⟨hd,ha⟩,⟨⟩⟩ hl;refine EM ?_;obtain⟨hm,rfl,hn,he,hh⟩:=C5 hl;have he:E3 hd ha=Ad hn:=he;unfold E3 at he;exact Bl<|AM [(0,Bn n),(3,rS ([48,49,50,51,52,53,54,55,56,57]:Aw)),(4,rS hd),(5,Bn ha),(13,rB ((!Br (ha=0))||(Br (hd=([]:Aw)))))] [] (BD Aa<|wv BU<|ms Aa<|Ba (!Br (ha=0)) (λhb=>CI hb Aa<|wv (Ax hb)<|AD<|Ce hb) λhb=>wo hb<|ms Aa<|Bt hb Es<|D7 Aa hb Aa<|AD<|Ce hb)<|BG he (λho hp=>B5<|AL<|AY Aa<|wv (AlX Aa Aa Al)<|ms Aa<|BH Aa<|wv BS<|Be<|ck hp λhq hr=>Z2 [(0,Bn n),(3,rS ([48,49,50,51,52,53,54,55,56,57]:Aw)),(4,rS hd),(5,Bn ha),(6,Bn (bif Br ((Int.tmod ha 10)<0) then -(Int.tmod ha 10) else Int.tmod ha 10))] [] (JD (b:=Br ((Int.tmod ha 10)<0)) Aa (λhf=>BD Aa<|wv (WT Aa (C3 hq hf))<|B9 Aa<|Ce hf) λhf=>Cf<|Ce hf)<|BD Aa<|ck hr λhs ht=>wv (Bg hs)<|ck ht λhu hw=>ck hw λhx hy=>wv (EC GB Aa Aa Aa hu hx)<|ms Aa<|ck hy λhz h0=>wv (Dz hz)<|B9 Aa<|DB<|BD Aa<|ck h0 λh1 h2=>wv (AlY Aa Aa Al h1)<|B9 Aa<|have h3:=Bp h2 hh;AG (AA (hm,((Aq (CV ((bif Br ((Int.tmod ha 10)<0) then -(Int.tmod ha 10) else Int.tmod ha 10)+1)-CV (bif Br ((Int.tmod ha 10)<0) then -(Int.tmod ha 10) else Int.tmod ha 10)) (Ap (CV (bif Br ((Int.tmod ha 10)<0) then -(Int.tmod ha 10) else Int.tmod ha 10)) ([48,49,50,51,52,53,54,55,56,57]:Aw)))++hd,Int.tdiv ha 10),()) ⟨h3,Aqw _⟩ (AP Aa) sN)) λho h4=>BE<|A3<|have h5:=Ci h4 hh hk;A3 (Bk (AA (hd,()) h5 (AP Aa) sN)))<|by rintro⟨h6,⟨⟩⟩ hg;refine Hb ?_;exact have hg:Ka n h6=Ad r:=hg;Bo<|CL<|Bl<|AY Aa<|wv BS<|Be<|BG hg (λh7 h8=>AY Aa<|ck h8 λh9 hA=>wv (Dz h9)<|Bw Aa<|A5<|cs hA▸Gd results64 ⟨Aa,Aa⟩) λh7 hB=>BQ<|Cy Aa<|cs hB▸Gd results64 ⟨Aa,Aa⟩
end Go.Proofs.YtiddaamglmmnaaaGreatDoor.Q
namespace Go.Proofs.YtiddaamglmmnaaaGreatDoor
open Go
set_option linter.unusedVariables false
set_option linter.unusedSimpArgs false
theorem TY {f:Nat→UInt8→Bool}:∀{l:List UInt8} {i:Nat},BV f i l=Af→∀u∈l,∃j,f j u=Af
 | [],_,_,u,hu=>by simp at hu
 | x::r,i,h,u,hu=>by
  simp only[BV,Aqu] at h;rcases List.mem_cons.1 hu with rfl | hu
  ·exact⟨i,h.1⟩
  ·exact TY h.2 u hu
theorem AcS {f:Nat→UInt8→Bool}:∀{l:List UInt8} {i:Nat},(∀j,∀u∈l,f j u=Af)→BV f i l=Af
 | [],_,_=>rfl
 | x::r,i,h=>by simp only[BV,Aqu];exact⟨h i x Aj,AcS λj u hu=>h j u (by simp[hu])⟩
theorem Adz:∀(l:List UInt8) (acc v:Nat) (c:UInt8),Lib.parseUint10 acc l = .ok v→48≤c.toNat→c.toNat≤57→v<1844674407370955161→Lib.parseUint10 acc (l++[c]) = .ok (v*10+(c.toNat-48))
 | [],acc,v,c,h,h0,h1,hv=>by
  simp only[Lib.parseUint10,Lib.NumEnd.ok.injEq] at h;subst h;simp only[AqH,Lib.parseUint10];rw[Arc ⟨h0,h1⟩,AqM Ab,AqM Ab]
 | x::r,acc,v,c,h,h0,h1,hv=>by
  simp only[Ara,Lib.parseUint10] at h ⊢
  split at h
  ·rename_i hx
   rw[Arc hx]
   split at h
   ·cases h
   ·rename_i hy
    rw[AqM hy]
    split at h
    ·cases h
    ·rename_i hz
     rw[AqM hz];exact Adz r _ v c h h0 h1 hv
  ·cases h
theorem Qc {d:Nat}(h:d<10):(Ar (48+d)).toNat=48+d:=by
 simp[UInt8.toNat_ofNat'];omega
theorem Ael (u:Nat):∀c∈Lib.decDigits u,48≤c.toNat∧c.toNat≤57:=by
 induction u using Nat.strongRecOn with
 | ind u ih=>
  intro c hc;rw[Lib.decDigits] at hc
  split at hc
  ·simp only[AqG] at hc;subst hc;rw[Qc Ab];omega
  ·rcases List.mem_append.1 hc with hc | hc
   ·exact ih (u/10) Ab c hc
   ·simp only[AqG] at hc;subst hc;rw[Qc Ab];omega
theorem Ago (u:Nat):u<18446744073709551610→Lib.parseUint10 0 (Lib.decDigits u) = .ok u:=by
 induction u using Nat.strongRecOn with
 | ind u ih=>
  intro hu;rw[Lib.decDigits]
  split
  ·rename_i h
   simp only[Lib.parseUint10];rw[Qc h,Arc Ab,AqM Ab,AqM Ab]
   congr 1;omega
  ·rename_i h
   have:=Adz (Lib.decDigits (u/10)) 0 (u/10) (Ar (48+u % 10)) (ih (u/10) Ab Ab) (by rw[Qc Ab];omega) (by rw[Qc Ab];omega) Ab;rw[this,Qc Ab]
   congr 1;omega
theorem Ajw (u:Nat):Lib.decDigits u≠[]:=by
 rw[Lib.decDigits];split<;>simp
theorem Agp (u:Nat):1≤u→BA (Lib.decDigits u) 0≠48:=by
 induction u using Nat.strongRecOn with
 | ind u ih=>
  intro hu;rw[Lib.decDigits]
  split
  ·rename_i h
   have:=Qc h;simp only[BA,Int.toNat_zero,List.getElem?_cons_zero,AqE];rw[this];omega
  ·rename_i h
   have h1:=ih (u/10) Ab Ab;have hne:=Ajw (u/10);unfold BA at h1 ⊢;rw[show(0:Int).toNat=0 from rfl] at h1 ⊢
   rwa [Arr (by cases hd:Lib.decDigits (u/10) with | nil=>exact absurd hd hne | cons=>simp)]
theorem Al8 (u:Nat)(h:u<10):Lib.decDigits u=[Ar (48+u)]:=by rw[Lib.decDigits];simp[h]
variable{m:Int}
theorem AaJ (h0:0≤m):Lib.itoa m=Lib.decDigits m.toNat:=by
 have:=Lib.itoa_nonneg m.toNat
 rwa [show((m.toNat:Nat):Int)=m from Ab] at this
theorem AfT (h0:0≤m)(h1:m≤1000000000000):Cr (Lib.itoa m)=0∧BN (Lib.itoa m)=m:=by
 rw[AaJ h0];generalize hu:m.toNat=u;have hub:u≤1000000000000:=Ab
 have hall:=Ael u;have hne:=Ajw u;have hd0:∃c r,Lib.decDigits u=c::r:=by cases h:Lib.decDigits u with | nil=>exact absurd h hne | cons c r=>exact⟨c,r,rfl⟩
 obtain⟨c,r,hcr⟩:=hd0;have hc:48≤c.toNat∧c.toNat≤57:=hall c (by simp[hcr]);have hs:IK (Lib.decDigits u)=Ah:=by
  rw[hcr];have e:BA (c::r) 0=c.toNat:=rfl;simp only[IK,e,Arj,Aqt]
  right;omega
 have hdg:G8 (Lib.decDigits u)=Lib.decDigits u:=by simp[G8,hs]
 have hdec:Ib (Lib.decDigits u)=Af:=by
  simp only[Ib,hdg];have h2:BV Jn 0 (Lib.decDigits u)=Af:=AcS λj x hx=>by
   have:=hall x hx;simp[Jn];omega
  rw[h2];have h3:Ac (Lib.decDigits u=[])=Ah:=by simpa using hne
  rw[h3]
  by_cases hz:u=0
  ·subst hz;rw[Al8 0 Ab];rfl
  ·have:=Agp u Ab;simp[this]
 have hat:Lib.atoiAll (Lib.decDigits u) = .ok (u:Int):=by
  have h4:=Ago u Ab;rw[hcr] at h4 ⊢;rw[Lib.atoiAll_plain c r Ab Ab];have:Lib.parseMag (c::r) = .ok u:=by unfold Lib.parseMag;rw[AqM Aj];exact h4
  rw[this];simp only[Lib.signless];rw[AqM Ab]
 have hv:Gf (u:Int)=Af:=by simp[Gf];omega
 simp only[Cr,BN,hdec,Arp,hat,hv];exact⟨trivial,Ab⟩
theorem SY (p:List UInt8)(m:Int):∀(k j:Nat),(∀i,j≤i→i<k→BA p i≠m)→j≤k→Sf p m k=Sf p m j
  | 0,j,_,hjk=>by
                       have:j=0:=Ab
                       subst this;rfl
  | k+1,j,h,hjk=>by
    by_cases e:j=k+1
    · subst e;rfl
    · rw[Sf,AqM (h k Ab Ab)]
      exact SY p m k j (λi h1 h2=>h i h1 Ab) Ab
theorem AiA (a b:List UInt8)(c:UInt8)(h:c ∉ b):Xq (a++[c]++b) c.toNat=Ae a:=by
 unfold Xq;have hb:∀i:Nat,Ae a+1≤i→i<Ae (a++[c]++b)→BA (a++[c]++b) i≠c.toNat:=λi h1 h2 e=>by
  have hg:(a++[c]++b)[i]? =b[i-(Ae a+1)]?:=by rw[Art (by simpa using h1)];simp
  have hlt:i-(Ae a+1)<Ae b:=by simp at h2;omega
  unfold BA at e;rw[show((i:Int)).toNat=i from Ab,hg,Aqx hlt] at e;simp only[AqE] at e;have:b[i-(Ae a+1)]=c:=UInt8.toNat_inj.1 Ab;exact h (this▸List.getElem_mem hlt)
 rw[SY _ _ _ (Ae a+1) hb Aj,Sf,Arc];simp[BA]
theorem VM {id:List UInt8}(h:DR id m=0):AlT (Df id m)=Af∧AhM (Df id m)=id∧BN (Afo (Df id m))=m∧KH (Df id m)=Af:=by
 have hk:KH id=Af∧(0≤m∧m≤1000000000000)∧Ae (Qr id m)≤64:=by
  unfold DR at h
  split at h
  ·split at h
   ·split at h
    ·exact⟨by assumption,by assumption,by assumption⟩
    ·omega
   ·omega
  ·omega
 obtain⟨h1,⟨h2,h3⟩,h4⟩:=hk;have hv:Df id m=id++[46]++Lib.itoa m:=by simp[Df,h,Qr]
 have hdig:∀c∈Lib.itoa m,48≤c.toNat∧c.toNat≤57:=by rw[AaJ h2];exact Ael _
 have hl:Xq (Df id m) 46=Ae id:=by
  rw[hv];exact AiA id (Lib.itoa m) 46 (λhm=>by have:=hdig _ hm;simp at this)
 have e1:AhM (Df id m)=id:=by unfold AhM;rw[hl,hv];simp
 have e2:Afo (Df id m)=Lib.itoa m:=by
  unfold Afo;rw[hl,hv,show((Ae id:Int)+1).toNat=Ae id+1 from Ab];simp
 obtain⟨b1,b2⟩:=AfT h2 h3;refine⟨?_,e1,by rw[e2];exact b2,?_⟩
 ·simp only[AlT,e1,e2,b1,b2,h,hl];simp
 ·have hs:=h1;simp only[KH,Aqu] at hs ⊢;refine⟨⟨AcS λj u hu=>?_,?_⟩,?_⟩
  ·rw[hv] at hu;rcases List.mem_append.1 hu with hu | hu
   ·rcases List.mem_append.1 hu with hu | hu
    ·obtain⟨i,hi⟩:=TY hs.1.1 u hu;exact hi
    ·simp only[AqG] at hu;subst hu;show He 46=Af;decide
   ·have:=hdig u hu;simp[Pu,He,G9,DU];omega
  ·rw[hv];simp;omega
  ·rw[hv];simpa[Qr] using h4
def Qh (c:Int):Bool:=DU c||(G9 c||(Ac (c=45)||decide (c=95)))
variable{k:Nat}
theorem Acr (hk:1≤k)(u:UInt8):Gy k u=Qh u.toNat:=by
 have:Ac (k=0)=Ah:=Am
 simp only[Gy,Qh,this]
 cases DU u.toNat<;>cases G9 u.toNat<;>simp
variable{p:List UInt8}
theorem AkU (h:(!(Ac ((Ae p:Int)<1)||(Ac ((24:Int)<Ae p)||!DU (BA p 0))))=Af):1≤Ae p∧GS p=BV Gy 1 (p.drop 1):=by
 simp only[Aq6,AqD,Aqt,Arm] at h;obtain⟨h1,h2,h3⟩:=h
 cases p with
 | nil=>simp at h1
 | cons u r=>
  have h4:DU u.toNat=Af:=h3;refine⟨Aj,?_⟩;have h5:Ae r+1≤24:=by simp at h2;omega
  simp[GS,BV,Gy,h4,h5]
theorem Air (h:(Ac ((Ae p:Int)<1)||(Ac ((24:Int)<Ae p)||!DU (BA p 0)))=Af):GS p=Ah:=by
 simp only[AqF,Aqq,Aq6] at h;rcases h with h | h | h
 ·simp[GS];omega
 ·simp[GS];omega
 ·cases p with
  | nil=>rfl
  | cons u r=>
   have h4:DU u.toNat=Ah:=h;simp[GS,BV,Gy,h4]
theorem Aok (h:(Ac ((Ae p:Int)<1)||decide ((64:Int)<Ae p))=Ah):KH p=BV Pu 0 p:=by
 simp only[AqD,Aqt] at h;have h1:1≤Ae p:=Ab
 have h2:Ae p≤64:=Ab
 simp[KH,h1,h2]
theorem Anb (h:(Ac ((Ae p:Int)<1)||decide ((64:Int)<Ae p))=Af):KH p=Ah:=by
 simp only[AqF,Aqq] at h;simp[KH];omega
theorem Aji (h:IK p=Af)(h2:BA (p.drop 1) 0=48):Ib p=Ah:=by
 have hd:G8 p=p.drop 1:=by simp[G8,h]
 have hp:p≠[48]:=by rintro rfl;revert h;decide
 unfold Ib;rw[hd,h2];simp[hp]
theorem Ajh {dg:List UInt8}(hdg:G8 p=dg)(h:(Ac ((Ae dg:Int)=0)||(Ac ((1:Int)<Ae dg)&&Ac (BA dg 0=48)))=Af):Ib p=Ah:=by
 simp only[AqF,Aqq,Aqu] at h;rcases h with h | ⟨h,h2⟩
 ·have:dg=[]:=AqB Ab;simp[Ib,hdg,this]
 ·have hp:p≠[48]:=by rintro rfl;have:=Aju [48];rw[hdg] at this;simp at this;omega
  simp[Ib,hdg,h2,hp]
theorem Ajg {dg:List UInt8}(hdg:G8 p=dg)(h0:IK p=Af→¬ ((0:Int)<Ae dg∧BA dg 0=48))(h:(Ac ((Ae dg:Int)=0)||(Ac ((1:Int)<Ae dg)&&Ac (BA dg 0=48)))=Ah)(ha:BV Jn 0 dg=Af):Ib p=Af:=by
 simp only[AqD,Aqt,Arj] at h;have hne:dg≠[]:=by rintro rfl;exact h.1 rfl
 have hpos:=Ald hne;simp only[Ib,hdg,ha,AqQ,Aq6,AqD,Aqt,hne,not_false_eq_true,true_and,Arj,Arm,Aqq]
 by_cases hb:BA dg 0=48
 ·right
  cases hs:IK p
  ·have hd:dg=p:=by rw[← hdg];simp[G8,hs]
   subst hd;have hl:Ae dg=1:=by rcases h.2 with h | h<;>omega
   match dg,hl with
   | [u],_=>
    have:(u.toNat:Int)=48:=hb;rw[show u=48 from UInt8.toNat_inj.1 (by simpa using(by omega:u.toNat=48))]
  ·exact absurd ⟨hpos,hb⟩ (h0 hs)
 ·exact .inl hb
def HL:Nat→List UInt8→Option Nat
 | n,[]=>Ad n
 | n,u::r=>if u.toNat=45 then HL n r else if 1000000000000<10*n+(u.toNat-48) then Ai else HL (10*n+(u.toNat-48)) r
theorem VC (h:Ib p=Af)(hk:(k:Int)<Ae p)(ha:¬ BA p k=45):48≤BA p k∧BA p k≤57:=by
 simp only[Ib,Aqu] at h;obtain⟨u,hu⟩:=Pf hk;rw[Zc hu] at ha ⊢;have key:u∈G8 p:=by
  have hm:=Aq1 hu;unfold G8
  split
  ·rename_i hs
   cases p with
   | nil=>simp at hm
   | cons c r=>
    rcases List.mem_cons.1 hm with rfl | hm
    ·simp only[IK,Aqu,Aqq] at hs;exact absurd hs.2 ha
    ·simpa using hm
  ·exact hm
 obtain⟨j,hj⟩:=TY h.2 u key;simp[Jn] at hj;omega
def Al7 (l:List UInt8):Prop:=∀u∈l,48≤u.toNat∧u.toNat≤57
theorem YV {l:List UInt8}(h:BV Jn 0 l=Af):Al7 l:=λu hu=>by
 obtain⟨j,hj⟩:=TY h u hu;simp[Jn] at hj;omega
theorem AhG:∀(l:List UInt8) (acc:Nat),Al7 l→1000000000000<acc→Lib.parseUint10 acc l = .range∨∃u,Lib.parseUint10 acc l = .ok u∧1000000000000<u
 | [],acc,_,h=>.inr ⟨acc,rfl,h⟩
 | c::r,acc,hd,h=>by
  have hc:=hd c Aj;unfold Lib.parseUint10;rw[Arc hc]
  split
  ·exact .inl rfl
  ·split
   ·exact .inl rfl
   ·exact AhG r _ (λu hu=>hd u (by simp[hu])) Ab
theorem Acc:∀(l:List UInt8) (acc:Nat),Al7 l→acc≤1000000000000→(∃u,HL acc l=Ad u∧Lib.parseUint10 acc l = .ok u∧u≤1000000000000)∨(HL acc l=Ai∧(Lib.parseUint10 acc l = .range∨∃u,Lib.parseUint10 acc l = .ok u∧1000000000000<u))
 | [],acc,_,h=>.inl ⟨acc,rfl,rfl,h⟩
 | c::r,acc,hd,h=>by
  have hc:=hd c Aj;have hr:Al7 r:=λu hu=>hd u (by simp[hu]);have e1:Lib.parseUint10 acc (c::r)=Lib.parseUint10 (acc*10+(c.toNat-48)) r:=by
   conv=>lhs;unfold Lib.parseUint10
   rw[Arc hc,AqM Ab,AqM Ab]
  have e2:HL acc (c::r)=if 1000000000000<acc*10+(c.toNat-48) then Ai else HL (acc*10+(c.toNat-48)) r:=by
   conv=>lhs;unfold HL
   rw[AqM Ab,show 10*acc+(c.toNat-48)=acc*10+(c.toNat-48) from Ab]
  rw[e1,e2]
  by_cases hb:1000000000000<acc*10+(c.toNat-48)
  ·rw[Arc hb];exact .inr ⟨rfl,AhG r _ hr hb⟩
  ·rw[AqM hb];exact Acc r _ hr Ab
theorem ZI:HL 0 p=HL 0 (G8 p):=by
 unfold G8
 split
 ·rename_i hs
  cases p with
  | nil=>rfl
  | cons c r=>
   simp only[IK,Aqu,Aqq] at hs;have:c.toNat=45:=by have:=hs.2;simp[BA] at this;omega
   simp[HL,this]
 ·rfl
theorem Afn (h:Ib p=Af):(∀u,HL 0 p=Ad u→Cr p=0∧BN p=if IK p=Af then -(u:Int) else u)∧(HL 0 p=Ai→Cr p=2∧BN p=0):=by
 have h':=h;simp only[Ib,Aqu,Aq6,AqD,Aqt] at h';obtain⟨⟨hne,_⟩,hall⟩:=h';have hrun:=Acc (G8 p) 0 (YV hall) Ab;have hmag:Lib.parseMag (G8 p)=Lib.parseUint10 0 (G8 p):=by unfold Lib.parseMag;rw[AqM hne]
 have hat:Lib.atoiAll p=if IK p=Af then Lib.signed (Lib.parseUint10 0 (G8 p)) else Lib.signless (Lib.parseUint10 0 (G8 p)):=by
  cases p with
  | nil=>simp[G8,IK] at hne
  | cons c r=>
   cases hs:IK (c::r)
   ·have hd:G8 (c::r)=c::r:=by simp[G8,hs]
    rw[hd] at hall hmag ⊢;have hc:=YV hall c Aj;rw[Lib.atoiAll_plain c r Ab Ab,hmag];simp
   ·have hc:c=45:=by
     simp only[IK,Aqu,Aqq] at hs;exact UInt8.toNat_inj.1 (by have:=hs.2;simp[BA] at this;simpa using(by omega:c.toNat=45))
    subst hc;have hd:G8 (45::r)=r:=by simp[G8,hs]
    rw[hd] at hmag ⊢;rw[Lib.atoiAll_minus,hmag];simp
 rw[ZI];have hbig:∀u:Nat,1000000000000<u→∀v:Int,(v=u∨v = -(u:Int))→Gf v=Ah:=λu hu v hv=>by
  rcases hv with rfl | rfl<;>simp[Gf]<;>omega
 constructor
 ·intro u hu;rcases hrun with⟨u',h1,h2,h3⟩ | ⟨h1,_⟩
  ·rw[hu] at h1;cases h1;rw[h2] at hat;simp only[Cr,BN,h,Arp,hat]
   cases IK p
   ·have hv:Gf (u:Int)=Af:=by simp[Gf];omega
    simp only[AqP,Arl,Lib.signless];rw[AqM Ab];simp[hv]
   ·have hv:Gf (-(u:Int))=Af:=by simp[Gf];omega
    simp only[Arp,Lib.signed];rw[AqM Ab];simp[hv]
  ·rw[hu] at h1;cases h1
 ·intro hn;rcases hrun with⟨u',h1,h2,h3⟩ | ⟨_,h1⟩
  ·rw[hn] at h1;cases h1
  ·simp only[Cr,BN,h,Arp,hat];rcases h1 with h1 | ⟨u,h1,h2⟩
   ·rw[h1];cases IK p<;>simp[Lib.signed,Lib.signless]
   ·rw[h1]
    cases IK p
    ·simp only[AqP,Arl,Lib.signless]
     by_cases h9:9223372036854775808≤u<;>simp[h9,hbig u h2 _ (.inl rfl)]
    ·simp only[Arp,Lib.signed]
     by_cases h9:9223372036854775808<u<;>simp[h9,hbig u h2 _ (.inr rfl)]
variable{n:Nat}
theorem Ahz (hk:(k:Int)<Ae p)(hi:HL 0 p=HL n (p.drop k))(h:BA p k=45):HL 0 p=HL n (p.drop (k+1)):=by
 obtain⟨u,hu⟩:=Pf hk;rw[Zc hu] at h;rw[hi,ML hu,HL,Arc Ab]
theorem Am7 (hd:Ib p=Af)(hk:(k:Int)<Ae p)(hi:HL 0 p=HL n (p.drop k))(h:¬ BA p k=45)(hle:¬ (1000000000000:Int)<10*(n:Int)+(BA p k-48)) :
  (10*(n:Int)+(BA p k-48))=((10*n+(BA p k-48).toNat:Nat):Int)∧HL 0 p=HL (10*n+(BA p k-48).toNat) (p.drop (k+1))∧10*n+(BA p k-48).toNat≤1000000000000:=by
 have hb:=VC hd hk h;obtain⟨u,hu⟩:=Pf hk;rw[Zc hu] at h hle hb ⊢;have e:((u.toNat:Int)-48).toNat=u.toNat-48:=Ab
 refine⟨Ab,?_,Ab⟩;rw[hi,ML hu,HL,AqM Ab,AqM Ab,e]
theorem Ahy (hd:Ib p=Af)(hk:(k:Int)<Ae p)(hi:HL 0 p=HL n (p.drop k))(h:¬ BA p k=45)(hle:(1000000000000:Int)<10*(n:Int)+(BA p k-48)):HL 0 p=Ai:=by
 have hb:=VC hd hk h;obtain⟨u,hu⟩:=Pf hk;rw[Zc hu] at h hle hb;rw[hi,ML hu,HL,AqM Ab,Arc Ab]
theorem Ak4 (hi:HL 0 p=HL n (p.drop k))(h:¬ (k:Int)<Ae p):HL 0 p=Ad n:=by
 rw[hi,List.drop_of_length_le Ab];rfl
def AcE (n m:Int)(s:List UInt8):Prop:=(s=[]∧m=n)∨(s≠[]∧Lib.decDigits n.natAbs=(if m=0 then[] else Lib.decDigits m.natAbs)++s)
theorem Agg (m:Int):∃d1:Nat,(if Ac (m.tmod 10<0)=Af then -(m.tmod 10) else m.tmod 10)=(d1:Int)∧d1=m.natAbs % 10∧d1<10:=by
 refine⟨m.natAbs % 10,?_,rfl,Ab⟩
 by_cases h:0≤m
 ·have:=Int.tmod_eq_emod_of_nonneg (a:=m) (b:=10) h;rw[this,AqM Am];omega
 ·have:=Int.tmod_eq_emod_of_nonneg (a:=-m) (b:=10) Ab;rw[Int.neg_tmod] at this
  by_cases hz:m.tmod 10=0
  ·rw[hz];simp;omega
  ·rw[Arc Am];omega
theorem X2 {d:Nat}(h:d<10):Aq (Ao ((d:Int)+1)-Ao (d:Int)) (Ap (Ao (d:Int)) [48,49,50,51,52,53,54,55,56,57])=[Ar (48+d)]:=by
 have key:∀d:Nat,d<10→Aq (Ao ((d:Int)+1)-Ao (d:Int)) (Ap (Ao (d:Int)) ([48,49,50,51,52,53,54,55,56,57]:List UInt8))=[Ar (48+d)]:=Al
 exact key d h
theorem U1 (m:Int):(m.tdiv 10).natAbs=m.natAbs/10:=by
 rw[Int.natAbs_tdiv];rfl
theorem Agf (m:Int)(d1:Nat)(h:d1=m.natAbs % 10):Lib.decDigits m.natAbs=(if m.tdiv 10=0 then[] else Lib.decDigits (m.tdiv 10).natAbs)++[Ar (48+d1)]:=by
 have hz:m.tdiv 10=0↔m.natAbs<10:=by
  rw[← Int.natAbs_eq_zero,U1];omega
 rw[U1,Lib.decDigits]
 by_cases hs:m.natAbs<10
 ·rw[dif_pos hs,Arc (hz.2 hs),h,Nat.mod_eq_of_lt hs];rfl
 ·rw[dif_neg hs,AqM (λe=>hs (hz.1 e)),h]
variable{s:List UInt8}
theorem Alw {n:Int}(h0:-9223372036854775808≤n)(h1:n≤9223372036854775807)(hi:AcE n m s):Ae s≤21:=by
 rcases hi with⟨rfl,_⟩ | ⟨_,h⟩
 ·simp
 ·have hl:Ae (Lib.decDigits n.natAbs)≤21:=by
   have:=Vu n h0 h1;unfold Lib.itoa at this
   split at this
   ·simp at this;omega
   ·rwa [show n.toNat=n.natAbs from Ab] at this
  rw[h] at hl;simp at hl;omega
theorem Ajk {n:Int}{d1:Nat}(hi:AcE n m s)(hc:(!Ac (m=0)||decide (s=[]))=Af)(hd:d1=m.natAbs % 10) :
  AcE n (m.tdiv 10) (Aq (Ao ((d1:Int)+1)-Ao (d1:Int)) (Ap (Ao (d1:Int)) [48,49,50,51,52,53,54,55,56,57])++s)∧
  (m.tdiv 10).natAbs+(if Aq (Ao ((d1:Int)+1)-Ao (d1:Int)) (Ap (Ao (d1:Int)) [48,49,50,51,52,53,54,55,56,57])++s=[] then 1 else 0)<m.natAbs+(if s=[] then 1 else 0):=by
 rw[X2 Ab];have hs:=Agf m d1 hd;refine⟨.inr ⟨Aj,?_⟩,?_⟩
 ·rcases hi with⟨rfl,rfl⟩ | ⟨h1,h2⟩
  ·rw[hs];simp
  ·have hm:m≠0:=by simpa[h1] using hc
   rw[h2,AqM hm,hs];simp
 ·rw[AqM Aj,U1]
  by_cases hm:m=0
  ·subst hm;have:s=[]:=by simpa using hc
   simp[this]
  ·have:0<m.natAbs:=Ab
   split<;>omega
theorem Alx {n:Int}(hi:AcE n m s)(hc:(!Ac (m=0)||decide (s=[]))=Ah):Lib.decDigits n.natAbs=s:=by
 simp only[AqD,Arm,Aqq,Aqt] at hc;rcases hi with⟨h,_⟩ | ⟨_,h⟩
 ·exact absurd h hc.2
 ·rw[h,Arc hc.1];rfl
theorem Aed {n:Int}(h:Lib.decDigits n.natAbs=s)(hn:n<0):[45]++s=Lib.itoa n:=by
 unfold Lib.itoa;rw[Arc hn,h];rfl
theorem Alv {n:Int}(h:Lib.decDigits n.natAbs=s)(hn:¬ n<0):s=Lib.itoa n:=by
 unfold Lib.itoa;rw[AqM hn,show n.toNat=n.natAbs from Ab,h]
theorem Aj5 {p q r:Bool}:By p (Ad q) (Ad r)=Ad (bif p then q else r):=by cases p<;>rfl
theorem Xz (c:Int):YL c=Ad (DU c):=rfl
theorem X0 (c:Int):YN c=Ad (G9 c):=rfl
theorem AaE {a b c d e f g h k:Bool}:(a||(b||bif c then(d||(e||(f||(g||(h||k))))) else(e||(f||(g||(h||k))))))=(a||b||(c&&d)||e||f||g||h||k):=by cases c<;>simp[Bool.or_assoc]
theorem AcA (c:Int):TO c=Ad (He c):=by
 unfold TO D3;rw[Xz,Bu rfl,X0,Bu rfl];simp only[Aj5,Bool.cond_true_left,AaE];rfl
theorem Afl {a b c d e f g h k:Bool}:(a||bif c then(d||(b||(e||(f||(g||(h||k)))))) else(b||(e||(f||(g||(h||k))))))=(a||b||(c&&d)||e||f||g||h||k):=by cases a<;>cases b<;>cases c<;>simp[Bool.or_assoc]
theorem Aga (c:Int):V0 c=Ad (He c):=by
 unfold V0 DC;rw[show G2 c=Ad (DU c) from rfl,Bu rfl,show IU c=Ad (G9 c) from rfl,Bu rfl];simp only[Aj5,Bool.cond_true_left,Afl];rfl
theorem Rk {R U:Type}{f:Nat→UInt8→Bool}{p:Aw}{body:Int→Option (Stp Int (Out R U))}{u:U}{q:R}(hp:Ae p≤281474976710656)
  (hb:∀x:Int,body x=By (Ac (x<(Ae p:Int))) (Bc (CE x (Ae p:Int))<|By (!f x.toNat ((p[x.toNat]?).getD 0)) (Ad (.out (.ret q))) (Bc (BJ .i64 (x+1))<|some (.next (x+1)))) (Ad (.out (.go u)))) :
  ∀(d i F:Nat),i+d=Ae p→d<F→Cp body F (i:Int)=Ad (bif BV f i (p.drop i) then .go u else .ret q)
 | _,_,0,_,h=>by omega
 | 0,i,F+1,h,_=>by
  rw[Cp,hb,AF (Aqn Ab),List.drop_of_length_le Ab];rfl
 | d+1,i,F+1,h,hF=>by
  have hi:i<Ae p:=Ab
  rw[Cp,hb,AX (Aqo Ab),Bi Ab Ab,AH Ab Ab,List.drop_eq_getElem_cons hi,show((i:Int)).toNat=i from Ab,Aqx hi,AqE,BV]
  cases f i p[i] with
  | false=>rfl
  | true=>exact Rk hp hb d (i+1) F Ab Ab
theorem AmZ (h:De 1 n=Af):n≤281474976710656:=by simp[De] at h;omega
theorem Alr {s:Aw}(g:De 1 (Ae s)=Af):Als (Ae s+1) s=Ad (KH s):=by
 have hs:=AmZ g;unfold Als
 cases h:(Ac ((Ae s:Int)<1)||decide (64<(Ae s:Int))) with
 | true=>rw[Anb h];rfl
 | false=>
  have e:=Rk (f:=Pu) (p:=s) (body:=λσ=>Ru s σ) (u:=()) (q:=Ah) hs (λx=>by
   unfold Ru;rw[Aga,Bu rfl];rfl) (Ae s) 0 (Ae s+1) Ab Ab
  rw[Aok h];rw[List.drop_zero] at e;rw[AF rfl];refine(Bu e).trans ?_
  cases BV Pu 0 s<;>rfl
theorem Agb {s:Aw}(g:De 1 (Ae s)=Af):AcB (Ae s+1) s=Ad (GS s):=by
 have hs:=AmZ g;unfold AcB;rw[show G2 (BA s 0)=Ad (DU (BA s 0)) from rfl];have h0:∀b c:Bool,imp (!Ac ((Ae s:Int)<1)) (imp b (CE 0 (Ae s:Int)))=Af:=λb c=>by
  by_cases h:(Ae s:Int)<1
  ·simp[imp,h]
  ·simp[imp,h,CE];omega
 rw[Cn (h0 _ Af),Cn (by simp[imp])];simp only[ov,AqE]
 cases h:(Ac ((Ae s:Int)<1)||(Ac (24<(Ae s:Int))||!DU (BA s 0))) with
 | true=>rw[Air h];rfl
 | false=>
  have h1:=AkU (p:=s) (by rw[h];rfl);have e:=Rk (f:=λ_ u=>Qh u.toNat) (p:=s) (body:=λσ=>MH s σ) (u:=()) (q:=Ah) hs (λx=>by
   unfold MH;rw[show G2 (BA s x)=Ad (DU (BA s x)) from rfl,show IU (BA s x)=Ad (G9 (BA s x)) from rfl,Cn (p:=(Ad _).isSome) rfl,Cn (p:=imp _ _) (by simp[imp])];simp only[ov,AqE];rw[show(!Qh ((s[x.toNat]?.getD 0).toNat:Int))=(!DU (BA s x)&&(!G9 (BA s x)&&(!Ac (BA s x=45)&&!Ac (BA s x=95)))) from by simp only[Qh,Bool.not_or];rfl]) (Ae s-1) 1 (Ae s+1) Ab Ab
  have e2:∀(l:Aw) (i:Nat),1≤i→BV Gy i l=BV (λ_ u=>Qh u.toNat) i l:=λl=>by
   induction l with
   | nil=>intro i _;rfl
   | cons u r ih=>intro i hi;rw[BV,BV,Acr hi,ih (i+1) Ab]
  rw[h1.2,e2 _ 1 (Aq7 1)];rw[AF rfl];refine(Bu e).trans ?_
  cases BV (λ_ u=>Qh u.toNat) 1 (s.drop 1)<;>rfl
theorem AdN {dg:Aw}(hd:Ae dg≤281474976710656){F:Nat}(hF:Ae dg<F){body:Int→Option (Stp Int (Out Bool Unit))}(hb:∀x:Int,body x=By (Ac (x<(Ae dg:Int))) (Bc (CE x (Ae dg:Int))<|By (Ac (BA dg x<48)||decide (57<BA dg x)) (Ad (.out (.ret Ah))) (Bc (BJ .i64 (x+1))<|some (.next (x+1)))) (Ad (.out (.go ())))) :
  BB (Cp body F 0) (Cb λ_=>Ad Af)=Ad (BV Jn 0 dg):=by
 have e:=Rk (f:=Jn) (p:=dg) (body:=body) (u:=()) (q:=Ah) hd (λx=>by rw[hb];simp only[Jn,Bool.not_not];rfl) (Ae dg) 0 F Ab hF;rw[List.drop_zero] at e;refine(Bu e).trans ?_
 cases BV Jn 0 dg<;>rfl
theorem Adk {s:Aw}(h:IK s=Af):1≤Ae s:=by simp[IK] at h;omega
theorem AiL {a:Bool}{s:Aw}(h:a=Af→0<Ae s):imp a (CE 0 (Ae s:Int))=Af:=by
 cases a with
 | false=>rfl
 | true=>simp[imp,CE];exact h rfl
theorem Vj {p dg:Aw}(hs:Ae dg≤281474976710656)(hp:Ae dg≤Ae p)(hdg:G8 p=dg):IH (Ae p+1) p dg=Ad (Ib p):=by
 unfold IH;rw[Cn (AiL (by simp;intro h;exact List.length_pos_iff.2 h))];unfold Ib;rw[hdg]
 cases h:(Ac (dg=([]:Aw))||(Ac (BA dg 0=48)&&!Ac (p=([48]:Aw)))) with
 | true=>rfl
 | false=>
  have e:=AdN (F:=Ae p+1) (body:=λσ=>LJ dg σ) hs Ab (λx=>rfl);rw[AF rfl,AqR,Aq3];exact e
theorem Aa3 {s:Aw}(hs:Ae s≤281474976710656):Vk (Ae s+1) s=Ad (Ib s):=by
 unfold Vk;rw[Cn (AiL Aj)];have e:(Ac ((0:Int)<Ae s)&&Ac (BA s 0=45))=IK s:=rfl;rw[e]
 cases h:IK s with
 | false=>rw[AF rfl];exact Vj hs (Aq7 _) (by simp[G8,h])
 | true=>
  have:=Adk h;rw[AX rfl,C0 Ab Ab];exact Vj Am Aj (by simp[G8,h])
theorem Aa5 {p dg:Aw}(hs:Ae dg≤281474976710656)(hp:Ae dg≤Ae p)(hdg:G8 p=dg)(h0:IK p=Af→¬ ((0:Int)<Ae dg∧BA dg 0=48)):KF (Ae p+1) dg=Ad (Ib p):=by
 unfold KF;have hi:∀b:Bool,imp (!Ac ((Ae dg:Int)=0)) (imp b (CE 0 (Ae dg:Int)))=Af:=λb=>by
  cases dg with
  | nil=>rfl
  | cons a r=>cases b<;>simp[imp,CE]<;>omega
 rw[Cn (hi _)]
 cases h:(Ac ((Ae dg:Int)=0)||(Ac ((1:Int)<Ae dg)&&Ac (BA dg 0=48))) with
 | true=>rw[Ajh hdg h];rfl
 | false=>
  have e:=AdN (F:=Ae p+1) (body:=λσ=>OT dg σ) hs Ab (λx=>rfl);rw[AF rfl];refine e.trans ?_
  cases ha:BV Jn 0 dg with
  | false=>simp[Ib,hdg,ha]
  | true=>rw[Ajg hdg h0 h ha]
theorem AfA {s:Aw}(hs:Ae s≤281474976710656):YC (Ae s+1) s=Ad (Ib s):=by
 unfold YC;rw[Cn (AiL Aj)];have e:(Ac ((0:Int)<Ae s)&&Ac (BA s 0=45))=IK s:=rfl;rw[e]
 cases h:IK s with
 | false=>rw[AF rfl];exact Aa5 hs (Aq7 _) (by simp[G8,h]) (by rw[h];intro x;cases x)
 | true=>
  have hl:=Adk h;rw[AX rfl,C0 Ab Ab,Cn (AiL Aj)];have hd:G8 s=s.drop 1:=by simp[G8,h]
  cases h2:(Ac ((0:Int)<Ae (Ap (Ao 1) s))&&Ac (BA (Ap (Ao 1) s) 0=48)) with
  | true=>
   rw[AX rfl];simp only[Aqu,Aqq] at h2;rw[Aji h h2.2]
  | false=>
   rw[AF rfl];refine Aa5 Am Aj hd λ_ hx=>?_;rw[Aqo hx.1,Aqo hx.2] at h2;cases h2
variable{O S:Type}{body:S→Option (Stp S O)}
theorem AmR {s s':S}(h:body s=Ad (.next s')):Cp body (n+1) s=Cp body n s':=by rw[Cp,h]
theorem AmQ {s:S}{o:O}(h:body s=Ad (.out o)):Cp body (n+1) s=Ad o:=by rw[Cp,h]
def AoN:Option Nat→Out (Int×Int) Int
 | some u=>.go (u:Int)
 | none=>.ret (0,2)
theorem AkV {s:Aw}{n k:Int}(h:¬ k<Ae s):ED s n k=Ad (.out (.go n)):=by
 unfold ED;rw[AF (Aqn h)]
theorem AmL {s:Aw}(hs:Ae s≤281474976710656)(hn:n≤1000000000000)(h:(k:Int)<Ae s)(hb:¬ BA s k=45→48≤BA s k∧BA s k≤57) :
  ED s (n:Int) k=By (Ac (BA s k=45)) (Ad (.next ((n:Int),(k:Int)+1))) (By (Ac ((1000000000000:Int)<10*(n:Int)+(BA s k-48))) (Ad (.out (.ret (0,2)))) (Ad (.next (10*(n:Int)+(BA s k-48),(k:Int)+1)))):=by
 unfold ED Ln;rw[AX (Aqo h),Bi Ab h]
 by_cases ha:BA s k=45
 ·rw[AX (Aqo ha),AX (Aqo ha),AH Ab Ab]
 ·have hb:=hb ha;rw[AF (Aqn ha),AF (Aqn ha),AH Ab Ab,Cn (AdT Ab Ab),AH Ab Ab,AH Ab Ab,AH Ab Ab]
theorem YA {s:Aw}(hs:Ae s≤281474976710656)(hd:Ib s=Af)(d:Nat):∀(k n F:Nat),k+d=Ae s→d<F→HL 0 s=HL n (s.drop k)→n≤1000000000000→
  Cp (λσ:Int×Int=>ED s σ.1 σ.2) F ((n:Int),(k:Int))=Ad (AoN (HL 0 s)):=by
 induction d with
 | zero=>
  intro k n F h hF hr hn;obtain⟨F,rfl⟩:∃m,F=m+1:=⟨F-1,Ab⟩
  have hk : ¬ (k:Int)<Ae s:=Ab
  rw[Ak4 hr hk];exact AmQ (body:=λσ:Int×Int=>ED s σ.1 σ.2) (AkV hk)
 | succ d ih=>
  intro k n F h hF hr hn;obtain⟨F,rfl⟩:∃m,F=m+1:=⟨F-1,Ab⟩
  have hk:(k:Int)<Ae s:=Ab
  have hb:=AmL hs hn hk (VC hd hk);have step:=λn1=>ih (k+1) n1 F Ab Ab
  by_cases ha:BA s k=45
  ·rw[AX (Aqo ha)] at hb;exact(AmR (body:=λσ:Int×Int=>ED s σ.1 σ.2) hb).trans (step n (Ahz hk hr ha) hn)
  ·rw[AF (Aqn ha)] at hb
   by_cases hle:(1000000000000:Int)<10*(n:Int)+(BA s k-48)
   ·rw[AX (Aqo hle)] at hb;rw[Ahy hd hk hr ha hle];exact AmQ (body:=λσ:Int×Int=>ED s σ.1 σ.2) hb
   ·obtain⟨a,b,c⟩:=Am7 hd hk hr ha hle;rw[AF (Aqn hle),a] at hb;exact(AmR (body:=λσ:Int×Int=>ED s σ.1 σ.2) hb).trans (step _ b c)
theorem Acs {s:Aw}(g:De 1 (Ae s)=Af):YB (Ae s+1) s=Ad (BN s,Cr s):=by
 have hs:=AmZ g;unfold YB;rw[Cn (AiL Aj),AfA hs,Bu rfl]
 cases hd:Ib s with
 | false=>simp[By,BN,Cr,hd]
 | true=>
  have e:=YA hs hd (Ae s) 0 0 (Ae s+1) Ab Ab rfl Ab;obtain⟨p1,p2⟩:=Afn hd;rw[AF (p:=!Af) rfl];refine(Bu e).trans ?_
  cases hr:HL 0 s with
  | none=>rw[(p2 hr).1,(p2 hr).2];rfl
  | some u=>
   rw[(p1 u hr).1,(p1 u hr).2];have e:(Ac ((0:Int)<Ae s)&&Ac (BA s 0=45))=IK s:=rfl;have hu:u≤1000000000000:=by
    have hx:=Acc (G8 s) 0 (YV (by simp only[Ib,Aqu] at hd;exact hd.2)) Ab;rw[ZI] at hr;rcases hx with⟨v,h1,_,h3⟩ | ⟨h1,_⟩<;>rw[hr] at h1<;>cases h1
    exact h3
   show Lm s u=_;unfold Lm;rw[e,AH Ab Ab]
   cases IK s<;>rfl
theorem Af6 (m:Int):DQ m=Ad (Gf m):=rfl
open Go Go.RowKit
set_option maxRecDepth 100000
theorem Akx (c:Int)(w:World):Calls prog 78 [.int .i32 c].toArray w (Qs w (.bool (DU c))):=Q.Fn0.old [.int .i32 c] (Q.iSmall_w c _ (Xz c)) w
theorem Al6 (c:Int)(w:World):Calls prog 79 [.int .i32 c].toArray w (Qs w (.bool (G9 c))):=Q.Fn0.old [.int .i32 c] (Q.iDigit_w c _ (X0 c)) w
theorem Ai8 (c:Int)(w:World):Calls prog 74 [.int .i32 c].toArray w (Qs w (.bool (He c))):=Q.Fn0.old [.int .i32 c] (Q.iLetter_w c _ (AcA c)) w
theorem Akp (m:Int)(w:World):Calls prog 107 [.int .i64 m].toArray w (Qs w (.bool (Gf m))):=Q.Fn0.old [.int .i64 m] (Q.nValid_w m _ (Af6 m)) w
theorem AmK (p:List UInt8)(w:World):Calls prog 54 [.string (B p)].toArray w (Qs w (.bool (GS p))):=by
 refine V8 (n:=39) func54 rfl ntmps54 rfl<|Bl<|AU<|C2 (Cj rfl) rfl<|AD<|AG (CJ ?_);refine Bl<|Bl<|AU<|C2 (AQ rfl) rfl<|Wo GB rfl rfl (λb1=>?_);refine AD<|AG (CJ ?_);refine AL<|T0 (S:=Nat) (λ(k:Nat)=>k≤Ae p∧BV Gy 0 p=BV Gy k (p.drop k)) (λ(k:Nat)=>[(0,.string (B (p))),(2,.bool (Ah)),(6,.pointer (Ad ⟨b1,0,Ai⟩))]) (λ(k:Nat)=>[.blk b1 (.stringIter (B p) (k))]) (λ(k:Nat)=>Ae p-k) (0) ?_ ⟨rfl,rfl,rfl,trivial⟩ (.cons_cons _ (.slnil)) ?_
 ·exact⟨AqL _,Aj⟩
 rintro k hi0;refine Bl<|AU<|Z3 (i:=0) rfl rfl rfl (λhend=>?_) (λu2 c3 wd4 hu2 hlu2 hhu2 hwu2=>?_)
 ·refine C2 (EP rfl rfl) rfl<|AD<|AG (CJ ?_);refine Bl<|DZ rfl rfl<|BE<|A3<|A3<|Bo<|AG (CJ ?_);refine AM [(2,.bool (((Ac ((1)≤((Ae p:Int))))&&(Ac (((Ae p:Int))≤(24))))))] [.blk b1 (.stringIter (B p) (k))] (φ:=True) ?_ (λhm5=>?_)
  ·refine AU<|C2 (AQ rfl) rfl<|C2 (LD GB rfl) rfl<|C2 (Aft rfl rfl) rfl<|C2 (AQ rfl) rfl<|Ba (Ac ((1)≤((Ae p:Int)))) (λh5=>?_) (λh5=>?_)
   ·have g5:=h5;try simp only[Aqq,Aqt] at g5
    refine BL rfl rfl h5<|C2 (AQ rfl) rfl<|BL rfl rfl h5<|C2 (LD GB rfl) rfl<|BL rfl rfl h5<|C2 (Aie rfl rfl) rfl<|C2 (E2 rfl h5 rfl) rfl<|C2 (Cj rfl) rfl<|AD ?_;exact AG (IL trivial ⟨fb (by first | (simp only[h5,Aq3,AqN,Arg,Aq9,AqQ,AqW,Arb,AqZ,Aq5,AqR,Aqv,Aqr,Arp,Arl,reduceIte,AqP];done) | simp[h5]),trivial⟩ (.cons_cons _ (.slnil)))
   ·have g5:=h5;try simp only[Aqq,Aqt] at g5
    refine Dh rfl rfl h5 rfl<|Dh rfl rfl h5 rfl<|Dh rfl rfl h5 rfl<|C2 (DE rfl h5 rfl) rfl<|C2 (Cj rfl) rfl<|AD ?_;exact AG (IL trivial ⟨fb (by first | (simp only[h5,Aq3,AqN,Arg,Aq9,AqQ,AqW,Arb,AqZ,Aq5,AqR,Aqv,Aqr,Arp,Arl,reduceIte,AqP];done) | simp[h5]),trivial⟩ (.cons_cons _ (.slnil)))
  refine CM<|AC (Dj rfl rfl) ?_;exact Ye (by rw[Aiq hi0 hend])
 ·refine C2 (EP rfl rfl) rfl<|AD<|AG (CJ ?_);refine Bl<|G4 rfl rfl<|Cf<|AG (CJ ?_);refine AL<|Bl<|AU<|C2 (EP rfl rfl) rfl<|C2 (EP rfl rfl) rfl<|C2 (Cj rfl) rfl<|C2 (Cj rfl) rfl<|AD<|AG (CJ ?_);refine AM [(0,.string (B (p))),(2,.bool (Ah)),(3,.int .i64 ((k:Int))),(4,.int .i32 ((c3:Int))),(6,.pointer (Ad ⟨b1,0,Ai⟩)),(7,.tuple #[.bool (Af),.int .i64 ((k:Int)),.int .i32 ((c3:Int))]),(8,.bool (Af)),(9,.int .i64 ((k:Int))),(10,.int .i32 ((c3:Int))),(11,.int .i32 ((c3:Int))),(12,.bool (DU (c3:Int))),(13,.bool (!(DU (c3:Int)))),(14,.bool (!(DU (c3:Int)))),(30,.bool (((!(DU (c3:Int)))&&((Ac (((k:Int))=(0)))||((!(G9 (c3:Int)))&&((!(Ac (((c3:Int))=(45))))&&(!(Ac (((c3:Int))=(95))))))))))] [.blk b1 (.stringIter (B p) (k+wd4))] (φ:=True) ?_ (λhf=>?_)
  ·refine AU<|C2 (AQ rfl) rfl<|Em call78 rfl (λw hw=>Akx (c3:Int) w) rfl<|C2 (QX rfl) rfl<|C2 (AQ rfl) rfl<|Ba (!(DU (c3:Int))) (λh7=>?_) (λh7=>?_)
   ·have g7:=h7;try simp only[Aqq,Aqt] at g7
    refine BL rfl rfl h7<|C2 (AQ rfl) rfl<|BL rfl rfl h7<|C2 (AmJ rfl rfl) rfl<|BL rfl rfl h7<|C2 (AQ rfl) rfl<|Ba (Ac (((k:Int))=(0))) (λh8=>?_) (λh8=>?_)
    ·have g8:=h8;try simp only[Aqq,Aqt] at g8
     refine Dh rfl rfl h8 rfl<|Dh rfl rfl h8 rfl<|Dh rfl rfl h8 rfl<|Dh rfl rfl h8 rfl<|Ez rfl rfl rfl<|Ez rfl rfl rfl<|Dh rfl rfl h8 rfl<|Dh rfl rfl h8 rfl<|Ez rfl rfl rfl<|Ez rfl rfl rfl<|Dh rfl rfl h8 rfl<|BL rfl rfl h7<|C2 (E2 rfl h8 rfl) rfl<|C2 (E2 rfl h7 rfl) rfl<|AD ?_;exact AG (IL trivial ⟨rfl,rfl,rfl,rfl,rfl,rfl,rfl,rfl,rfl,rfl,rfl,rfl,rfl,fb (by first | (simp only[h7,h8,Aq3,AqN,Arg,Aq9,AqQ,AqW,Arb,AqZ,Aq5,AqR,Aqv,Aqr,Arp,Arl,reduceIte,AqP];done) | simp[h7,h8]),trivial⟩ (.cons_cons _ (.slnil)))
    ·have g8:=h8;try simp only[Aqq,Aqt] at g8
     refine BL rfl rfl h8<|C2 (AQ rfl) rfl<|BL rfl rfl h8<|Em call79 rfl (λw hw=>Al6 (c3:Int) w) rfl<|BL rfl rfl h8<|C2 (QX rfl) rfl<|BL rfl rfl h8<|C2 (AQ rfl) rfl<|Ba (!(G9 (c3:Int))) (λh9=>?_) (λh9=>?_)
     ·have g9:=h9;try simp only[Aqq,Aqt] at g9
      refine BL rfl rfl h9<|C2 (AQ rfl) rfl<|BL rfl rfl h9<|C2 (M4 rfl rfl) rfl<|BL rfl rfl h8<|C2 (E2 rfl h9 rfl) rfl<|BL rfl rfl h8<|C2 (AQ rfl) rfl<|Ba (!(Ac (((c3:Int))=(45)))) (λha=>?_) (λha=>?_)
      ·have hd:=ha;try simp only[Aqq,Aqt] at hd
       refine BL rfl rfl ha<|C2 (AQ rfl) rfl<|BL rfl rfl ha<|C2 (M4 rfl rfl) rfl<|BL rfl rfl h8<|C2 (E2 rfl ha rfl) rfl<|BL rfl rfl h7<|C2 (DE rfl h8 rfl) rfl<|C2 (E2 rfl h7 rfl) rfl<|AD ?_;exact AG (IL trivial ⟨rfl,rfl,rfl,rfl,rfl,rfl,rfl,rfl,rfl,rfl,rfl,rfl,rfl,fb (by first | (simp only[h7,h8,h9,ha,Aq3,AqN,Arg,Aq9,AqQ,AqW,Arb,AqZ,Aq5,AqR,Aqv,Aqr,Arp,Arl,reduceIte,AqP];done) | simp[h7,h8,h9,ha]),trivial⟩ (.cons_cons _ (.slnil)))
      ·have hd:=ha;try simp only[Aqq,Aqt] at hd
       refine Dh rfl rfl ha rfl<|Dh rfl rfl ha rfl<|BL rfl rfl h8<|C2 (DE rfl ha rfl) rfl<|BL rfl rfl h7<|C2 (DE rfl h8 rfl) rfl<|C2 (E2 rfl h7 rfl) rfl<|AD ?_;exact AG (IL trivial ⟨rfl,rfl,rfl,rfl,rfl,rfl,rfl,rfl,rfl,rfl,rfl,rfl,rfl,fb (by first | (simp only[h7,h8,h9,ha,Aq3,AqN,Arg,Aq9,AqQ,AqW,Arb,AqZ,Aq5,AqR,Aqv,Aqr,Arp,Arl,reduceIte,AqP];done) | simp[h7,h8,h9,ha]),trivial⟩ (.cons_cons _ (.slnil)))
     ·have g9:=h9;try simp only[Aqq,Aqt] at g9
      refine Dh rfl rfl h9 rfl<|Dh rfl rfl h9 rfl<|BL rfl rfl h8<|C2 (DE rfl h9 rfl) rfl<|BL rfl rfl h8<|C2 (AQ rfl) rfl<|Dh rfl rfl rfl rfl<|Dh rfl rfl rfl rfl<|BL rfl rfl h8<|C2 (DE rfl rfl rfl) rfl<|BL rfl rfl h7<|C2 (DE rfl h8 rfl) rfl<|C2 (E2 rfl h7 rfl) rfl<|AD ?_;exact AG (IL trivial ⟨rfl,rfl,rfl,rfl,rfl,rfl,rfl,rfl,rfl,rfl,rfl,rfl,rfl,fb (by first | (simp only[h7,h8,h9,Aq3,AqN,Arg,Aq9,AqQ,AqW,Arb,AqZ,Aq5,AqR,Aqv,Aqr,Arp,Arl,reduceIte,AqP];done) | simp[h7,h8,h9]),trivial⟩ (.cons_cons _ (.slnil)))
   ·have g7:=h7;try simp only[Aqq,Aqt] at g7
    refine Dh rfl rfl h7 rfl<|Dh rfl rfl h7 rfl<|Dh rfl rfl h7 rfl<|Ez rfl rfl rfl<|Ez rfl rfl rfl<|Ez rfl rfl rfl<|Ez rfl rfl rfl<|Ez rfl rfl rfl<|Ez rfl rfl rfl<|Ez rfl rfl rfl<|Ez rfl rfl rfl<|Ez rfl rfl rfl<|Ez rfl rfl rfl<|Ez rfl rfl rfl<|Dh rfl rfl h7 rfl<|C2 (DE rfl h7 rfl) rfl<|AD ?_;exact AG (IL trivial ⟨rfl,rfl,rfl,rfl,rfl,rfl,rfl,rfl,rfl,rfl,rfl,rfl,rfl,fb (by first | (simp only[h7,Aq3,AqN,Arg,Aq9,AqQ,AqW,Arb,AqZ,Aq5,AqR,Aqv,Aqr,Arp,Arl,reduceIte,AqP];done) | simp[h7]),trivial⟩ (.cons_cons _ (.slnil)))
  refine JD (b:=((!(DU (c3:Int)))&&((Ac (((k:Int))=(0)))||((!(G9 (c3:Int)))&&((!(Ac (((c3:Int))=(45))))&&(!(Ac (((c3:Int))=(95))))))))) rfl (λhb=>?_) (λhb=>?_)
  ·have he:=hb;try simp only[Aqq,Aqt] at he
   refine Bl<|AU<|C2 (Cj rfl) rfl<|AD<|AG (CJ ?_);refine CM<|Dc<|A5<|Dc<|A5<|AC (Dj rfl rfl) ?_;exact Ye (by rw[AkT hi0 hu2 hlu2 hhu2 hb])
  ·have he:=hb;try simp only[Aqq,Aqt] at he
   refine Cf<|Bm<|AG<|AA (k+wd4) ?_ ⟨rfl,rfl,rfl,trivial⟩ (.cons_cons _ (.slnil));exact Af5 hi0 hu2 hlu2 hhu2 hb
theorem AoY (p:List UInt8)(w:World):Calls prog 50 [.string (B p)].toArray w (Qs w (.bool (KH p))):=by
 refine V8 (n:=21) func50 rfl ntmps50 rfl<|Bl<|AU<|C2 (Cj rfl) rfl<|AD<|AG (CJ ?_);refine Bl<|Bl<|AU<|C2 (AQ rfl) rfl<|Wo GB rfl rfl (λhd=>?_);refine AD<|AG (CJ ?_);refine AL<|T0 (S:=Nat) (λ(k:Nat)=>k≤Ae p∧BV Pu 0 p=BV Pu k (p.drop k)) (λ(k:Nat)=>[(0,.string (B (p))),(2,.bool (Ah)),(6,.pointer (Ad ⟨hd,0,Ai⟩))]) (λ(k:Nat)=>[.blk hd (.stringIter (B p) (k))]) (λ(k:Nat)=>Ae p-k) (0) ?_ ⟨rfl,rfl,rfl,trivial⟩ (.cons_cons _ (.slnil)) ?_
 ·exact⟨AqL _,Aj⟩
 rintro k hi0;refine Bl<|AU<|Z3 (i:=0) rfl rfl rfl (λhend=>?_) (λhh he hg hf hlu14 hhu14 hwu14=>?_)
 ·refine C2 (EP rfl rfl) rfl<|AD<|AG (CJ ?_);refine Bl<|DZ rfl rfl<|BE<|A3<|A3<|Bo<|AG (CJ ?_);refine AM [(2,.bool (((Ac ((1)≤((Ae p:Int))))&&(Ac (((Ae p:Int))≤(64))))))] [.blk hd (.stringIter (B p) (k))] (φ:=True) ?_ (λhi=>?_)
  ·refine AU<|C2 (AQ rfl) rfl<|C2 (LD GB rfl) rfl<|C2 (Aft rfl rfl) rfl<|C2 (AQ rfl) rfl<|Ba (Ac ((1)≤((Ae p:Int)))) (λha=>?_) (λha=>?_)
   ·have g17:=ha;try simp only[Aqq,Aqt] at g17
    refine BL rfl rfl ha<|C2 (AQ rfl) rfl<|BL rfl rfl ha<|C2 (LD GB rfl) rfl<|BL rfl rfl ha<|C2 (Aie rfl rfl) rfl<|C2 (E2 rfl ha rfl) rfl<|C2 (Cj rfl) rfl<|AD ?_;exact AG (IL trivial ⟨fb (by first | (simp only[ha,Aq3,AqN,Arg,Aq9,AqQ,AqW,Arb,AqZ,Aq5,AqR,Aqv,Aqr,Arp,Arl,reduceIte,AqP];done) | simp[ha]),trivial⟩ (.cons_cons _ (.slnil)))
   ·have g17:=ha;try simp only[Aqq,Aqt] at g17
    refine Dh rfl rfl ha rfl<|Dh rfl rfl ha rfl<|Dh rfl rfl ha rfl<|C2 (DE rfl ha rfl) rfl<|C2 (Cj rfl) rfl<|AD ?_;exact AG (IL trivial ⟨fb (by first | (simp only[ha,Aq3,AqN,Arg,Aq9,AqQ,AqW,Arb,AqZ,Aq5,AqR,Aqv,Aqr,Arp,Arl,reduceIte,AqP];done) | simp[ha]),trivial⟩ (.cons_cons _ (.slnil)))
  refine CM<|AC (Dj rfl rfl) ?_;exact Ye (by rw[Ana hi0 hend])
 ·refine C2 (EP rfl rfl) rfl<|AD<|AG (CJ ?_);refine Bl<|G4 rfl rfl<|Cf<|AG (CJ ?_);refine AL<|Bl<|AU<|C2 (EP rfl rfl) rfl<|C2 (Cj rfl) rfl<|AD<|AG (CJ ?_);refine Bl<|AU<|C2 (AQ rfl) rfl<|Em call74 rfl (λw hw=>Ai8 (he:Int) w) rfl<|C2 (QX rfl) rfl<|AD<|AG (CJ ?_);refine JD (b:=!(He (he:Int))) rfl (λhb=>?_) (λhb=>?_)
  ·have g19:=hb;try simp only[Aqq,Aqt] at g19
   refine Bl<|AU<|C2 (Cj rfl) rfl<|AD<|AG (CJ ?_);refine CM<|Dc<|A5<|Dc<|A5<|AC (Dj rfl rfl) ?_;exact Ye (by rw[Aoj hi0 hf hlu14 hhu14 hb])
  ·have g19:=hb;try simp only[Aqq,Aqt] at g19
   refine Cf<|Bm<|AG<|AA (k+hg) ?_ ⟨rfl,rfl,rfl,trivial⟩ (.cons_cons _ (.slnil));exact Alp hi0 hf hlu14 hhu14 hb
theorem Agn (p:List UInt8)(hp:Ae p≤281474976710656)(w:World):Calls prog 105 [.string (B p)].toArray w (Qs w (.bool (Ib p))):=Q.Fn0.old [.string (B p)] (Q.nDecimal_w (Ae p+1) p _ (Aa3 hp)) w
theorem Ajf (m:Int)(h0:-9223372036854775808≤m)(h1:m≤9223372036854775807)(w:World)(hE:Env w):Calls prog 47 [.int .i64 (m)].toArray w (Qs w (.string (B (Lib.itoa m)))):=by
 refine V8 (n:=5) func47 rfl ntmps47 rfl<|Bl<|AU<|C2 (Cj rfl) rfl<|AD<|AG (CJ ?_);refine Bl<|AU<|C2 (AQ rfl) rfl<|Em call70 rfl (λw hw=>AiF m Ab Ab w (hE.st0 hw)) rfl<|C2 (Cj rfl) rfl<|AD<|AG (CJ ?_);refine CM<|AC (Dj rfl rfl) ?_;exact Ye (by first | rfl | simp[])
theorem AkF (p:List UInt8)(hp:Ae p≤281474976710656)(w:World)(hE:Env w):Calls prog 76 [.string (B (p))].toArray w (Qs w (.tuple #[.int .i64 (BN p),.int .i64 (Cr p)])):=by
 refine V8 (n:=22) func76 rfl ntmps76 rfl<|Bl<|AU<|C2 (Cj rfl) rfl<|C2 (Cj rfl) rfl<|AD<|AG (CJ ?_);refine Bl<|Bl<|AU<|C2 (AQ rfl) rfl<|Em call105 rfl (λw hw=>Agn p (by first | omega | (simp;done) | (simp;omega) | (simp at *;omega)) w) rfl<|C2 (QX rfl) rfl<|AD<|AG (CJ ?_);refine JD (b:=!(Ib p)) rfl (λhb=>?_) (λhb=>?_)
 ·have hf:=hb;try simp only[Aqq,Aqt] at hf
  have ha:=hb;try simp only[Aqq,Aqt,Aqu,AqF,Aq6,Arm,Arj,AqD,not_or,Int.not_lt,Int.not_le] at ha
  refine Bl<|AU<|C2 (Cj rfl) rfl<|C2 (Cj rfl) rfl<|AD<|AG (CJ ?_);refine CM<|A5<|AC (Eb rfl rfl rfl) ?_;exact Ye (by simp[BN,Cr,ha])
 ·have hf:=hb;try simp only[Aqq,Aqt] at hf
  have ha:=hb;try simp only[Aqq,Aqt,Aqu,AqF,Aq6,Arm,Arj,AqD,not_or,Int.not_lt,Int.not_le] at ha
  refine Cf<|AG (CJ ?_);refine Bl<|AU<|C2 (AQ rfl) rfl ?_;rcases AjG (p:=p) (by assumption) with⟨av,hav,hal,hah⟩ | hav
  ·refine Em call106 rfl (λw _=>AlG p (by first | omega | (simp;done) | (simp;omega) | (simp at *;omega)) av hav w) rfl<|C2 (AQ rfl) rfl<|C2 (EP rfl rfl) rfl<|C2 (EP rfl rfl) rfl<|C2 (Cj rfl) rfl<|C2 (Cj rfl) rfl<|AD<|AG (CJ ?_);refine Bl<|AM [(2,.int .i64 (0)),(3,.int .i64 (0)),(4,.int .i64 (av)),(20,.bool (!(Gf av)))] [] (φ:=True) ?_ (λhh=>?_)
   ·exact AU<|C2 (AQ rfl) rfl<|C2 (Aaw underlying144 rfl) rfl<|C2 (AQ rfl) rfl<|BL rfl rfl rfl<|C2 (AQ rfl) rfl<|BL rfl rfl rfl<|Em call107 rfl (λw hw=>Akp av w) rfl<|BL rfl rfl rfl<|C2 (QX rfl) rfl<|C2 (DE rfl rfl rfl) rfl<|AD<|AG (IL trivial ⟨rfl,rfl,rfl,rfl,trivial⟩ .slnil)
   refine JD (b:=!(Gf av)) rfl (λhd=>?_) (λhd=>?_)
   ·have hg:=hd;try simp only[Aqq,Aqt] at hg
    have he:=hd;try simp only[Aqq,Aqt,Aqu,AqF,Aq6,Arm,Arj,AqD,not_or,Int.not_lt,Int.not_le] at he
    refine Bl<|AU<|C2 (Cj rfl) rfl<|C2 (Cj rfl) rfl<|AD<|AG (CJ ?_);refine CM<|A5<|AC (Eb rfl rfl rfl) ?_;exact Ye (by simp[BN,Cr,hav,ha,he])
   ·have hg:=hd;try simp only[Aqq,Aqt] at hg
    have he:=hd;try simp only[Aqq,Aqt,Aqu,AqF,Aq6,Arm,Arj,AqD,not_or,Int.not_lt,Int.not_le] at he
    refine Cf<|AG (CJ ?_);refine Bl<|AU<|C2 (AQ rfl) rfl<|C2 (Cj rfl) rfl<|C2 (Cj rfl) rfl<|AD<|AG (CJ ?_);refine CM<|AC (Eb rfl rfl rfl) ?_;exact Ye (by simp[BN,Cr,hav,ha,he])
  ·refine Adc call106 rfl (λw hw=>AcR p (by first | omega | (simp;done) | (simp;omega) | (simp at *;omega)) hav w (hE.st0 hw)) rfl ?_;rintro _ _ ⟨am,at_,ab,rfl,rfl⟩;refine C2 (AQ rfl) rfl<|C2 (EP rfl rfl) rfl<|C2 (EP rfl rfl) rfl<|C2 (Cj rfl) rfl<|C2 (Cj rfl) rfl<|AD<|AG (CJ ?_);refine Bl<|AM [(2,.int .i64 (0)),(3,.int .i64 (0)),(4,.int .i64 (am)),(20,.bool (Af))] [] (φ:=True) ?_ (λhi=>?_)
   ·exact AU<|C2 (AQ rfl) rfl<|C2 (AkP underlying144 rfl) rfl<|C2 (AQ rfl) rfl<|Dh rfl rfl rfl rfl<|Dh rfl rfl rfl rfl<|Dh rfl rfl rfl rfl<|C2 (E2 rfl rfl rfl) rfl<|AD<|AG (IL trivial ⟨rfl,rfl,rfl,rfl,trivial⟩ .slnil)
   refine G4 rfl rfl<|Bl<|AU<|C2 (Cj rfl) rfl<|C2 (Cj rfl) rfl<|AD<|AG (CJ ?_);refine CM<|A5<|AC (Eb rfl rfl rfl) ?_;exact Ye (by simp[BN,Cr,hav,ha])
section
variable {P : Program} {n : Nat} {w0 : World} {M : List Nat} {l : Fr} {H : List Ent} {d : Option Nat} {x y : Operand} {ty t t' : TypeId} {pos : String} {af : Array Edge} {g : Option (Nat × Bool)} {k : IntKind} {p q z : Int}
end
theorem Ww (h0:-9223372036854775808≤m)(h1:m≤9223372036854775807) : -9223372036854775808≤m.tdiv 10∧m.tdiv 10≤9223372036854775807:=by
 have e:m.tdiv 10=if 0≤m then m/10 else -((-m)/10):=by
  split
  ·rename_i h;exact Int.tdiv_eq_ediv_of_nonneg h
  ·rename_i h
   have:=Int.tdiv_eq_ediv_of_nonneg (a:=-m) (b:=10) Ab;rw[Int.neg_tdiv] at this;omega
 rw[e];split<;>omega
theorem AeE (m:Int) : -10<m.tmod 10∧m.tmod 10<10:=by
 by_cases h:0≤m
 ·have:=Int.tmod_eq_emod_of_nonneg (a:=m) (b:=10) h;omega
 ·have:=Int.tmod_eq_emod_of_nonneg (a:=-m) (b:=10) Ab;rw[Int.neg_tmod] at this;omega
theorem Wg {n:Int}{s:Aw}(h0:-9223372036854775808≤n)(h1:n≤9223372036854775807)(b0:-9223372036854775808≤m)(b1:m≤9223372036854775807)(hi:AcE n m s)(hc:(!Ac (m=0)||decide (s=[]))=Af) :
  ∃s',E3 s m=Ad (.next (s',m.tdiv 10))∧AcE n (m.tdiv 10) s'∧(m.tdiv 10).natAbs+(if s'=[] then 1 else 0)<m.natAbs+(if s=[] then 1 else 0):=by
 obtain⟨d1,hd1,hd2,hd3⟩:=Agg m;have hl:=Alw h0 h1 hi;have hx:=Ajk hi hc hd2;have t1:=Ww b0 b1;have t2:=AeE m;have hd:(bif Ac (m.tmod 10<0) then -(m.tmod 10) else m.tmod 10)=(d1:Int):=by rw[Bool.cond_eq_ite];exact hd1
 refine⟨_,?_,hx.1,hx.2⟩;unfold E3;rw[hd,AX hc,Cn (p:=imp _ _) (by
  cases Ac (m.tmod 10<0) with
  | false=>rfl
  | true=>exact EV Ab Ab),AH Ab Ab,C0 Ab Ab,C0 Ab Am,AH Ab (by rw[X2 hd3];simp;omega),AH Ab Ab]
theorem PD {n:Int}(h0:-9223372036854775808≤n)(h1:n≤9223372036854775807):∀(F:Nat) (m:Int) (s:Aw),-9223372036854775808≤m→m≤9223372036854775807→AcE n m s→m.natAbs+(if s=[] then 1 else 0)<F→
  Cp (λσ:Aw×Int=>E3 σ.1 σ.2) F (s,m)=Ad (.go (Lib.decDigits n.natAbs))
 | 0,_,_,_,_,_,h=>by omega
 | F+1,m,s,b0,b1,hi,h=>by
  cases hc:(!Ac (m=0)||decide (s=[])) with
  | true=>
   obtain⟨s',e,hi',hm⟩:=Wg h0 h1 b0 b1 hi hc;have t1:=Ww b0 b1;exact(AmR (body:=λσ:Aw×Int=>E3 σ.1 σ.2) e).trans (PD h0 h1 F _ s' t1.1 t1.2 hi' Ab)
  | false=>
   rw[Alx hi hc];refine AmQ (body:=λσ:Aw×Int=>E3 σ.1 σ.2) ?_;show E3 s m=_;unfold E3;rw[AF hc]
theorem Aa4 {n:Int}(g:BJ .i64 n=Af):Vl (n.natAbs+2) n=Ad (Lib.itoa n):=by
 obtain⟨h0,h1⟩:=K6 g;have e:=PD h0 h1 (n.natAbs+2) n [] h0 h1 (.inl ⟨rfl,rfl⟩) Aj;unfold Vl;refine(Bu e).trans ?_;show Ka n _=_;unfold Ka
 by_cases hn:n<0
 ·rw[AX (Aqo hn),Aed rfl hn];have:=Vu n h0 h1;rw[← Aed rfl hn] at this;rw[AH Ab (by simp at this ⊢;omega)]
 ·rw[AF (Aqn hn),← Alv rfl hn]
end Go.Proofs.YtiddaamglmmnaaaGreatDoor
namespace Go.Proofs
open Go.Shelf
end Go.Proofs
namespace Go.Proofs.YtiddaamglmmnaaaGreatDoor.Q
open Go Go.RowKit
set_option linter.unusedVariables false
theorem H4 (m:Int)(g:BJ .i64 m=Af):Fn0 prog GE 47 [rI .i64 m] (rS (Lib.itoa m)):=Fn0.of_old (vs:=[.int .i64 m]) λw Z hf he=>Ajf m (K6 g).1 (K6 g).2 w (he w hf)
theorem AmW (m:Int)(g:BJ .i64 m=Af):Fn0 prog GE 70 [rI .i64 m] (rS (Lib.itoa m)):=Fn0.of_old (vs:=[.int .i64 m]) λw Z hf he=>AiF m (K6 g).1 (K6 g).2 w (he w hf)
theorem QT (s:Aw)(g:De 1 (Ae s)=Af):Fn0 prog GE 76 [rS s] (Du [rI .i64 (BN s),rI .i64 (Cr s)]):=(Fn0.of_old (vs:=[.string (B s)]) λw Z hf he=>AkF s (by simp[De] at g;omega) w (he w hf)).rle If.tup2
theorem Aen (s:Aw)(c:UInt8):Fn0 prog GE 148 [rS s,rS [c]] (rI .i64 (Lib.countByte s c)):=Fn0.of_id (vs:=[.string (B s),.string (B [c])]) λw=>by have:=Tryz.strings_Count_one (B s) c w;rwa [AcW] at this
theorem AiM (s:Aw):Fn0 prog GE 50 [rS s] (rB (KH s)):=Fn0.of_old (vs:=[.string (B s)]) λw Z hf he=>AoY s w
theorem Acq (s:Aw):Fn0 prog GE 54 [rS s] (rB (GS s)):=Fn0.of_old (vs:=[.string (B s)]) λw Z hf he=>AmK s w
theorem AdV (s:Aw)(g:De 1 (Ae s)=Af):Fn0 prog GE 67 [rS s] (rB (KH s)):=Ane (Ae s+1) s _ (Alr g)
theorem AdG (s:Aw)(g:De 1 (Ae s)=Af):Fn0 prog GE 83 [rS s] (rB (GS s)):=AiQ (Ae s+1) s _ (Agb g)
theorem MJ (m:Int)(g:BJ .i64 m=Af):Fn0 prog GE 64 [rI .i64 m] (rS (Lib.itoa m)):=Acu (m.natAbs+2) m _ (Aa4 g)
theorem QS (s:Aw)(g:De 1 (Ae s)=Af):Fn0 prog GE 91 [rS s] (Du [rI .i64 (BN s),rI .i64 (Cr s)]):=Af9 (Ae s+1) s _ (Acs g)
open Go Go.RowKit Go.ChangeShapes Go.Deep
set_option linter.unusedSimpArgs false
def ZW (W:World):Fz:=⟨λb=>W.heap[b]?,λ_ _=>Ai⟩
theorem ZW.frz (W:World):Frz (ZW W) W:=⟨λ_ _ h=>h,λ_ _ _ h=>by cases h⟩
def Opn (P:Program)(e:TypeId){α:Type}(enc:α→List Rp)(ok:α→Bool):Prop:=
 ∀{H:Type} {encH:TypeId×Value→H} {W:World} {sp:Nat→Bool} {held:Bool} {n:Nat} {cs:List Value} {x:DataW H×List MemPlace},DataW.trod encH P W 0 sp held n e cs=Ad x→∃y:α,ok y=Af∧BM (ZW W) (enc y) cs
variable{W:World}
section
variable {P : Program} {e t : TypeId}
theorem Opn.int {k:IntKind}{enc:Int→List Rp}(ht:P.underlying e=Ad (.int k))(he:∀n,enc n=[rI k n]):Opn P e enc (BJ k):=λh=>by
 obtain⟨n,rfl,_,hwf⟩:=DataW.trod_int ht h;exact⟨n,hwf,by rw[he];exact⟨rfl,trivial⟩⟩
theorem XG {a:Addr}{v:Value}(h:W.cell? a=Ad v):a.spot=Ai∧Nz (ZW W) a.block a.off=Ad v:=by
 unfold World.cell? at h;unfold Nz ZW;dsimp only
 cases hh:W.heap[a.block]? with
 | none=>rw[hh] at h;cases h
 | some o=>
  rw[hh] at h
  cases o with
  | cells cs t fz=>
   cases hs:a.spot with
   | none=>simp[hs] at h;exact⟨rfl,h⟩
   | some _=>simp[hs] at h
  | _=>simp at h
theorem T5 {Z:Fz}{cs:List Value}{o:Nat}(h:Ae cs=o):BM Z [] (cs.drop o):=by rw[List.drop_of_length_le Ab];trivial
theorem Ei {Z:Fz}{cs:List Value}{o s o':Nat}{rs rs':List Rp}(h:BM Z rs ((cs.drop o).take s))(ho:o+s=o')(h2:BM Z rs' (cs.drop o')):BM Z (rs++rs') (cs.drop o):=by
 rw[← Ard s (cs.drop o),Arq];subst ho;exact h.append h2
end
theorem Ajd {w:World}(hw:Frz (ZW W) w):W.heap.size≤w.heap.size:=by
 rcases Nat.eq_zero_or_pos W.heap.size with h | h
 ·omega
 ·have h1:W.heap[W.heap.size-1]? =Ad (W.heap[W.heap.size-1]'(Ab)):=Array.getElem?_eq_getElem Ab;have:=(Array.getElem?_eq_some_iff.1 (hw _ _ h1)).1;omega
theorem Age (hE:Env W):GE (ZW W):=λw hw=>by
 have hb:Below W.heap.size W { w with os:=W.os,tape:=W.tape,output:=W.output }:=⟨rfl,rfl,rfl,(show W.heap.size≤w.heap.size from Ajd hw),λk hk=>by
  have h1:W.heap[k]? =Ad (W.heap[k]'hk):=Array.getElem?_eq_getElem hk;rw[h1];exact hw k _ h1⟩
 have hE2:=hE.st0 (St.of_below hb);exact⟨Zf.block { w with os:=W.os,tape:=W.tape,output:=W.output } w (λ_ _=>rfl) hE2.tabs,hE2.size⟩
theorem Ahn (hE:Env W):St ⟨W,ZW W,[],GE,[]⟩ [] (ZW W) W where
 os:=rfl
 tape:=rfl
 output:=rfl
 size:=Aq7 _
 old:=λ_ _ _=>rfl
 has:=λ_ h=>by cases h
 own:=λ_ h=>by cases h
 dis:=.nil
 frz:=ZW.frz W
 le:=Fz.le.refl _
 new:=λ_ _ h=>.inl h
 zdis:=λ_ h=>by cases h
 env:=Age hE
 emono:=λh hg=>GE.mono h hg
 gst:=RD.none rfl
theorem Aho {W':World}{Z Z':Fz}{E:Fz→Prop}{H:List Ent}(h:St ⟨W,Z,[],E,[]⟩ H Z' W'):Below W.heap.size W W':=⟨h.os,h.tape,h.output,h.size,λk hk=>h.old k hk Aj⟩
def I2 (P:Program)(e:TypeId){α:Type}(enc:α→List Rp)(ok:α→Bool):Prop:=
 ∀{H:Type} {encH:TypeId×Value→H} {W:World} {sp:Nat→Bool} {held:Bool} {n:Nat} {cs:List Value} {x:DataW H×List MemPlace},DataW.trod encH P W 0 sp held n e cs=Ad x→Rows.uptoBulk x.1≤1048576→∃y:α,ok y=Af∧BM (ZW W) (enc y) cs
theorem AjA {H:Type}(d:DataW H):1≤Rows.uptoBulk d:=by
 cases d with
 | lit l=>cases l<;>simp[Rows.uptoBulk]
 | _=>simp[Rows.uptoBulk]
theorem MO {H:Type}:∀{ds:List (DataW H)} {d:DataW H},d∈ds→Rows.uptoBulk d≤Rows.uptoBulkAll ds
 | [],_,h=>by cases h
 | x::r,d,h=>by
  rw[Rows.uptoBulkAll];rcases List.mem_cons.1 h with rfl | h
  ·omega
  ·have:=MO h;omega
theorem Abi {H:Type}:∀(ds:List (DataW H)),Ae ds≤Rows.uptoBulkAll ds
 | []=>AqL _
 | x::r=>by
  rw[Rows.uptoBulkAll];have:=Abi r;have:=AjA x;simp only[Aqp];omega
variable{α:Type}{ok:α→Bool}{enc:α→List Rp}
section
variable {P : Program} {e t : TypeId}
theorem Opn.toB (h:Opn P e enc ok):I2 P e enc ok:=λhx _=>h hx
theorem I2.int {k:IntKind}{enc:Int→List Rp}(ht:P.underlying e=Ad (.int k))(he:∀n,enc n=[rI k n]):I2 P e enc (BJ k):=Opn.toB (Opn.int ht he)
theorem I2.str {enc:Aw→List Rp}(ht:P.underlying e=Ad .string)(he:∀n,enc n=[rS n]):I2 P e enc Qb:=λh hb=>by
 obtain⟨s,rfl,hx,hl⟩:=DataW.trod_string ht h;subst hx;simp only[Rows.uptoBulk] at hb;exact⟨s.data.toList,Aqo Ab,by rw[he];exact⟨congrArg Value.string (ApW s),trivial⟩⟩
theorem I2.slice [Inhabited α]{sz:Nat}(ht:P.underlying t=Ad (.slice e))(hc:P.cellsOf e=sz)(hsz:0<sz)(h:I2 P e enc ok)(hlen:∀y,Ae (enc y)=sz){enc':List α→List Rp}(he:∀ys,enc' ys=[Cg sz (ys.map enc)]) :
  I2 P t enc' (λys=>ys.all ok&&Ac (Ae ys≤1048576)):=fun {H encH W sp held n cs x} hx hB=>by
 rcases open_slice ht hx with⟨rfl,_⟩ | ⟨a,len,cap,m,n',D,Pl,rfl,hb,hl,hm,hmm,hxe,hel⟩
 ·exact⟨[],Aj,by rw[he];exact⟨SlZ.nil sz _,trivial⟩⟩
 ·have hlm:len≤m:=by rw[hmm];split<;>omega
  subst hxe;simp only[Rows.uptoBulk] at hB;have hlb:len≤1048576:=by
   have:=Abi ((As len).map D);rw[Aqz,List.length_range] at this;omega
  have each:∀i,i<len→∃y:α,ok y=Af∧∃cs',W.cells? 0 (a.add (i*sz)) sz=Ad cs'∧BM (ZW W) (enc y) cs':=λi hi=>by
   obtain⟨cs',h1,h2⟩:=hel i Ab;obtain⟨y,hy,hr⟩:=h h2 (by
    have:=MO (List.mem_map.2 ⟨i,List.mem_range.2 hi,rfl⟩:D i∈(As len).map D);show Rows.uptoBulk (D i)≤1048576;omega)
   rw[hc] at h1;exact⟨y,hy,cs',h1,hr⟩
  obtain⟨f,hf⟩:=choose_lt each;refine⟨(As len).map f,?_,?_⟩
  ·simp only[Aqu,AqX,List.mem_map,List.mem_range,Aqq];refine⟨?_,by simpa using hlb⟩;rintro _ ⟨i,hi,rfl⟩;exact(hf i hi).1
  ·rw[he];refine⟨⟨Ad a,cap,Aj,by simpa using hl,hm,(λh=>by cases h),λi c hi=>?_⟩,trivial⟩;rw[Aro,AqI] at hi;have hil:i<len:=by
    cases hq:(As len)[i]? with
    | none=>rw[hq] at hi;cases hi
    | some _=>have:=(List.getElem?_eq_some_iff.1 hq).1;simpa using this
   rw[List.getElem?_range hil] at hi;simp only[Option.map_some,Option.some.injEq,Function.comp] at hi;subst hi;obtain⟨_,cs',h1,hr⟩:=hf i hil;obtain⟨_,hcl,hcell⟩:=World.cells?_some h1;have hsp:a.spot=Ai:=by
    obtain⟨_,cs0,g1,_⟩:=hf 0 Ab;obtain⟨_,gcl,gcell⟩:=World.cells?_some g1;have h0:=gcell 0 hsz;rw[Aqx Ab] at h0;have:=(XG h0).1;simpa[Addr.add] using this
   refine⟨hlen _,a,rfl,hsp,λj r hj=>?_⟩;obtain⟨u,hu,hp⟩:=hr.at hj;have hjs:j<sz:=by have:=(List.getElem?_eq_some_iff.1 hj).1;rw[hlen] at this;exact this
   have h3:=hcell j hjs;rw[hu] at h3;have h4:=(XG h3).2;refine⟨u,?_,hp⟩;have e1:((a.add (i*sz)).add j).block=a.block:=by simp only[Addr.add];split<;>split<;>rfl
   have e2:((a.add (i*sz)).add j).off=a.off+(i*sz+j):=by simp only[Addr.add];split<;>split<;>simp_all<;>omega
   rw[e1,e2] at h4;exact h4
theorem DD {H:Type}{xs:List (DataW H×List MemPlace)}{i:Nat}(hi:i<Ae xs)(h:Rows.uptoBulk (DataW.agg (xs.map (·.1)))≤1048576):Rows.uptoBulk (xs[i]).1≤1048576:=by
 rw[Rows.uptoBulk] at h;have:=MO (List.mem_map.2 ⟨xs[i],List.getElem_mem hi,rfl⟩:(xs[i]).1∈xs.map (·.1));omega
theorem I2.val (h:I2 P e enc ok){r:α→Rp}(he:∀y,enc y=[r y]){H:Type}{encH:TypeId×Value→H}{sp:Nat→Bool}{held:Bool}{v:Value}{d:DataW H}{ps:List MemPlace}
  (hone:v.cells = #[v]) (ht:DataW.Trod encH P W 0 sp held e v d ps) (hb:Rows.uptoBulk d≤1048576):∃y:α,ok y=Af∧(r y).p (ZW W) v:=by
 obtain⟨fuel,hf⟩:=ht;rw[hone] at hf;obtain⟨y,hy,hr⟩:=h hf hb;rw[he] at hr;exact⟨y,hy,hr.1⟩
end
end Go.Proofs.YtiddaamglmmnaaaGreatDoor.Q
namespace Go.Proofs.YtiddaamglmmnaaaGreatDoor
open Go
set_option linter.unusedVariables false
def AiO (s:Aw)(n:Int):Option (Aw×Int):=
 By (!(KH s)) (Ad (([]:Aw),4)) (By (((Ac (n<0))||(Ac (1000000000000<n)))) (Ad (([]:Aw),2)) (Bc (BJ .i64 ((Ae s:Int)+(Ae ([46]:Aw):Int)))<|Bc (BJ .i64 n)<|Bc (BJ .i64 ((Ae (s++([46]:Aw)):Int)+(Ae (Lib.itoa n):Int)))<|By (Ac (64<(Ae ((s++([46]:Aw))++(Lib.itoa n)):Int))) (Ad (([]:Aw),3)) (Ad ((s++([46]:Aw))++(Lib.itoa n),0))))
def AdX (s:Aw)(n:Int):Option (Aw×Int):=
 Bc (De 1 (Ae s))<|By (!(KH s)) (Ad (([]:Aw),4)) (By (((Ac (n<0))||(Ac (1000000000000<n)))) (Ad (([]:Aw),2)) (Bc (BJ .i64 ((Ae s:Int)+(Ae ([46]:Aw):Int)))<|Bc (BJ .i64 n)<|Bc (BJ .i64 ((Ae (s++([46]:Aw)):Int)+(Ae (Lib.itoa n):Int)))<|By (Ac (64<(Ae ((s++([46]:Aw))++(Lib.itoa n)):Int))) (Ad (([]:Aw),3)) (Ad ((s++([46]:Aw))++(Lib.itoa n),0))))
set_option linter.unusedSimpArgs false
theorem VG {s:Aw}{n:Int}(hs:Ae s≤281474976710656)(hn:BJ .i64 n=Af) :
  By (!(KH s)) (Ad (([]:Aw),(4:Int))) (By (((Ac (n<0))||(Ac (1000000000000<n)))) (Ad (([]:Aw),2)) (Bc (BJ .i64 ((Ae s:Int)+(Ae ([46]:Aw):Int)))<|Bc (BJ .i64 n)<|Bc (BJ .i64 ((Ae (s++([46]:Aw)):Int)+(Ae (Lib.itoa n):Int)))<|By (Ac (64<(Ae ((s++([46]:Aw))++(Lib.itoa n)):Int))) (Ad (([]:Aw),3)) (Ad ((s++([46]:Aw))++(Lib.itoa n),0))))=Ad (Df s n,DR s n):=by
 have hb:=K6 hn;have hl:=Vu n hb.1 hb.2;rw[AH Ab Am,Cn hn,AH Ab Am];simp only[Df,DR]
 by_cases hi:KH s=Af
 ·rw[AF (p:=!KH s) (by rw[hi];rfl)]
  cases h:(Ac (n<0)||decide (1000000000000<n)) with
  | true=>
   simp at h;have hz : ¬ (0≤n∧n≤1000000000000):=Ab
   simp only[hi,Arp,AqM hz];rfl
  | false=>
   rw[AF rfl];simp at h;have hz:0≤n∧n≤1000000000000:=Ab
   by_cases h2:(64:Int)<(Ae (s++([46]:Aw)++Lib.itoa n):Int)
   ·rw[AX (Aqo h2)];have : ¬ (Ae (Qr s n))≤64:=λh=>Int.not_lt.2 (Int.ofNat_le.2 h) h2;simp only[hi,Arp,Arc hz,AqM this];rfl
   ·rw[AF (Aqn h2)];have:Ae (Qr s n)≤64:=Int.ofNat_le.1 (Int.not_lt.1 h2);simp only[hi,Arp,Arc hz,Arc this];rfl
 ·rw[AX (p:=!KH s) (by simpa using hi)];simp[hi]
theorem AfY {s:Aw}{n:Int}(g:De 1 (Ae s)=Af)(hn:BJ .i64 n=Af):AiO s n=Ad (Df s n,DR s n):=VG (by simp[De] at g;omega) hn
theorem AcC {s:Aw}{n:Int}(g:De 1 (Ae s)=Af)(hn:BJ .i64 n=Af):AdX s n=Ad (Df s n,DR s n):=(Cn g).trans (VG (by simp[De] at g;omega) hn)
end Go.Proofs.YtiddaamglmmnaaaGreatDoor
namespace Go.Proofs.YtiddaamglmmnaaaGreatDoor.Q
open Go Go.RowKit
set_option linter.unusedVariables false
set_option linter.unusedSimpArgs false
set_option maxRecDepth 100000
set_option maxHeartbeats 4000000
abbrev D8 (x0:Aw)(x1:Int):List Rp:=[rS x0,Bn x1]
theorem AiN (s:Aw)(n:Int)(r:Aw×Int)(h:AiO s n=Ad r):FN 42 (D8 s n) [] (PO (Du (D8 r.1 r.2))):=en func42 ntmps42 Aa λw Z=>AT<|wv (r:=rS ([]:Aw)) Bd<|ms Aa<|BH Aa<|CR AgR Aa (AiM s) Aa Aa<|wv BO<|Be<|BG h (λc1 h2=>AT<|wv (r:=rS ([]:Aw)) Bd<|Bw Aa<|A5<|cs h2▸Ki Akc ⟨Aa,Aa⟩) λc1 h3=>B5<|AM [(0,rS s),(1,Bn n),(15,rB ((Br (n<0))||(Br (1000000000000<n))))] [] (BD Aa<|wv BS<|ms Aa<|Ba (Br (n<0)) (λc4=>CI c4 Aa<|wv (Ax c4)<|AD<|Ce c4) λc4=>wo c4<|ms Aa<|Bt c4 Cw<|D7 Aa c4 Aa<|AD<|Ce c4)<|BG h3 (λc5 h6=>AT<|wv (r:=rS ([]:Aw)) Bd<|Bw Aa<|A5<|cs h6▸Ki Akc ⟨Aa,Aa⟩) λc5 h7=>BQ<|AY Aa<|ck h7 λg8 h9=>wv (Dz g8)<|ms Aa<|ck h9 λha hb=>CR Ui Aa (H4 n ha) Aa Aa<|ck hb λhd he=>wv (Dz hd)<|ms Aa<|BH Aa<|wv B6<|wv Cw<|Be<|BG he (λhf hg=>AT<|wv (r:=rS ([]:Aw)) Bd<|Bw Aa<|A5<|cs hg▸Ki Akc ⟨Aa,Aa⟩) λhf hh=>BQ<|Cy Aa<|cs hh▸Ki Akc ⟨Aa,Aa⟩
theorem TU (s:Aw)(m:Int)(g:De 1 (Ae s)=Af)(gm:BJ .i64 m=Af):Fn0 prog GE 42 (D8 s m) (Du (D8 (Df s m) (DR s m))):=AiN s m _ (AfY g gm)
theorem Agc (s:Aw)(n:Int)(r:Aw×Int)(h:AdX s n=Ad r):FN 61 (D8 s n) [] (PO (Du (D8 r.1 r.2))):=en func61 ntmps61 Aa λw Z=>AT<|wv (r:=rS ([]:Aw)) Bd<|ms Aa<|BH Aa<|ck h λg1 h2=>CR call67 Aa (AdV s g1) Aa Aa<|wv BO<|Be<|BG h2 (λc3 h4=>AT<|wv (r:=rS ([]:Aw)) Bd<|Bw Aa<|A5<|cs h4▸Ki AjZ ⟨Aa,Aa⟩) λc3 h5=>B5<|AM [(0,rS s),(1,Bn n),(15,rB ((Br (n<0))||(Br (1000000000000<n))))] [] (BD Aa<|wv BS<|ms Aa<|Ba (Br (n<0)) (λc6=>CI c6 Aa<|wv (Ax c6)<|AD<|Ce c6) λc6=>wo c6<|ms Aa<|Bt c6 Cw<|D7 Aa c6 Aa<|AD<|Ce c6)<|BG h5 (λc7 h8=>AT<|wv (r:=rS ([]:Aw)) Bd<|Bw Aa<|A5<|cs h8▸Ki AjZ ⟨Aa,Aa⟩) λc7 h9=>BQ<|AY Aa<|ck h9 λha hb=>wv (Dz ha)<|ms Aa<|ck hb λhd he=>CR AgN Aa (MJ n hd) Aa Aa<|ck he λhf hg=>wv (Dz hf)<|ms Aa<|BH Aa<|wv B6<|wv Cw<|Be<|BG hg (λhh hi=>AT<|wv (r:=rS ([]:Aw)) Bd<|Bw Aa<|A5<|cs hi▸Ki AjZ ⟨Aa,Aa⟩) λhh hj=>BQ<|Cy Aa<|cs hj▸Ki AjZ ⟨Aa,Aa⟩
theorem Oy (s:Aw)(m:Int)(g:De 1 (Ae s)=Af)(gm:BJ .i64 m=Af):Fn0 prog GE 61 (D8 s m) (Du (D8 (Df s m) (DR s m))):=Agc s m _ (AcC g gm)
open Go
def S0 (l:(List Int)):Option ((List Int)):=
 Ad l
def Th (l:(List Int))(c:Int):Option (Unit×(List Int)):=
 BB (S0 l) λr1=>Bc (De 1 (Ae r1+Ae ([c]:List Int)))<|some ((),r1++([c]:List Int))
def PK (l:(List Int))(s:Aw):Option (Int×Unit×(List Int)):=
 BB (S0 l) λr1=>Bc (De 1 (Ae r1+Ae s))<|some ((Ae s:Int),(),r1++E7 s)
def Abl (l:Aw):Option Aw:=
 Bc (Ac (0<Ae (E7 l)))<|some l
def Sz (l:(List Int)):Option ((List Int)):=
 Ad l
def Tg (l:(List Int))(c:Int):Option (Unit×(List Int)):=
 BB (Sz l) λr1=>Bc (De 1 (Ae r1+Ae ([c]:List Int)))<|some ((),r1++([c]:List Int))
def PJ (l:(List Int))(s:Aw):Option (Int×Unit×(List Int)):=
 BB (Sz l) λr1=>Bc (De 1 (Ae r1+Ae s))<|some ((Ae s:Int),(),r1++E7 s)
def Abk (l:Aw):Option Aw:=
 Bc (Ac (0<Ae (E7 l)))<|some l
abbrev ifI (t:Nat)(z:Value)(s b:Nat):Prop:=∃inf,prog.info? t=Ad inf∧inf.zero=Ad z∧inf.size=s∧inf.bytes=b
theorem N7:ifI 5 (.int .u8 0) 1 1:=PF Ak
theorem AaM:∃j,prog.info? 138=Ad j∧j.size≠0:=by
  have key:(prog.info? 138).map (λi=>i.size)=Ad 2:=Ak
  obtain⟨j,h1,h2⟩:=Option.map_eq_some_iff.1 key;exact⟨j,h1,by rw[h2];decide⟩
theorem AaN:∃j,prog.info? 138=Ad j:=AaM.imp λ_ h=>h.1
abbrev Lr (x0:Nat)(x1:Value):Ent:=.blk x0 [rP x0 0,rv x1] 138
theorem Abn (ha:Nat)(hb:Value)(l r:(List Int))(h:S0 l=Ad r):FN 165 [rP ha 0] [.blk ha [rv (.pointer Ai),rv hb] 138,.row hb 5 1 (BP CO l)] (λR H=>∃w0:Value,R=rv (.tuple #[])∧H=[Lr ha w0,.row w0 5 1 (BP CO r)]):=en func165 ntmps165 Aa λw Z=>by unfold S0 at h;refine AY Aa<|wv AJ<|wv AB<|wv (Ay 0)<|wv (AhY ⟨_,Zr⟩ Aa)<|Be<|G4 Aa Aa<|BD Aa<|wv (Aau (i:=0) Zr underlying221 AaM Aa Aa Aa)<|C2 (r:=rP ha 0) (AkM func191 Ak Ak Ak Ak Aa) Aa<|wv (Wd (i:=0) underlying221 Zr AaN Aa Aa Ak)<|wv AJ<|wv AB<|us 0 sizeOf135 Aa Aa (Cs Aa) Aa Aa ?_;exact AD<|by cases h;exact LX (r_0 results165) (sC (sC sN)) ⟨hb,Aa,Aa⟩
theorem Wl (ha:Nat)(hb:Value)(l:(List Int))(c:Int)(r:Unit×(List Int))(h:Th l c=Ad r):FN 137 [rP ha 0,rI .u8 c] [.blk ha [rv (.pointer Ai),rv hb] 138,.row hb 5 1 (BP CO l)] (λR H=>∃w0:Value,R=rv (.nilIface)∧H=[Lr ha w0,.row w0 5 1 (BP CO r.2)]):=en func137 ntmps137 Aa λw Z=>by refine AY Aa<|Ca Aa<|ob h λr1 e3 h2=>EG [0,0] call165 (Abn ha hb l r1 e3) ?_;rintro _ _ ⟨v4,rfl,rfl⟩;exact Ca Aa<|wv AJ<|wv AB<|wv (Ay 0)<|ms Aa<|Dy ([c]:List Int) CO EH ys5 yz5 Aa ⟨cO Aa,trivial⟩ E9 λb5=>ck h2 λg7 h8=>E0 2 EH N7 Aa Aa (HJ.w 0 Aa Aa) E9 MK g7 λv6=>by refine wv AJ<|wv AB<|us 2 Py Aa Aa (Dp 0 Aa) Aa Aa ?_;refine Dt<|Bw Aa<|Jp [2] ?_;exact cs h8▸AC (Dj results137 AW) (sK 3) ⟨v6,Aa,Aa⟩
theorem Ty (ha:Nat)(hb:Value)(l:(List Int))(s:Aw)(r:Int×Unit×(List Int))(h:PK l s=Ad r):FN 135 [rP ha 0,rS s] [.blk ha [rv (.pointer Ai),rv hb] 138,.row hb 5 1 (BP CO l)] (λR H=>∃w0:Value,R=Du [Bn r.1,rv (.nilIface)]∧H=[Lr ha w0,.row w0 5 1 (BP CO r.2.2)]):=en func135 ntmps135 Aa λw Z=>by refine AY Aa<|Ca Aa<|ob h λr1 e3 h2=>EG [0,0] call165 (Abn ha hb l r1 e3) ?_;rintro _ _ ⟨v4,rfl,rfl⟩;exact Ca Aa<|wv AJ<|wv AB<|wv (Ay 0)<|ms Aa<|ck h2 λg6 h7=>Exists.elim N7 λinf hinf=>H7 (xs:=r1) (i:=1) EH GB hinf.1 hinf.2.1 hinf.2.2.1 hinf.2.2.2 Aa Aa Aa g6 Aa λv5=>by refine wv AJ<|wv AB<|us 1 Py Aa Aa (Dp 0 Aa) Aa Aa ?_;refine Ca Aa<|wv B6<|Bw Aa<|Jp [1] ?_;exact cs h7▸AC (Eb results135 AW AW) (sK 3) ⟨v5,Aa,Aa⟩
theorem AcQ (ha:Nat)(hb:Value)(l r:Aw)(h:Abl l=Ad r):FN 101 [rP ha 0] [.blk ha [rv (.pointer Ai),rv hb] 138,.row hb 5 1 (BP CO (E7 l))] (PO (rS r)):=en func101 ntmps101 Aa λw Z=>by refine AT<|wv (r:=rS ([]:Aw)) Bd<|Cz<|ck h λg1 h2=>KS [0] [⟨[],rP ha 0,0⟩,⟨[0],rP ha 0,0⟩,⟨[1],rP ha 1,0⟩,⟨[2],rv hb,1⟩,⟨[3],rv (slp hb),1⟩,⟨[],rP ha 0,0⟩,⟨[5],rP ha 0,0⟩,⟨[6],rP ha 1,0⟩,⟨[7],rv hb,1⟩,⟨[8],Bn (Ae (E7 l):Int),1⟩,⟨[4,9],rS l,2⟩,⟨[10],rS l,0⟩] (rle [(11,_),(2,[.blk ha [rv (.pointer Ai),rv hb] 138])]) [2] ?_ ?_;refine oq (AQ Aa)<|oq (C4 Aa)<|oq (AI Zq Aa Py Aa Aa)<|of (Bq 0 Z1 Aa Aa Aa)<|of (SU (i:=1) Aa Aa (TG g1))<|oq (AQ Aa)<|oq (C4 Aa)<|oq (AI Zq Aa Py Aa Aa)<|of (Bq 0 Z1 Aa Aa Aa)<|of (CC 1 EH Aa Aa)<|Od Aa (Aob (O1 (i:=1) underlying178 Ak Aa Aa Aa (TG g1) Aa)) ?_;exact oq (Cj Aa)<|Kt;exact CL<|CM<|cs h2▸AC (Dj results101 AW) (sS sN) ⟨Aa,Aa⟩
theorem Abm (ha:Nat)(hb:Value)(l r:(List Int))(h:Sz l=Ad r):FN 165 [rP ha 0] [Lr ha hb,.row hb 5 1 (BP CO l)] (λR H=>∃w0:Value,R=rv (.tuple #[])∧H=[Lr ha w0,.row w0 5 1 (BP CO r)]):=en func165 ntmps165 Aa λw Z=>by unfold Sz at h;exact AY Aa<|wv AJ<|wv AB<|wv (Ay 0)<|wv (Of ⟨_,Zr⟩ Aa)<|Be<|DZ Aa Aa<|AY Aa<|wv AJ<|wv AB<|wv (Ay 0)<|ms Aa<|wv (Acf Zr AaN Aa Aa)<|Be<|DZ Aa Aa<|Cf<|by cases h;exact LX (r_0 results165) (sC (sC sN)) ⟨hb,Aa,Aa⟩
theorem Wk (ha:Nat)(hb:Value)(l:(List Int))(c:Int)(r:Unit×(List Int))(h:Tg l c=Ad r):FN 137 [rP ha 0,rI .u8 c] [Lr ha hb,.row hb 5 1 (BP CO l)] (λR H=>∃w0:Value,R=rv (.nilIface)∧H=[Lr ha w0,.row w0 5 1 (BP CO r.2)]):=en func137 ntmps137 Aa λw Z=>by refine AY Aa<|Ca Aa<|ob h λr1 e3 h2=>EG [0,0] call165 (Abm ha hb l r1 e3) ?_;rintro _ _ ⟨v4,rfl,rfl⟩;exact Ca Aa<|wv AJ<|wv AB<|wv (Ay 0)<|ms Aa<|Dy ([c]:List Int) CO EH ys5 yz5 Aa ⟨cO Aa,trivial⟩ E9 λb5=>ck h2 λg7 h8=>E0 2 EH N7 Aa Aa (HJ.w 0 Aa Aa) E9 MK g7 λv6=>by refine wv AJ<|wv AB<|us 2 Py Aa Aa (Dp 0 Aa) Aa Aa ?_;refine Dt<|Bw Aa<|Jp [2] ?_;exact cs h8▸AC (Dj results137 AW) (sK 3) ⟨v6,Aa,Aa⟩
theorem Tx (ha:Nat)(hb:Value)(l:(List Int))(s:Aw)(r:Int×Unit×(List Int))(h:PJ l s=Ad r):FN 135 [rP ha 0,rS s] [Lr ha hb,.row hb 5 1 (BP CO l)] (λR H=>∃w0:Value,R=Du [Bn r.1,rv (.nilIface)]∧H=[Lr ha w0,.row w0 5 1 (BP CO r.2.2)]):=en func135 ntmps135 Aa λw Z=>by refine AY Aa<|Ca Aa<|ob h λr1 e3 h2=>EG [0,0] call165 (Abm ha hb l r1 e3) ?_;rintro _ _ ⟨v4,rfl,rfl⟩;exact Ca Aa<|wv AJ<|wv AB<|wv (Ay 0)<|ms Aa<|ck h2 λg6 h7=>Exists.elim N7 λinf hinf=>H7 (xs:=r1) (i:=1) EH GB hinf.1 hinf.2.1 hinf.2.2.1 hinf.2.2.2 Aa Aa Aa g6 Aa λv5=>by refine wv AJ<|wv AB<|us 1 Py Aa Aa (Dp 0 Aa) Aa Aa ?_;refine Ca Aa<|wv B6<|Bw Aa<|Jp [1] ?_;exact cs h7▸AC (Eb results135 AW AW) (sK 3) ⟨v5,Aa,Aa⟩
theorem AcP (ha:Nat)(hb:Value)(l r:Aw)(h:Abk l=Ad r):FN 101 [rP ha 0] [Lr ha hb,.row hb 5 1 (BP CO (E7 l))] (PO (rS r)):=en func101 ntmps101 Aa λw Z=>by refine AT<|wv (r:=rS ([]:Aw)) Bd<|Cz<|ck h λg1 h2=>KS [0] [⟨[],rP ha 0,0⟩,⟨[0],rP ha 0,0⟩,⟨[1],rP ha 1,0⟩,⟨[2],rv hb,1⟩,⟨[3],rv (slp hb),1⟩,⟨[],rP ha 0,0⟩,⟨[5],rP ha 0,0⟩,⟨[6],rP ha 1,0⟩,⟨[7],rv hb,1⟩,⟨[8],Bn (Ae (E7 l):Int),1⟩,⟨[4,9],rS l,2⟩,⟨[10],rS l,0⟩] (rle [(11,_),(2,[Lr ha hb])]) [2] ?_ ?_;refine oq (AQ Aa)<|oq (C4 Aa)<|oq (AI Zq Aa Py Aa Aa)<|of (Bq 0 Z1 Aa Aa Aa)<|of (SU (i:=1) Aa Aa (TG g1))<|oq (AQ Aa)<|oq (C4 Aa)<|oq (AI Zq Aa Py Aa Aa)<|of (Bq 0 Z1 Aa Aa Aa)<|of (CC 1 EH Aa Aa)<|Od Aa (Aob (O1 (i:=1) underlying178 Ak Aa Aa Aa (TG g1) Aa)) ?_;exact oq (Cj Aa)<|Kt;exact CL<|CM<|cs h2▸AC (Dj results101 AW) (sS sN) ⟨Aa,Aa⟩
abbrev Hd (x0:Nat)(x1:Value)(x2:Aw):List Ent:=[.bld 138 5 x0 x1 x2]
theorem Ec (b:Nat)(v:Value)(l:Aw)(c:Int)(g1:De 1 (Ae l+1)=Af)(g2:BJ .u8 c=Af):FN 137 [rP b 0,rI .u8 c] (Hd b v l) (λR H=>∃w0:Value,R=rv .nilIface∧H=(Hd b w0 (l++[Ar c.toNat]))):=by
  have hc:E7 (l++[Ar c.toNat])=E7 l++[c]:=by
    have:=(by simpa[BJ,IntKind.min,IntKind.max,IntKind.signed,IntKind.bits] using g2:0≤c∧c≤255)
    simp only[E7,Arf,AqY,List.map_nil]
    congr 2
    simp;omega
  refine Fn.bld (res:=rv .nilIface) λp hp=>?_;rw[hc];rcases hp with rfl | rfl
  · refine(Wl b v (E7 l) c (((),E7 l++[c])) ?_).sub (L3.refl _) (λr H h=>by obtain⟨w0,h1,h2⟩:=h;exact⟨w0,h1,h2⟩)
    simp only[Th,S0,BB,Ew];simp[Bc,g1]
  · refine(Wk b v (E7 l) c (((),E7 l++[c])) ?_).sub (L3.refl _) (λr H h=>by obtain⟨w0,h1,h2⟩:=h;exact⟨w0,h1,h2⟩)
    simp only[Tg,Sz,BB,Ew];simp[Bc,g1]
theorem LW (b:Nat)(v:Value)(l s:Aw)(g1:De 1 (Ae l+Ae s)=Af):FN 135 [rP b 0,rS s] (Hd b v l) (λR H=>∃w0:Value,R=Du [Bn (Ae s:Int),rv .nilIface]∧H=(Hd b w0 (l++s))):=by
  have hc:E7 (l++s)=E7 l++E7 s:=by simp[E7]
  refine Fn.bld (res:=Du [Bn (Ae s:Int),rv .nilIface]) λp hp=>?_;rw[hc];rcases hp with rfl | rfl
  · refine(Ty b v (E7 l) s (((Ae s:Int),(),E7 l++E7 s)) ?_).sub (L3.refl _) (λr H h=>by obtain⟨w0,h1,h2⟩:=h;exact⟨w0,h1,h2⟩)
    simp only[PK,S0,BB,Ew];simp[Bc,g1]
  · refine(Tx b v (E7 l) s (((Ae s:Int),(),E7 l++E7 s)) ?_).sub (L3.refl _) (λr H h=>by obtain⟨w0,h1,h2⟩:=h;exact⟨w0,h1,h2⟩)
    simp only[PJ,Sz,BB,Ew];simp[Bc,g1]
theorem Agy (b:Nat)(v:Value)(l:Aw)(g1:Br (0<Ae l)=Af):FN 101 [rP b 0] (Hd b v l) (PO (rS l)):=by
  refine Fn.bldS (res:=rS l) λp hp=>?_;rcases hp with rfl | rfl
  · exact AcQ b v l l (by simp only[Abl,Ew];simp[Bc,g1])
  · exact AcP b v l l (by simp only[Abk,Ew];simp[Bc,g1])
end Go.Proofs.YtiddaamglmmnaaaGreatDoor.Q
namespace Go.Proofs.YtiddaamglmmnaaaGreatDoor
open Go
set_option linter.unusedVariables false
structure Av where
 aa:Int
 ay:Int
 au:Aw
 fN:Int
 deriving DecidableEq,Inhabited
def RR (s:Aw)(ha:Int):Option (Stp Int (Out Bool Unit)):=
 By (Ac (ha<(Ae s:Int))) (Bc (CE ha (Ae s:Int))<|By (((Ac ((BA s ha)<32))||(Ac (126<(BA s ha))))) (Ad (.out (.ret Ah))) (Bc (BJ .i64 (ha+1))<|some (.next (ha+1)))) (Ad (.out (.go ())))
def OG :Option Bool:=
 Ad Af
def PY (F:Nat)(s:Aw):Option Bool:=
 BB (Cp (λσ=>RR s σ) F 0) (Cb λν=>OG )
def CY (ok:Bool)(i:Int):Option Int:=
 By ok (Bc (BJ .i64 (i+1))<|some (i+1)) (Ad (-1))
def Wc (F:Nat)(c:Av):Option Bool:=
 Bc (imp (Ac (c.aa=4)) (imp (Ac (c.ay=0)) (imp (Ac (c.fN=0)) (PY F c.au).isSome)))<|some ((Ac (c.aa=4))&&((Ac (c.ay=0))&&((Ac (c.fN=0))&&(ov (PY F c.au)))))
def Yk (F:Nat)(ha hb:(List Av)→Int→Int→Option Int)(v:(List Av))(i:Int):Option Int:=
 By (((Ac (i<0))||(Ac ((Ae v:Int)≤i)))) (Ad (-1)) (Bc (CE i (Ae v:Int))<|By (Ac ((A2 v i).aa=1)) (Bc (imp (Ac ((A2 v i).ay=0)) (imp (Ac ((A2 v i).au=([]:Aw))) (CY (Ac ((A2 v i).fN=0)) i).isSome))<|Bc (imp (Ac ((A2 v i).ay=0)) (imp (!(Ac ((A2 v i).au=([]:Aw)))) (CY Ah i).isSome))<|Bc (imp (!(Ac ((A2 v i).ay=0))) (CY Ah i).isSome)<|some (bif Ac ((A2 v i).ay=0) then(bif Ac ((A2 v i).au=([]:Aw)) then(ov (CY (Ac ((A2 v i).fN=0)) i)) else(ov (CY Ah i))) else(ov (CY Ah i)))) (By (Ac ((A2 v i).aa=2)) (Bc (imp (Ac ((A2 v i).ay=0)) (imp (Ac ((A2 v i).au=([]:Aw))) (CY (Ac ((A2 v i).fN=0)) i).isSome))<|Bc (imp (Ac ((A2 v i).ay=0)) (imp (!(Ac ((A2 v i).au=([]:Aw)))) (CY Ah i).isSome))<|Bc (imp (!(Ac ((A2 v i).ay=0))) (imp (Ac ((A2 v i).ay=1)) (imp (Ac ((A2 v i).au=([]:Aw))) (CY (Ac ((A2 v i).fN=0)) i).isSome)))<|Bc (imp (!(Ac ((A2 v i).ay=0))) (imp (Ac ((A2 v i).ay=1)) (imp (!(Ac ((A2 v i).au=([]:Aw)))) (CY Ah i).isSome)))<|Bc (imp (!(Ac ((A2 v i).ay=0))) (imp (!(Ac ((A2 v i).ay=1))) (CY Ah i).isSome))<|some (bif Ac ((A2 v i).ay=0) then(bif Ac ((A2 v i).au=([]:Aw)) then(ov (CY (Ac ((A2 v i).fN=0)) i)) else(ov (CY Ah i))) else(bif Ac ((A2 v i).ay=1) then(bif Ac ((A2 v i).au=([]:Aw)) then(ov (CY (Ac ((A2 v i).fN=0)) i)) else(ov (CY Ah i))) else(ov (CY Ah i))))) (By (Ac ((A2 v i).aa=3)) (Bc (imp (Ac ((A2 v i).au=([]:Aw))) (CY (Ac ((A2 v i).fN=0)) i).isSome)<|Bc (imp (!(Ac ((A2 v i).au=([]:Aw)))) (CY Ah i).isSome)<|some (bif Ac ((A2 v i).au=([]:Aw)) then(ov (CY (Ac ((A2 v i).fN=0)) i)) else(ov (CY Ah i)))) (By (Ac ((A2 v i).aa=4)) (BB (Wc F (A2 v i)) λhd=>BB (CY hd i) λhe=>Ad he) (By (((Ac ((A2 v i).aa=5))&&((Ac ((A2 v i).ay=0))&&((Ac ((A2 v i).au=([]:Aw)))&&(Ac (0≤(A2 v i).fN)))))) (Bc (BJ .i64 (i+1))<|BB (ha v (i+1) (A2 v i).fN) λhf=>Ad hf) (By (((Ac ((A2 v i).aa=6))&&((Ac ((A2 v i).ay=0))&&((Ac ((A2 v i).au=([]:Aw)))&&(Ac (0≤(A2 v i).fN)))))) (Bc (BJ .i64 (i+1))<|BB (hb v (i+1) (A2 v i).fN) λhg=>Ad hg) (Ad (-1))))))))
def Gp (v:(List Av))(n:Int)(he:(List Av)→Int→Option Int)(hb ha:Int):Option (Stp (Int×Int) (Out Int Int)):=
 By (Ac (ha<n)) (BB (he v hb) λhd=>By (Ac (hd<0)) (Ad (.out (.ret (-1)))) (Bc (BJ .i64 (ha+1))<|some (.next (hd,ha+1)))) (Ad (.out (.go hb)))
def HC (ha:Int):Option Int:=
 Ad ha
def PZ (F:Nat)(ha:(List Av)→Int→Option Int)(v:(List Av))(i n:Int):Option Int:=
 BB (Cp (λσ=>Gp v n ha σ.1 σ.2) F (i,0)) (Cb λν=>HC ν)
def GX (F:Nat)(v:(List Av))(n:Int)(hf:(List Av)→Int→Option Int)(ha:Int)(hd:Aw)(hb:Int):Option (Stp (Int×Aw×Int) (Out Int Int)):=
 By (Ac (hb<n)) (Bc (imp (!(Ac ((Ae v:Int)≤ha))) (CE ha (Ae v:Int)))<|Bc (imp (!(Ac ((Ae v:Int)≤ha))) (Wc F (A2 v ha)).isSome)<|By (((Ac ((Ae v:Int)≤ha))||((!(ov (Wc F (A2 v ha))))||((Ac (0<hb))&&(CH (A2 v ha).au hd||decide ((A2 v ha).au=hd)))))) (Ad (.out (.ret (-1)))) (Bc (CE ha (Ae v:Int))<|Bc (BJ .i64 (ha+1))<|BB (hf v (ha+1)) λhe=>By (Ac (he<0)) (Ad (.out (.ret (-1)))) (Bc (BJ .i64 (hb+1))<|some (.next (he,(A2 v ha).au,hb+1))))) (Ad (.out (.go ha)))
def KA (ha:Int):Option Int:=
 Ad ha
def Yi (F:Nat)(ha:(List Av)→Int→Option Int)(v:(List Av))(i n:Int):Option Int:=
 BB (Cp (λσ=>GX F v n ha σ.1 σ.2.1 σ.2.2) F (i,([]:Aw),0)) (Cb λν=>KA ν)
mutual
def GD:Nat→(List Av)→Int→Option Int
 | 0,_,_=>Ai
 | nn+1,v,i=>Yk nn (KC nn) (RS nn) v i
def KC:Nat→(List Av)→Int→Int→Option Int
 | 0,_,_,_=>Ai
 | nn+1,v,i,n=>PZ nn (GD nn) v i n
def RS:Nat→(List Av)→Int→Int→Option Int
 | 0,_,_,_=>Ai
 | nn+1,v,i,n=>Yi nn (GD nn) v i n
end
def T8 (F:Nat)(v:(List Av)):Option Bool:=
 Bc (imp (Ac (0<(Ae v:Int))) (GD F v 0).isSome)<|some ((Ac (0<(Ae v:Int)))&&(Ac ((ov (GD F v 0))=(Ae v:Int))))
def ES (F:Nat)(v:(List Av))(i:Int)(he:(List Av)→Int→Option Int)(hd hb ha:Int):Option (Stp (Int×Int×Int) (Out Int Int)):=
 By (Ac (ha<(A2 v i).fN)) (By (Ac ((A2 v i).aa=6)) (Bc (BJ .i64 (hb+1))<|BB (he v (hb+1)) λhf=>By (Ac (hd<hf)) (BB (GD F v (hb+1)) λhh=>Bc (BJ .i64 (ha+1))<|some (.next (hf,hh,ha+1))) (BB (GD F v (hb+1)) λhi=>Bc (BJ .i64 (ha+1))<|some (.next (hd,hi,ha+1)))) (BB (he v hb) λhg=>By (Ac (hd<hg)) (BB (GD F v hb) λhj=>Bc (BJ .i64 (ha+1))<|some (.next (hg,hj,ha+1))) (BB (GD F v hb) λhk=>Bc (BJ .i64 (ha+1))<|some (.next (hd,hk,ha+1))))) (Ad (.out (.go hd)))
def Is (ha:Int):Option Int:=
 Bc (BJ .i64 (ha+1))<|some (ha+1)
def NW (F:Nat)(ha:(List Av)→Int→Option Int)(v:(List Av))(i:Int):Option Int:=
 Bc (CE i (Ae v:Int))<|By (((!Ac ((A2 v i).aa=5))&&(!Ac ((A2 v i).aa=6)))) (Ad 1) (Bc (BJ .i64 (i+1))<|BB (Cp (λσ=>ES F v i ha σ.1 σ.2.1 σ.2.2) F (0,i+1,0)) (Cb λν=>Is ν))
def EW:Nat→(List Av)→Int→Option Int
 | 0,_,_=>Ai
 | nn+1,v,i=>NW nn (EW nn) v i
def Gv (s hb:Aw)(ha:Int):Option (Stp (Aw×Int) (Out Aw Aw)):=
 By (Ac (ha<(Ae s:Int))) (Bc (CE ha (Ae s:Int))<|By (((Ac ((BA s ha)=34))||(Ac ((BA s ha)=92)))) (Bc (BJ .i64 ((hb.length:Int)+(Ae ([92]:Aw):Int)))<|Bc (BJ .i64 (ha+1))<|Bc (Gk ha (ha+1))<|Bc (Gk (ha+1) (Ae s:Int))<|Bc (BJ .i64 ((Ae (hb++([92]:Aw)):Int)+(Ae (Aq (Ao (ha+1)-Ao ha) (Ap (Ao ha) s)):Int)))<|some (.next ((hb++([92]:Aw))++(Aq (Ao (ha+1)-Ao ha) (Ap (Ao ha) s)),ha+1))) (Bc (BJ .i64 (ha+1))<|Bc (Gk ha (ha+1))<|Bc (Gk (ha+1) (Ae s:Int))<|Bc (BJ .i64 ((hb.length:Int)+(Ae (Aq (Ao (ha+1)-Ao ha) (Ap (Ao ha) s)):Int)))<|some (.next (hb++(Aq (Ao (ha+1)-Ao ha) (Ap (Ao ha) s)),ha+1)))) (Ad (.out (.go hb)))
def Hn (ha:Aw):Option Aw:=
 Bc (BJ .i64 ((ha.length:Int)+(Ae ([34]:Aw):Int)))<|some (ha++([34]:Aw))
def OF (F:Nat)(s:Aw):Option Aw:=
 BB (Cp (λσ=>Gv s σ.1 σ.2) F (([34]:Aw),0)) (Cb λν=>Hn ν)
def HS (F:Nat)(v:(List Av))(i:Int)(he:(List Av)→Int→Option Aw)(ha:Aw)(hb hd:Int):Option (Stp (Aw×Int×Int) (Out Aw Aw)):=
 By (Ac (hd<(A2 v i).fN)) (By (Ac (0<hd)) (Bc (BJ .i64 ((ha.length:Int)+(Ae ([44]:Aw):Int)))<|By (Ac ((A2 v i).aa=6)) (Bc (CE hb (Ae v:Int))<|BB (OF F (A2 v hb).au) λhf=>Bc (BJ .i64 ((Ae (ha++([44]:Aw)):Int)+(hf.length:Int)))<|Bc (BJ .i64 ((Ae ((ha++([44]:Aw))++hf):Int)+(Ae ([58]:Aw):Int)))<|Bc (BJ .i64 (hb+1))<|BB (he v (hb+1)) λhh=>Bc (BJ .i64 ((Ae (((ha++([44]:Aw))++hf)++([58]:Aw)):Int)+(hh.length:Int)))<|BB (GD F v (hb+1)) λhl=>Bc (BJ .i64 (hd+1))<|some (.next ((((ha++([44]:Aw))++hf)++([58]:Aw))++hh,hl,hd+1))) (BB (he v hb) λhi=>Bc (BJ .i64 ((Ae (ha++([44]:Aw)):Int)+(hi.length:Int)))<|BB (GD F v hb) λhm=>Bc (BJ .i64 (hd+1))<|some (.next ((ha++([44]:Aw))++hi,hm,hd+1)))) (By (Ac ((A2 v i).aa=6)) (Bc (CE hb (Ae v:Int))<|BB (OF F (A2 v hb).au) λhg=>Bc (BJ .i64 ((ha.length:Int)+(hg.length:Int)))<|Bc (BJ .i64 ((Ae (ha++hg):Int)+(Ae ([58]:Aw):Int)))<|Bc (BJ .i64 (hb+1))<|BB (he v (hb+1)) λhj=>Bc (BJ .i64 ((Ae ((ha++hg)++([58]:Aw)):Int)+(hj.length:Int)))<|BB (GD F v (hb+1)) λhn=>Bc (BJ .i64 (hd+1))<|some (.next (((ha++hg)++([58]:Aw))++hj,hn,hd+1))) (BB (he v hb) λhk=>Bc (BJ .i64 ((ha.length:Int)+(hk.length:Int)))<|BB (GD F v hb) λho=>Bc (BJ .i64 (hd+1))<|some (.next (ha++hk,ho,hd+1))))) (Ad (.out (.go ha)))
def Mr (v:(List Av))(i:Int)(ha:Aw):Option Aw:=
 By (Ac ((A2 v i).aa=6)) (Bc (BJ .i64 ((Ae ([123]:Aw):Int)+(ha.length:Int)))<|Bc (BJ .i64 ((Ae (([123]:Aw)++ha):Int)+(Ae ([125]:Aw):Int)))<|some ((([123]:Aw)++ha)++([125]:Aw))) (Bc (BJ .i64 ((Ae ([91]:Aw):Int)+(ha.length:Int)))<|Bc (BJ .i64 ((Ae (([91]:Aw)++ha):Int)+(Ae ([93]:Aw):Int)))<|some ((([91]:Aw)++ha)++([93]:Aw)))
def UA (F:Nat)(ha:(List Av)→Int→Option Aw)(v:(List Av))(i:Int):Option Aw:=
 Bc (CE i (Ae v:Int))<|By (Ac ((A2 v i).aa=1)) (Ad ([110,117,108,108]:Aw)) (By (Ac ((A2 v i).aa=2)) (By (Ac ((A2 v i).ay=1)) (Ad ([116,114,117,101]:Aw)) (Ad ([102,97,108,115,101]:Aw))) (By (Ac ((A2 v i).aa=3)) (Bc (BJ .i64 (A2 v i).ay)<|some (Lib.itoa (A2 v i).ay)) (By (Ac ((A2 v i).aa=4)) (BB (OF F (A2 v i).au) λhb=>Ad hb) (Bc (BJ .i64 (i+1))<|BB (Cp (λσ=>HS F v i ha σ.1 σ.2.1 σ.2.2) F (([]:Aw),i+1,0)) (Cb λν=>Mr v i ν)))))
def JI:Nat→(List Av)→Int→Option Aw
 | 0,_,_=>Ai
 | nn+1,v,i=>UA nn (JI nn) v i
def I9 (v:(List Av))(ha:Int):Option (Stp Int (Out Int Unit)):=
 By (Ac (ha<(Ae v:Int))) (Bc (CE ha (Ae v:Int))<|By (Ac (200<(Ae (A2 v ha).au:Int))) (Ad (.out (.ret 3))) (Bc (BJ .i64 (ha+1))<|some (.next (ha+1)))) (Ad (.out (.go ())))
def OI (F:Nat)(v:(List Av)):Option Int:=
 BB (JI F v 0) λha=>By (Ac (4000<(ha.length:Int))) (Ad 3) (Ad 0)
def IA (v:(List Av))(ha:Int):Option (Stp Int (Out Int Unit)):=
 By (Ac (ha<(Ae v:Int))) (Bc (CE ha (Ae v:Int))<|By (((Ac ((A2 v ha).aa=3))&&((Ac ((A2 v ha).ay<(-1000000000000)))||(Ac (1000000000000<(A2 v ha).ay))))) (Ad (.out (.ret 2))) (Bc (BJ .i64 (ha+1))<|some (.next (ha+1)))) (Ad (.out (.go ())))
def OJ (F:Nat)(v:(List Av)):Option Int:=
 Bc (imp (!(Ac (200<(Ae v:Int)))) (EW F v 0).isSome)<|By (((Ac (200<(Ae v:Int)))||(Ac (8<(ov (EW F v 0)))))) (Ad 3) (BB (Cp (λσ=>I9 v σ) F 0) (Cb λν=>OI F v ))
def NZ (F:Nat)(v:(List Av)):Option Int:=
 BB (T8 F v) λr1=>By (!r1) (Ad 1) (BB (Cp (λσ=>IA v σ) F 0) (Cb λν=>OJ F v ))
def TA (F:Nat)(v:(List Av)):Option (Aw×Int):=
 BB (NZ F v) λr1=>By (!Ac (r1=0)) (Ad (([]:Aw),r1)) (BB (JI F v 0) λr7=>Ad (r7,0))
end Go.Proofs.YtiddaamglmmnaaaGreatDoor
namespace Go.Proofs.YtiddaamglmmnaaaGreatDoor.Q
open Go Go.RowKit
set_option linter.unusedVariables false
set_option linter.unusedSimpArgs false
set_option maxRecDepth 100000
set_option maxHeartbeats 4000000
@[reducible] def A7 (x:Av):List Rp:=[Bn x.aa,Bn x.ay,rS x.au,Bn x.fN]
theorem B2 (x:Av):Ae (A7 x)=4:=rfl
theorem CK (x:Av):(A7 x).all (·.one)=Af:=rfl
theorem Ah6 (F:Nat)(s:Aw)(r:Bool)(h:PY F s=Ad r):FN 197 [rS s] [] (PO (rB r)):=en func197 ntmps197 Aa λw Z=>AY Aa<|BH Aa<|Be<|AL<|ob h λhi hj hg=>B8 (V:=Unit×Unit) 0 (λσ=>Cp (λσ=>RR s σ) σ.1 σ.2.1=Ad hi) (λσ=>[(0,rS s),(3,Bn σ.2.1)]) (λσ=>[]) (λσ=>σ.1) (F,0,()) hj (AP Aa) sN (λσ=>OG =Ad r) (λσ=>[]) (λσ=>[]) (by rintro⟨hz,hb,⟨⟩⟩ hk;refine EM ?_;obtain⟨hl,rfl,t37,he,hf⟩:=C5 hk;have he:RR s hb=Ad t37:=he;exact Bl<|AY Aa<|wv B6<|wv BS<|Be<|BG he (λhm hn=>B5<|AL<|ck hn λhh ho=>AM [(0,rS s),(3,Bn hb),(19,rB ((Br ((BA s hb)<32))||(Br (126<(BA s hb)))))] [] (BD Aa<|wv (B0 hh)<|wv BS<|ms Aa<|Ba (Br ((BA s hb)<32)) (λha=>CI ha Aa<|wv (Ax ha)<|AD<|Ce ha) λha=>wo ha<|ms Aa<|wo ha<|ms Aa<|Bt ha (B0 hh)<|Bt ha Cw<|D7 Aa ha Aa<|AD<|Ce ha)<|BG ho (λhp hq=>Cy Aa<|BW<|A5<|Bj<|have hr:=BK hq hf hg;BW<|cs hr▸Gd results197 ⟨Aa,Aa⟩) λhp hs=>Cf<|DB<|BD Aa<|ck hs λht hu=>wv (Bg ht)<|B9 Aa<|have hw:=Bp hu hf;AG (AA (hl,hb+1,()) ⟨hw,Aqw _⟩ (AP Aa) sN)) λhm hx=>BE<|A3<|have hy:=Ci hx hf hg;A3 (Bk (AA ((),()) hy Hj.nil sN)))<|by rintro⟨⟨⟩,⟨⟩⟩ hd;refine Hb ?_;exact have hd:OG =Ad r:=hd;by unfold OG at hd;exact Bo<|CL<|Cy Aa<|cs hd▸Gd results197 ⟨Aa,Aa⟩
theorem Ht (ok:Bool)(i r:Int)(h:CY ok i=Ad r):FN 176 [rB ok,Bn i] [] (PO (Bn r)):=en func176 ntmps176 Aa λw Z=>AY Aa<|BH Aa<|Be<|BG h (λc1 h2=>AY Aa<|ck h2 λg3 h4=>wv (Bg g3)<|Bw Aa<|A5<|cs h4▸Gd results176 ⟨Aa,Aa⟩) λc1 h5=>BQ<|Cy Aa<|cs h5▸Gd results176 ⟨Aa,Aa⟩
theorem Ah9 (F:Nat)(c:Av)(r:Bool)(h:Wc F c=Ad r):FN 177 [Dr (A7 c)] [] (PO (rB r)):=en func177 ntmps177 Aa λw Z=>by unfold Wc at h;exact AT<|Dd Aa Aa λb1=>CW Aa<|ck h λg2 h3=>AM [(2,rB ((Br (c.aa=4))&&((Br (c.ay=0))&&((Br (c.fN=0))&&(ov (PY F c.au))))))] [] (AU<|wv AB<|wv (Ay 0)<|wv Bx<|ms Aa<|Ba (Br (c.aa=4)) (λc4=>Bt c4 AB<|Bt c4 (Ay 0)<|Bt c4 Bx<|EA Aa c4 Aa<|ms Aa<|Ba (Br (c.ay=0)) (λc5=>Bt c5 AB<|Bt c5 (Ay 0)<|Bt c5 Bx<|EA Aa c5 Aa<|ms Aa<|Ba (Br (c.fN=0)) (λc6=>Bt c6 AB<|Bt c6 (Ay 0)<|wo c6<|CS call197 (Ah6 F c.au (ov (PY F c.au)) (GR (C3 (C3 (C3 g2 c4) c5) c6)))<|EA Aa c6 Aa<|B9 Aa<|Ce (CU c4 (CU c5 c6))) λc6=>CI c6 Aa<|wv (A9 c6)<|B9 Aa<|Ce (CU c4 (CU c5 c6))) λc5=>CI c5 Aa<|wv (A9 c5)<|ms Aa<|Ea Aa<|wv (A9 Aa)<|B9 Aa<|Ce (CU c4 c5)) λc4=>CI c4 Aa<|wv (A9 c4)<|ms Aa<|Ea Aa<|wv (A9 Aa)<|ms Aa<|Ea Aa<|wv (A9 Aa)<|B9 Aa<|Ce c4)<|CM<|cs h3▸Gd results177 ⟨Aa,Aa⟩
abbrev Eg (x0:List Av)(x1:Int):List Rp:=[Cg 4 (BP A7 x0),Bn x1]
abbrev EE (x0:Nat)(x1:Av):Ent:=.blk x0 (A7 x1) 77
abbrev Sq (x0:Aw):List Rp:=[Bn 0,Bn 0,rS x0,Bn 0]
abbrev So (x0:List Av)(x1 x2:Int):List Rp:=[Cg 4 (BP A7 x0),Bn x1,Bn x2]
theorem Ah7 (F:Nat)(hn ho:(List Av)→Int→Int→Option Int)(hq:(∀(v:(List Av)) (i:Int) (n:Int) (r:Int),hn v i n=Ad r→FN 178 (So v i n) [] (PO (Bn r))))(hr:(∀(v:(List Av)) (i:Int) (n:Int) (r:Int),ho v i n=Ad r→FN 179 (So v i n) [] (PO (Bn r))))(v:(List Av))(i r:Int)(h:Yk F hn ho v i=Ad r):FN 149 (Eg v i) [] (PO (Bn r)):=en func149 ntmps149 Aa λw Z=>by unfold Yk at h;exact AY Aa<|Cz<|AM [(0,Cg 4 (BP A7 v)),(1,Bn i),(13,rB ((Br (i<0))||(Br ((Ae v:Int)≤i))))] [] (BD Aa<|wv BS<|ms Aa<|Ba (Br (i<0)) (λc1=>CI c1 Aa<|wv (Ax c1)<|AD<|Ce c1) λc1=>wo c1<|ms Aa<|wo c1<|ms Aa<|Bt c1 B1<|Bt c1 Gs<|D7 Aa c1 Aa<|AD<|Ce c1)<|BG h (λc2 h3=>Bz Aa<|cs h3▸Gd S8 ⟨Aa,Aa⟩) λc2 h4=>BQ<|AY Aa<|ck h4 λg5 h6=>wv (Bh g5)<|wv Dq<|CD (cs:=(Sq ([]:Aw))) HK Aa Aa λb7=>by refine L5 0 G0 Aa Aa Aa (CB.c Aa) Aa Aa ?_;exact Cz<|AT<|wv AB<|wv (Ay 0)<|wv Bx<|Be<|BG h6 (λc8 h9=>ck h9 λhs ht=>ck ht λhu hw=>ck hw λhx hy=>AM [(4,Bn (bif Br ((A2 v i).ay=0) then(bif Br ((A2 v i).au=([]:Aw)) then(ov (CY (Br ((A2 v i).fN=0)) i)) else(ov (CY Ah i))) else(ov (CY Ah i))))] [] (AU<|wv AB<|wv (Ay 0)<|wv Bx<|ms Aa<|Ba (Br ((A2 v i).ay=0)) (λhb=>Bt hb AB<|Bt hb (Ay 0)<|Bt hb Es<|EA Aa hb Aa<|ms Aa<|Ba (Br ((A2 v i).au=([]:Aw))) (λhe=>Bt he AB<|Bt he (Ay 0)<|Bt he Bx<|EA Aa he Aa<|ms Aa<|CS ND (Ht (Br ((A2 v i).fN=0)) i (ov (CY (Br ((A2 v i).fN=0)) i)) (GR (C3 (C3 hs hb) he)))<|B9 Aa<|Ce (CU hb he)) λhe=>CI he Aa<|wv (A9 he)<|ms Aa<|CS ND (Ht Ah i (ov (CY Ah i)) (GR (CA (C3 hu hb) he)))<|B9 Aa<|Ce (CU hb he)) λhb=>CI hb Aa<|wv (A9 hb)<|ms Aa<|Ea Aa<|wv (A9 Aa)<|ms Aa<|CS ND (Ht Ah i (ov (CY Ah i)) (GR (CA hx hb)))<|B9 Aa<|Ce hb)<|CM<|A5<|cs hy▸Gd S8 ⟨Aa,Aa⟩) λc8 hz=>B5<|AT<|wv AB<|wv (Ay 0)<|wv Bx<|Be<|BG hz (λh0 h1=>ck h1 λh2 h5=>ck h5 λh7 h8=>ck h8 λhA hB=>ck hB λhC hD=>ck hD λhE hG=>AM [(4,Bn (bif Br ((A2 v i).ay=0) then(bif Br ((A2 v i).au=([]:Aw)) then(ov (CY (Br ((A2 v i).fN=0)) i)) else(ov (CY Ah i))) else(bif Br ((A2 v i).ay=1) then(bif Br ((A2 v i).au=([]:Aw)) then(ov (CY (Br ((A2 v i).fN=0)) i)) else(ov (CY Ah i))) else(ov (CY Ah i)))))] [] (AU<|wv AB<|wv (Ay 0)<|wv Bx<|ms Aa<|Ba (Br ((A2 v i).ay=0)) (λha=>CI ha Aa<|wv (Ax ha)<|ms Aa<|HP Aa<|wv AB<|HP Aa<|wv (Ay 0)<|HP Aa<|wv Es<|wv (E2 (b:=Af) Aa Aa Aa)<|ms Aa<|Ba (Br ((A2 v i).au=([]:Aw))) (λhf=>Bt hf AB<|Bt hf (Ay 0)<|Bt hf Bx<|EA Aa hf Aa<|ms Aa<|CS ND (Ht (Br ((A2 v i).fN=0)) i (ov (CY (Br ((A2 v i).fN=0)) i)) (GR (C3 (C3 h2 ha) hf)))<|B9 Aa<|by exact Ce (CU ha hf)) λhf=>CI hf Aa<|wv (A9 hf)<|ms Aa<|CS ND (Ht Ah i (ov (CY Ah i)) (GR (CA (C3 h7 ha) hf)))<|B9 Aa<|by exact Ce (CU ha hf)) λha=>Bt ha AB<|Bt ha (Ay 0)<|Bt ha Bx<|D7 Aa ha Aa<|ms Aa<|Ba (Br ((A2 v i).ay=1)) (λhd=>Bt hd AB<|Bt hd (Ay 0)<|Bt hd Es<|EA Aa hd Aa<|ms Aa<|Ba (Br ((A2 v i).au=([]:Aw))) (λhg=>by exact Bt hg AB<|Bt hg (Ay 0)<|Bt hg Bx<|EA Aa hg Aa<|ms Aa<|CS ND (Ht (Br ((A2 v i).fN=0)) i (ov (CY (Br ((A2 v i).fN=0)) i)) (GR (C3 (C3 (CA hA ha) hd) hg)))<|B9 Aa<|Ce (CU ha (CU hd hg))) λhg=>by exact CI hg Aa<|wv (A9 hg)<|ms Aa<|CS ND (Ht Ah i (ov (CY Ah i)) (GR (CA (C3 (CA hC ha) hd) hg)))<|B9 Aa<|Ce (CU ha (CU hd hg))) λhd=>CI hd Aa<|wv (A9 hd)<|ms Aa<|Ea Aa<|wv (A9 Aa)<|ms Aa<|CS ND (Ht Ah i (ov (CY Ah i)) (GR (CA (CA hE ha) hd)))<|B9 Aa<|by exact Ce (CU ha hd))<|CM<|A5<|cs hG▸Gd S8 ⟨Aa,Aa⟩) λh0 hH=>B5<|AT<|wv AB<|wv (Ay 0)<|wv Bx<|Be<|BG hH (λhI hJ=>ck hJ λhK hL=>ck hL λhN hO=>AM [(4,Bn (bif Br ((A2 v i).au=([]:Aw)) then(ov (CY (Br ((A2 v i).fN=0)) i)) else(ov (CY Ah i))))] [] (AU<|wv AB<|wv (Ay 0)<|wv Es<|ms Aa<|Ba (Br ((A2 v i).au=([]:Aw))) (λhh=>Bt hh AB<|Bt hh (Ay 0)<|Bt hh Bx<|EA Aa hh Aa<|ms Aa<|CS ND (Ht (Br ((A2 v i).fN=0)) i (ov (CY (Br ((A2 v i).fN=0)) i)) (GR (C3 hK hh)))<|B9 Aa<|by exact Ce hh) λhh=>CI hh Aa<|wv (A9 hh)<|ms Aa<|CS ND (Ht Ah i (ov (CY Ah i)) (GR (CA hN hh)))<|B9 Aa<|by exact Ce hh)<|CM<|A5<|cs hO▸Gd S8 ⟨Aa,Aa⟩) λhI hP=>B5<|AT<|wv AB<|wv (Ay 0)<|wv Bx<|Be<|BG hP (λhQ hR=>AT<|wv (BI 0)<|ob hR λhp hS hT=>CS call177 (Ah9 F (A2 v i) hp hS)<|ms Aa<|ob hT λhU hV hW=>CS ND (Ht hp i hU hV)<|Bw Aa<|A5<|by exact cs hW▸AC (Dj S8 AW) (sS sN) ⟨Aa,Aa⟩) λhQ hX=>B5<|AM [(0,Cg 4 (BP A7 v)),(1,Bn i),(5,rP b7 0),(96,rB ((Br ((A2 v i).aa=5))&&((Br ((A2 v i).ay=0))&&((Br ((A2 v i).au=([]:Aw)))&&(Br (0≤(A2 v i).fN))))))] [EE b7 (A2 v i)] (AU<|wv AB<|wv (Ay 0)<|wv Bx<|ms Aa<|Ba (Br ((A2 v i).aa=5)) (λc53=>by exact Bt c53 AB<|Bt c53 (Ay 0)<|Bt c53 Bx<|EA Aa c53 Aa<|ms Aa<|Ba (Br ((A2 v i).ay=0)) (λhj=>Bt hj AB<|Bt hj (Ay 0)<|Bt hj Es<|EA Aa hj Aa<|ms Aa<|Ba (Br ((A2 v i).au=([]:Aw))) (λhl=>Bt hl AB<|Bt hl (Ay 0)<|Bt hl Gs<|EA Aa hl Aa<|AD<|Ce (CU c53 (CU hj hl))) λhl=>CI hl Aa<|wv (A9 hl)<|AD<|Ce (CU c53 (CU hj hl))) λhj=>CI hj Aa<|wv (A9 hj)<|ms Aa<|Ea Aa<|wv (A9 Aa)<|AD<|Ce (CU c53 hj)) λc53=>by exact CI c53 Aa<|wv (A9 c53)<|ms Aa<|Ea Aa<|wv (A9 Aa)<|ms Aa<|Ea Aa<|wv (A9 Aa)<|AD<|Ce c53)<|BG hX (λhY hZ=>AY Aa<|ck hZ λga gb=>wv (Bg ga)<|wv AB<|wv (Ay 0)<|ob gb λgc gd gf=>CS call178 (hq v (i+1) (A2 v i).fN gc gd)<|Bw Aa<|A5<|by exact cs gf▸AC (Dj S8 AW) (sS sN) ⟨Aa,Aa⟩) λhY gg=>B5<|AM [(0,Cg 4 (BP A7 v)),(1,Bn i),(5,rP b7 0),(120,rB ((Br ((A2 v i).aa=6))&&((Br ((A2 v i).ay=0))&&((Br ((A2 v i).au=([]:Aw)))&&(Br (0≤(A2 v i).fN))))))] [EE b7 (A2 v i)] (by exact AU<|wv AB<|wv (Ay 0)<|wv Bx<|ms Aa<|Ba (Br ((A2 v i).aa=6)) (λhi=>Bt hi AB<|Bt hi (Ay 0)<|Bt hi Bx<|EA Aa hi Aa<|ms Aa<|Ba (Br ((A2 v i).ay=0)) (λhk=>Bt hk AB<|Bt hk (Ay 0)<|Bt hk Es<|EA Aa hk Aa<|ms Aa<|Ba (Br ((A2 v i).au=([]:Aw))) (λhm=>Bt hm AB<|Bt hm (Ay 0)<|Bt hm Gs<|EA Aa hm Aa<|AD<|Ce (CU hi (CU hk hm))) λhm=>CI hm Aa<|wv (A9 hm)<|AD<|Ce (CU hi (CU hk hm))) λhk=>CI hk Aa<|wv (A9 hk)<|ms Aa<|Ea Aa<|wv (A9 Aa)<|AD<|Ce (CU hi hk)) λhi=>CI hi Aa<|wv (A9 hi)<|ms Aa<|Ea Aa<|wv (A9 Aa)<|ms Aa<|Ea Aa<|wv (A9 Aa)<|AD<|Ce hi)<|by exact BG gg (λgh gi=>AY Aa<|ck gi λgj gl=>wv (Bg gj)<|wv AB<|wv (Ay 0)<|ob gl λgm gp gq=>CS call179 (hr v (i+1) (A2 v i).fN gm gp)<|Bw Aa<|A5<|cs gq▸AC (Dj S8 AW) (sS sN) ⟨Aa,Aa⟩) λgh gr=>BQ<|Cy Aa<|cs gr▸AC (Dj S8 AW) (sS sN) ⟨Aa,Aa⟩
theorem Ym (F:Nat)(ha:(List Av)→Int→Option Int)(hj:(∀(v:(List Av)) (i:Int) (r:Int),ha v i=Ad r→FN 149 (Eg v i) [] (PO (Bn r))))(v:(List Av))(i n r:Int)(h:PZ F ha v i n=Ad r):FN 178 (So v i n) [] (PO (Bn r)):=en func178 ntmps178 Aa λw Z=>AY Aa<|BH Aa<|Be<|AL<|ob h λhk hl hg=>B8 (V:=Int×Unit) 0 (λσ=>Cp (λσ=>Gp v n ha σ.1 σ.2) σ.1 σ.2.1=Ad hk) (λσ=>[(0,Cg 4 (BP A7 v)),(1,Bn σ.2.1.1),(2,Bn n),(6,Bn 0),(7,Bn σ.2.1.2)]) (λσ=>[]) (λσ=>σ.1) (F,(i,0),()) hl (AP Aa) sN (λσ=>HC σ.1=Ad r) (λσ=>[(1,Bn σ.1),(6,Bn 0)]) (λσ=>[]) (by rintro⟨h2,⟨hd,hh⟩,⟨⟩⟩ hm;refine EM ?_;obtain⟨hn,rfl,ho,he,hf⟩:=C5 hm;have he:Gp v n ha hd hh=Ad ho:=he;exact Bl<|AY Aa<|wv BS<|Be<|BG he (λc46 hp=>B5<|AL<|AY Aa<|ob hp λhi hq hr=>CS NE (hj v hd hi hq)<|ms Aa<|Ca Aa<|wv BS<|Be<|BG hr (λc51 hs=>Cy Aa<|BW<|A5<|Bj<|have ht:=BK hs hf hg;BW<|cs ht▸Gd results178 ⟨Aa,Aa⟩) λc51 hu=>Cf<|DB<|BD Aa<|ck hu λhw hx=>wv (Bg hw)<|B9 Aa<|have hy:=Bp hx hf;AG (AA (hn,(hi,hh+1),()) ⟨hy,Aqw _⟩ (AP Aa) sN)) λc46 hz=>BE<|A3<|have h0:=Ci hz hf hg;A3 (Bk (AA (hd,()) h0 (AP Aa) sN)))<|by rintro⟨h1,⟨⟩⟩ hb;refine Hb ?_;exact have hb:HC h1=Ad r:=hb;by unfold HC at hb;exact Bo<|CL<|Cy Aa<|cs hb▸Gd results178 ⟨Aa,Aa⟩
theorem AeQ (F:Nat)(hg:(List Av)→Int→Option Int)(ho:(∀(v:(List Av)) (i:Int) (r:Int),hg v i=Ad r→FN 149 (Eg v i) [] (PO (Bn r))))(v:(List Av))(i n r:Int)(h:Yi F hg v i n=Ad r):FN 179 (So v i n) [] (PO (Bn r)):=en func179 ntmps179 Aa λw Z=>AY Aa<|Dt<|wv (r:=rS ([]:Aw)) Bd<|BH Aa<|Be<|AL<|ob h λhp hq hj=>B8 (V:=Int×Unit) 0 (λσ=>Cp (λσ=>GX F v n hg σ.1 σ.2.1 σ.2.2) σ.1 σ.2.1=Ad hp) (λσ=>[(0,Cg 4 (BP A7 v)),(1,Bn σ.2.1.1),(2,Bn n),(7,rS σ.2.1.2.1),(8,Bn σ.2.1.2.2)]) (λσ=>[]) (λσ=>σ.1) (F,(i,([]:Aw),0),()) hq (AP Aa) sN (λσ=>KA σ.1=Ad r) (λσ=>[(1,Bn σ.1)]) (λσ=>[]) (by rintro⟨hL,⟨hd,hk,hf⟩,⟨⟩⟩ hr;refine EM ?_;obtain⟨hs,rfl,ht,hl,hh⟩:=C5 hr;have hl:GX F v n hg hd hk hf=Ad ht:=hl;exact Bl<|AY Aa<|wv BS<|Be<|BG hl (λhu hw=>B5<|AL<|Bl<|ck hw λhm hx=>ck hx λhy hz=>AM [(0,Cg 4 (BP A7 v)),(1,Bn hd),(2,Bn n),(8,Bn hf),(38,rB ((Br ((Ae v:Int)≤hd))||((!(ov (Wc F (A2 v hd))))||((Br (0<hf))&&(CH (A2 v hd).au hk||Br ((A2 v hd).au=hk))))))] [] (BD Aa<|wv B1<|wv Gs<|ms Aa<|Ba (Br ((Ae v:Int)≤hd)) (λha=>CI ha Aa<|wv (Ax ha)<|ms Aa<|Ea Aa<|wu<|wu<|wu<|wu<|wu<|wu<|wu<|vz Aa<|wv (Ax Aa)<|AD<|Ce ha) λha=>wo ha<|ms Aa<|wo ha<|ms Aa<|Bt ha (Bh (CA hm ha))<|Bt ha Dq<|wo ha<|CS call177 (Ah9 F (A2 v hd) (ov (Wc F (A2 v hd))) (GR (CA hy ha)))<|Bt ha BO<|D7 Aa ha Aa<|ms Aa<|Ba (!(ov (Wc F (A2 v hd)))) (λhb=>CI hb Aa<|wu<|wu<|wu<|wu<|wu<|wu<|wu<|wf hb<|wv (Ax hb)<|AD<|by exact Ce (CU ha hb)) λhb=>wo hb<|ms Aa<|Bt hb Cw<|wo hb<|ms Aa<|Ba (Br (0<hf)) (λhe=>wo he<|ms Aa<|wo he<|ms Aa<|Bt he (Bh (CA hm ha))<|Bt he BR<|Bt he Bb<|wo he<|ms Aa<|Bt he (AhX Aa Aa)<|wo hb<|EA Aa he Aa<|D7 Aa hb Aa<|AD<|by exact Ce (CU ha (CU hb he))) λhe=>CI he Aa<|Bt hb (A9 he)<|D7 Aa hb Aa<|AD<|by exact Ce (CU ha (CU hb he)))<|BG hz (λh0 h1=>Bz Aa<|BW<|A5<|Bj<|have h2:=BK h1 hh hj;BW<|cs h2▸Gd results179 ⟨Aa,Aa⟩) λh0 h3=>BQ<|AY Aa<|ck h3 λh4 h5=>wv (Bh h4)<|wv BR<|wv Bb<|ms Aa<|Ca Aa<|ck h5 λh6 h7=>wv (Bg h6)<|ob h7 λhn h8 h9=>CS NE (ho v (hd+1) hn h8)<|ms Aa<|Ca Aa<|wv BS<|Be<|BG h9 (λhA hB=>Cy Aa<|BW<|A5<|Bj<|have hC:=BK hB hh hj;BW<|by exact cs hC▸Gd results179 ⟨Aa,Aa⟩) λhA hD=>Cf<|DB<|BD Aa<|ck hD λhE hG=>wv (Bg hE)<|B9 Aa<|have hH:=Bp hG hh;AG (AA (hs,(hn,(A2 v hd).au,hf+1),()) ⟨hH,Aqw _⟩ (AP Aa) sN)) λhu hI=>BE<|A3<|have hJ:=Ci hI hh hj;A3 (Bk (AA (hd,()) hJ (AP Aa) sN)))<|by rintro⟨hK,⟨⟩⟩ hi;refine Hb ?_;exact have hi:KA hK=Ad r:=hi;by unfold KA at hi;exact Bo<|CL<|Cy Aa<|cs hi▸Gd results179 ⟨Aa,Aa⟩
theorem Mt:∀F:Nat,(∀(v:(List Av)) (i:Int) (r:Int),GD F v i=Ad r→FN 149 (Eg v i) [] (PO (Bn r)))∧(∀(v:(List Av)) (i:Int) (n:Int) (r:Int),KC F v i n=Ad r→FN 178 (So v i n) [] (PO (Bn r)))∧(∀(v:(List Av)) (i:Int) (n:Int) (r:Int),RS F v i n=Ad r→FN 179 (So v i n) [] (PO (Bn r)))
  | 0=>⟨(λ_ _ _ h=>by simp[GD] at h),(λ_ _ _ _ h=>by simp[KC] at h),(λ_ _ _ _ h=>by simp[RS] at h)⟩
  | nn+1=>⟨(λv i r h=>Ah7 nn (KC nn) (RS nn) (Mt nn).2.1 (Mt nn).2.2 v i r (by rw[GD] at h;exact h)),(λv i n r h=>Ym nn (GD nn) (Mt nn).1 v i n r (by rw[KC] at h;exact h)),(λv i n r h=>AeQ nn (GD nn) (Mt nn).1 v i n r (by rw[RS] at h;exact h))⟩
theorem K4 (F:Nat)(v:(List Av))(i r:Int)(h:GD F v i=Ad r):FN 149 (Eg v i) [] (PO (Bn r)):=(Mt F).1 v i r h
abbrev J8 (x0:List Av):List Rp:=[Cg 4 (BP A7 x0)]
theorem AeW (F:Nat)(v:(List Av))(r:Bool)(h:T8 F v=Ad r):FN 116 (J8 v) [] (PO (rB r)):=en func116 ntmps116 Aa λw Z=>AY Aa<|Be<|ck h λg1 h2=>AM [(2,rB ((Br (0<(Ae v:Int)))&&(Br ((ov (GD F v 0))=(Ae v:Int)))))] [] (BD Aa<|wv B1<|wv Cw<|ms Aa<|Ba (Br (0<(Ae v:Int))) (λc3=>wo c3<|ms Aa<|wo c3<|CS NE (K4 F v 0 (ov (GD F v 0)) (GR (C3 g1 c3)))<|wo c3<|ms Aa<|Bt c3 B1<|Bt c3 Bx<|EA Aa c3 Aa<|B9 Aa<|Ce c3) λc3=>CI c3 Aa<|wv (A9 c3)<|B9 Aa<|Ce c3)<|CM<|cs h2▸Gd results116 ⟨Aa,Aa⟩
theorem AbQ (F:Nat)(he:(List Av)→Int→Option Int)(hj:(∀(v:(List Av)) (i:Int) (r:Int),he v i=Ad r→FN 117 (Eg v i) [] (PO (Bn r))))(v:(List Av))(i r:Int)(h:NW F he v i=Ad r):FN 117 (Eg v i) [] (PO (Bn r)):=en func117 ntmps117 Aa λw Z=>AY Aa<|Ca Aa<|ck h λg1 h2=>wv (Bh g1)<|wv Dq<|CD (cs:=(Sq ([]:Aw))) HK Aa Aa λb3=>by refine L5 0 G0 Aa Aa Aa (CB.c Aa) Aa Aa ?_;exact Cz<|AM [(0,Cg 4 (BP A7 v)),(1,Bn i),(5,rP b3 0),(21,rB ((!Br ((A2 v i).aa=5))&&(!Br ((A2 v i).aa=6))))] [EE b3 (A2 v i)] (AU<|wv AB<|wv (Ay 0)<|wv BU<|ms Aa<|Ba (!Br ((A2 v i).aa=5)) (λc4=>Bt c4 AB<|Bt c4 (Ay 0)<|Bt c4 BU<|EA Aa c4 Aa<|AD<|Ce c4) λc4=>CI c4 Aa<|wv (A9 c4)<|AD<|Ce c4)<|BG h2 (λc5 h6=>Bz Aa<|cs h6▸AC (Dj results117 AW) (sS sN) ⟨Aa,Aa⟩) λc5 h7=>BQ<|AY Aa<|Ca Aa<|ck h7 λg8 h9=>wv (Bg g8)<|ms Aa<|BH Aa<|Be<|AL<|ob h9 λhq hr hs=>B8 (V:=Int×Unit) 0 (λσ=>Cp (λσ=>ES F v i he σ.1 σ.2.1 σ.2.2) σ.1 σ.2.1=Ad hq) (λσ=>[(0,Cg 4 (BP A7 v)),(5,rP b3 0),(6,Bn σ.2.1.1),(7,Bn σ.2.1.2.1),(8,Bn σ.2.1.2.2)]) (λσ=>[EE b3 (A2 v i)]) (λσ=>σ.1) (F,(0,i+1,0),()) hr (AP Aa) (sC sN) (λσ=>Is σ.1=Ad r) (λσ=>[(6,Bn σ.1)]) (λσ=>[]) (by rintro⟨gj,⟨hf,ha,hb⟩,⟨⟩⟩ ht;refine EM ?_;obtain⟨hg,rfl,hu,hh,hd⟩:=C5 ht;have hh:ES F v i he hf ha hb=Ad hu:=hh;exact Bl<|AY Aa<|wv AB<|wv (Ay 0)<|wv BS<|Be<|BG hh (λhw hx=>B5<|AL<|Bl<|AT<|wv AB<|wv (Ay 0)<|wv Bx<|Be<|BG hx (λhy hz=>BD Aa<|ck hz λh0 h1=>wv (Bg h0)<|ms Aa<|Ca Aa<|ob h1 λhk h3 h4=>CS call117 (hj v (ha+1) hk h3)<|ms Aa<|BH Aa<|wv Cw<|Be<|BG h4 (λh5 h8=>AU<|CW Aa<|BD Aa<|ob h8 λhl hA hB=>CS NE (K4 F v (ha+1) hl hA)<|B9 Aa<|DB<|BD Aa<|ck hB λhC hD=>wv (Bg hC)<|B9 Aa<|by exact have hE:=Bp hD hd;AG (AA (hg,(hk,hl,hb+1),()) ⟨hE,Aqw _⟩ (AP Aa) (sC sN))) λh5 hG=>BQ<|BD Aa<|ob hG λhm hH hI=>CS NE (K4 F v (ha+1) hm hH)<|B9 Aa<|DB<|BD Aa<|ck hI λhJ hK=>wv (Bg hJ)<|B9 Aa<|by exact have hL:=Bp hK hd;AG (AA (hg,(hf,hm,hb+1),()) ⟨hL,Aqw _⟩ (AP Aa) (sC sN))) λhy hN=>BQ<|AY Aa<|ob hN λhn hO hP=>CS call117 (hj v ha hn hO)<|ms Aa<|BH Aa<|wv Cw<|Be<|BG hP (λhQ hR=>AU<|CW Aa<|BD Aa<|ob hR λho hS hT=>CS NE (K4 F v ha ho hS)<|B9 Aa<|DB<|BD Aa<|ck hT λhU hV=>wv (Bg hU)<|B9 Aa<|by exact have hW:=Bp hV hd;AG (AA (hg,(hn,ho,hb+1),()) ⟨hW,Aqw _⟩ (AP Aa) (sC sN))) λhQ hX=>BQ<|BD Aa<|ob hX λhp hY hZ=>CS NE (K4 F v ha hp hY)<|B9 Aa<|DB<|BD Aa<|ck hZ λga gb=>wv (Bg ga)<|B9 Aa<|by exact have gc:=Bp gb hd;AG (AA (hg,(hf,hp,hb+1),()) ⟨gc,Aqw _⟩ (AP Aa) (sC sN))) λhw gd=>BE<|A3<|have gf:=Ci gd hd hs;A3 (Bk (AA (hf,()) gf (AP Aa) (sS sN))))<|by rintro⟨gg,⟨⟩⟩ hi;refine Hb ?_;exact have hi:Is gg=Ad r:=hi;Bo<|CL<|AY Aa<|ck hi λgh gi=>wv (Bg gh)<|Bw Aa<|cs gi▸Gd results117 ⟨Aa,Aa⟩
theorem SP:∀F:Nat,(∀(v:(List Av)) (i:Int) (r:Int),EW F v i=Ad r→FN 117 (Eg v i) [] (PO (Bn r)))
  | 0=>(λ_ _ _ h=>by simp[EW] at h)
  | nn+1=>(λv i r h=>AbQ nn (EW nn) (SP nn) v i r (by rw[EW] at h;exact h))
theorem AeU (F:Nat)(v:(List Av))(i r:Int)(h:EW F v i=Ad r):FN 117 (Eg v i) [] (PO (Bn r)):=(SP F) v i r h
theorem RQ (F:Nat)(s r:Aw)(h:OF F s=Ad r):FN 150 [rS s] [] (PO (rS r)):=en func150 ntmps150 Aa λw Z=>AT<|wv (r:=rS ([]:Aw)) Bd<|Dt<|wv (r:=rS ([34]:Aw)) Bd<|BH Aa<|Be<|AL<|ob h λhl hm hn=>B8 (V:=Aw×Unit) 0 (λσ=>Cp (λσ=>Gv s σ.1 σ.2) σ.1 σ.2.1=Ad hl) (λσ=>[(0,rS s),(3,rS σ.2.1.1),(4,Bn σ.2.1.2)]) (λσ=>[]) (λσ=>σ.1) (F,(([34]:Aw),0),()) hm (AP Aa) sN (λσ=>Hn σ.1=Ad r) (λσ=>[(3,rS σ.1)]) (λσ=>[]) (by rintro⟨hL,⟨hd,ha⟩,⟨⟩⟩ ho;refine EM ?_;obtain⟨hh,rfl,hp,he,hf⟩:=C5 ho;have he:Gv s hd ha=Ad hp:=he;exact Bl<|AY Aa<|wv B6<|wv BS<|Be<|BG he (λhq hr=>B5<|AL<|Bl<|ck hr λhi hs=>AM [(0,rS s),(3,rS hd),(4,Bn ha),(20,rB ((Br ((BA s ha)=34))||(Br ((BA s ha)=92))))] [] (BD Aa<|wv (B0 hi)<|wv Bx<|ms Aa<|Ba (Br ((BA s ha)=34)) (λhb=>CI hb Aa<|wv (Ax hb)<|AD<|Ce hb) λhb=>wo hb<|ms Aa<|wo hb<|ms Aa<|Bt hb (B0 hi)<|Bt hb Bx<|D7 Aa hb Aa<|AD<|Ce hb)<|BG hs (λht hu=>BD Aa<|ck hu λhw hx=>wv (Dz hw)<|CW Aa<|BD Aa<|ck hx λhj hy=>wv (Bg hj)<|ck hy λhz h0=>ck h0 λh1 h2=>wv (EC GB Aa Aa Aa hz h1)<|ck h2 λh3 h4=>wv (Dz h3)<|B9 Aa<|DB<|BD Aa<|wv (Bg hj)<|B9 Aa<|have h5:=Bp h4 hf;AG (AA (hh,((hd++([92]:Aw))++(Aq (CV (ha+1)-CV ha) (Ap (CV ha) s)),ha+1),()) ⟨h5,Aqw _⟩ (AP Aa) sN)) λht h6=>BQ<|BD Aa<|ck h6 λhk h7=>wv (Bg hk)<|ck h7 λh8 h9=>ck h9 λhA hB=>wv (EC GB Aa Aa Aa h8 hA)<|ck hB λhC hD=>wv (Dz hC)<|B9 Aa<|DB<|BD Aa<|wv (Bg hk)<|B9 Aa<|have hE:=Bp hD hf;AG (AA (hh,(hd++(Aq (CV (ha+1)-CV ha) (Ap (CV ha) s)),ha+1),()) ⟨hE,Aqw _⟩ (AP Aa) sN)) λhq hG=>BE<|A3<|have hH:=Ci hG hf hn;A3 (Bk (AA (hd,()) hH (AP Aa) sN)))<|by rintro⟨hI,⟨⟩⟩ hg;refine Hb ?_;exact have hg:Hn hI=Ad r:=hg;Bo<|CL<|AY Aa<|ck hg λhJ hK=>wv (Dz hJ)<|Bw Aa<|cs hK▸Gd results150 ⟨Aa,Aa⟩
theorem Ah3 (F:Nat)(hf:(List Av)→Int→Option Aw)(hg:(∀(v:(List Av)) (i:Int) (r:Aw),hf v i=Ad r→FN 118 (Eg v i) [] (PO (rS r))))(v:(List Av))(i:Int)(r:Aw)(h:UA F hf v i=Ad r):FN 118 (Eg v i) [] (PO (rS r)):=en func118 ntmps118 Aa λw Z=>AT<|wv (r:=rS ([]:Aw)) Bd<|Ca Aa<|ck h λg1 h2=>wv (Bh g1)<|wv Dq<|CD (cs:=(Sq ([]:Aw))) HK Aa Aa λb3=>by refine L5 0 G0 Aa Aa Aa (CB.c Aa) Aa Aa ?_;exact Cz<|AT<|wv AB<|wv (Ay 0)<|wv Bx<|Be<|BG h2 (λc4 h5=>AT<|wv (r:=rS ([110,117,108,108]:Aw)) Bd<|Acb<|A5<|cs h5▸AC (Dj Ug AW) (sS sN) ⟨Aa,Aa⟩) λc4 h6=>B5<|AT<|wv AB<|wv (Ay 0)<|wv Bx<|Be<|BG h6 (λc7 h8=>Bl<|AT<|wv AB<|wv (Ay 0)<|wv Bx<|Be<|BG h8 (λc9 hu=>AT<|wv (r:=rS ([116,114,117,101]:Aw)) Bd<|Acb<|A5<|A5<|cs hu▸AC (Dj Ug AW) (sS sN) ⟨Aa,Aa⟩) λc9 hw=>BQ<|AT<|wv (r:=rS ([102,97,108,115,101]:Aw)) Bd<|Acb<|A5<|cs hw▸AC (Dj Ug AW) (sS sN) ⟨Aa,Aa⟩) λc7 hx=>B5<|AT<|wv AB<|wv (Ay 0)<|wv Bx<|Be<|BG hx (λhy hz=>AT<|wv AB<|wv (Ay 0)<|ck hz λg15 h0=>CR call70 Aa (AmW (A2 v i).ay g15) Aa Aa<|Bw Aa<|A5<|cs h0▸AC (Dj Ug AW) (sS sN) ⟨Aa,Aa⟩) λhy h1=>B5<|AT<|wv AB<|wv (Ay 0)<|wv Bx<|Be<|BG h1 (λh3 h4=>AT<|wv AB<|wv (Ay 0)<|ob h4 λh7 h9 hA=>CS call150 (RQ F (A2 v i).au h7 h9)<|Bw Aa<|A5<|by exact cs hA▸AC (Dj Ug AW) (sS sN) ⟨Aa,Aa⟩) λh3 hB=>BQ<|AT<|wv (r:=rS ([]:Aw)) Bd<|Ca Aa<|ck hB λhC hD=>wv (Bg hC)<|ms Aa<|BH Aa<|Be<|AL<|ob hD λhE hG hH=>B8 (V:=Aw×Unit) 0 (λσ=>Cp (λσ=>HS F v i hf σ.1 σ.2.1 σ.2.2) σ.1 σ.2.1=Ad hE) (λσ=>[(0,Cg 4 (BP A7 v)),(4,rS ([]:Aw)),(5,rP b3 0),(6,rS σ.2.1.1),(7,Bn σ.2.1.2.1),(8,Bn σ.2.1.2.2)]) (λσ=>[EE b3 (A2 v i)]) (λσ=>σ.1) (F,(([]:Aw),i+1,0),()) hG (AP Aa) (sC sN) (λσ=>Mr v i σ.1=Ad r) (λσ=>[(4,rS ([]:Aw)),(5,rP b3 0),(6,rS σ.1)]) (λσ=>[EE b3 (A2 v i)]) (by rintro⟨cm,⟨hb,ha,hd⟩,⟨⟩⟩ hI;refine EM ?_;obtain⟨hh,rfl,hJ,hi,he⟩:=C5 hI;have hi:HS F v i hf hb ha hd=Ad hJ:=hi;exact Bl<|AY Aa<|wv AB<|wv (Ay 0)<|wv BS<|Be<|BG hi (λhK hL=>B5<|AL<|Bl<|AY Aa<|wv Cw<|Be<|BG hL (λhN hO=>BD Aa<|ck hO λhP hQ=>wv (Dz hP)<|ms Aa<|Cz<|AT<|wv AB<|wv (Ay 0)<|wv Bx<|Be<|BG hQ (λc233 hR=>AY Aa<|ck hR λhS hT=>wv (Bh hS)<|wv BR<|wv Bb<|ob hT λhk hU hV=>CS call150 (RQ F (A2 v ha).au hk hU)<|ck hV λhW hX=>wv (Dz hW)<|ck hX λhY hZ=>wv (Dz hY)<|CW Aa<|BD Aa<|ck hZ λga gb=>wv (Bg ga)<|ms Aa<|Ca Aa<|ob gb λhl gc gd=>CS Wn (hg v (ha+1) hl gc)<|ck gd λgf gg=>by exact wv (Dz gf)<|CW Aa<|BD Aa<|ob gg λhm gh gi=>CS NE (K4 F v (ha+1) hm gh)<|B9 Aa<|DB<|BD Aa<|ck gi λgj gl=>wv (Bg gj)<|B9 Aa<|have gm:=Bp gl he;AG (AA (hh,((((hb++([44]:Aw))++hk)++([58]:Aw))++hl,hm,hd+1),()) ⟨gm,Aqw _⟩ (AP Aa) (sC sN))) λc233 gp=>BQ<|AY Aa<|ob gp λhn gq gr=>CS Wn (hg v ha hn gq)<|ck gr λgs gu=>wv (Dz gs)<|CW Aa<|BD Aa<|ob gu λho gv gw=>CS NE (K4 F v ha ho gv)<|B9 Aa<|DB<|BD Aa<|ck gw λgx gy=>wv (Bg gx)<|B9 Aa<|by exact have gz:=Bp gy he;AG (AA (hh,((hb++([44]:Aw))++hn,ho,hd+1),()) ⟨gz,Aqw _⟩ (AP Aa) (sC sN))) λhN g0=>B5<|AT<|wv AB<|wv (Ay 0)<|wv Bx<|Be<|BG g0 (λg2 g3=>AY Aa<|ck g3 λg4 g5=>wv (Bh g4)<|wv BR<|wv Bb<|ob g5 λhp g6 g7=>CS call150 (RQ F (A2 v ha).au hp g6)<|ck g7 λg8 g9=>wv (Dz g8)<|ck g9 λgA gB=>wv (Dz gA)<|CW Aa<|BD Aa<|ck gB λgC gD=>wv (Bg gC)<|ms Aa<|Ca Aa<|ob gD λhq gE gF=>CS Wn (hg v (ha+1) hq gE)<|ck gF λgG gH=>by exact wv (Dz gG)<|CW Aa<|BD Aa<|ob gH λhr gI gJ=>CS NE (K4 F v (ha+1) hr gI)<|B9 Aa<|DB<|BD Aa<|ck gJ λgK gL=>wv (Bg gK)<|B9 Aa<|have gM:=Bp gL he;AG (AA (hh,(((hb++hp)++([58]:Aw))++hq,hr,hd+1),()) ⟨gM,Aqw _⟩ (AP Aa) (sC sN))) λg2 gN=>BQ<|AY Aa<|ob gN λhs gO gP=>CS Wn (hg v ha hs gO)<|ck gP λgQ gR=>wv (Dz gQ)<|CW Aa<|BD Aa<|ob gR λht gS gT=>CS NE (K4 F v ha ht gS)<|B9 Aa<|DB<|BD Aa<|ck gT λgU gV=>wv (Bg gU)<|B9 Aa<|by exact have gW:=Bp gV he;AG (AA (hh,(hb++hs,ht,hd+1),()) ⟨gW,Aqw _⟩ (AP Aa) (sC sN))) λhK gX=>BE<|A3<|have gY:=Ci gX he hH;A3 (Bk (AA (hb,()) gY (AP Aa) (sC sN))))<|by rintro⟨gZ,⟨⟩⟩ hj;refine Hb ?_;exact have hj:Mr v i gZ=Ad r:=hj;Bo<|CL<|Bl<|AT<|wv AB<|wv (Ay 0)<|wv Bx<|Be<|BG hj (λca cb=>AY Aa<|ck cb λcc cd=>wv (Dz cc)<|ck cd λce cf=>wv (Dz ce)<|Bw Aa<|A5<|cs cf▸AC (Dj Ug AW) (sS sN) ⟨Aa,Aa⟩) λca cg=>BQ<|AY Aa<|ck cg λch ci=>wv (Dz ch)<|ck ci λcj cl=>wv (Dz cj)<|Bw Aa<|cs cl▸AC (Dj Ug AW) (sS sN) ⟨Aa,Aa⟩
theorem WF:∀F:Nat,(∀(v:(List Av)) (i:Int) (r:Aw),JI F v i=Ad r→FN 118 (Eg v i) [] (PO (rS r)))
  | 0=>(λ_ _ _ h=>by simp[JI] at h)
  | nn+1=>(λv i r h=>Ah3 nn (JI nn) (WF nn) v i r (by rw[JI] at h;exact h))
theorem Adr (F:Nat)(v:(List Av))(i:Int)(r:Aw)(h:JI F v i=Ad r):FN 118 (Eg v i) [] (PO (rS r)):=(WF F) v i r h
theorem NY (F:Nat)(v:(List Av))(r:Int)(h:NZ F v=Ad r):FN 85 (J8 v) [] (PO (Bn r)):=en func85 ntmps85 Aa λw Z=>AY Aa<|BH Aa<|ob h λr1 e3 h2=>CS call116 (AeW F v r1 e3)<|wv BO<|Be<|BG h2 (λc4 h5=>Bz Aa<|cs h5▸Gd Aey ⟨Aa,Aa⟩) λc4 h6=>B5<|AY Aa<|Be<|AL<|ob h6 λhp hq hm=>B8 (V:=Unit×Unit) 0 (λσ=>Cp (λσ=>IA v σ) σ.1 σ.2.1=Ad hp) (λσ=>[(0,Cg 4 (BP A7 v)),(3,Bn σ.2.1)]) (λσ=>[]) (λσ=>σ.1) (F,0,()) hq (AP Aa) sN (λσ=>OJ F v =Ad r) (λσ=>[(0,Cg 4 (BP A7 v))]) (λσ=>[]) (by rintro⟨gf,he,⟨⟩⟩ hr;refine EM ?_;obtain⟨hs,rfl,t46,hf,hg⟩:=C5 hr;have hf:IA v he=Ad t46:=hf;exact Bl<|AY Aa<|wv B1<|wv BS<|Be<|BG hf (λht hu=>B5<|AL<|ck hu λhh hw=>AM [(0,Cg 4 (BP A7 v)),(3,Bn he),(35,rB ((Br ((A2 v he).aa=3))&&((Br ((A2 v he).ay<(-1000000000000)))||(Br (1000000000000<(A2 v he).ay)))))] [] (BD Aa<|wv (Bh hh)<|wv BR<|wv Bb<|wv Bx<|ms Aa<|Ba (Br ((A2 v he).aa=3)) (λha=>wo ha<|ms Aa<|wo ha<|ms Aa<|Bt ha (Bh hh)<|Bt ha BR<|Bt ha Bb<|Bt ha BS<|wo ha<|ms Aa<|Ba (Br ((A2 v he).ay<(-1000000000000))) (λhb=>CI hb Aa<|Bt ha (Ax hb)<|EA Aa ha Aa<|AD<|by exact Ce (CU ha hb)) λhb=>wo hb<|ms Aa<|wo hb<|ms Aa<|Bt hb (Bh hh)<|Bt hb BR<|Bt hb Bb<|Bt hb Cw<|wo ha<|D7 Aa hb Aa<|EA Aa ha Aa<|AD<|by exact Ce (CU ha hb)) λha=>CI ha Aa<|wu<|wu<|wu<|wu<|wu<|wu<|wf ha<|wv (A9 ha)<|AD<|Ce ha)<|BG hw (λhx hy=>Cy Aa<|BW<|A5<|Bj<|have hz:=BK hy hg hm;BW<|cs hz▸Gd Aey ⟨Aa,Aa⟩) λhx h0=>Cf<|DB<|BD Aa<|ck h0 λh1 h3=>wv (Bg h1)<|B9 Aa<|have h4:=Bp h3 hg;AG (AA (hs,he+1,()) ⟨h4,Aqw _⟩ (AP Aa) sN)) λht h7=>BE<|A3<|have h8:=Ci h7 hg hm;A3 (Bk (AA ((),()) h8 (AP Aa) sN)))<|by rintro⟨⟨⟩,⟨⟩⟩ hi;refine Hb ?_;exact have hi:OJ F v =Ad r:=hi;Bo<|CL<|Bl<|ck hi λh9 hA=>AM [(0,Cg 4 (BP A7 v)),(43,rB ((Br (200<(Ae v:Int)))||(Br (8<(ov (EW F v 0))))))] [] (BD Aa<|wv B1<|wv Cw<|ms Aa<|Ba (Br (200<(Ae v:Int))) (λhd=>CI hd Aa<|wv (Ax hd)<|AD<|Ce hd) λhd=>wo hd<|ms Aa<|wo hd<|CS call117 (AeU F v 0 (ov (EW F v 0)) (GR (CA h9 hd)))<|Bt hd Cw<|D7 Aa hd Aa<|AD<|Ce hd)<|BG hA (λhB hC=>Bz Aa<|cs hC▸Gd Aey ⟨Aa,Aa⟩) λhB hD=>B5<|AY Aa<|Be<|AL<|ob hD λhE hG hn=>B8 (V:=Unit×Unit) 2 (λσ=>Cp (λσ=>I9 v σ) σ.1 σ.2.1=Ad hE) (λσ=>[(0,Cg 4 (BP A7 v)),(4,Bn σ.2.1)]) (λσ=>[]) (λσ=>σ.1) (F,0,()) hG (AP Aa) sN (λσ=>OI F v =Ad r) (λσ=>[(0,Cg 4 (BP A7 v))]) (λσ=>[]) (by rintro⟨gg,ho,⟨⟩⟩ hH;refine EM ?_;obtain⟨hI,rfl,hJ,hj,hk⟩:=C5 hH;have hj:I9 v ho=Ad hJ:=hj;exact Bl<|AY Aa<|wv B1<|wv BS<|Be<|BG hj (λhK hL=>B5<|AL<|AY Aa<|ck hL λhN hO=>wv (Bh hN)<|wv BR<|wv Bb<|wv B6<|wv Cw<|Be<|BG hO (λhP hQ=>Cy Aa<|BW<|A5<|Bj<|have hR:=BK hQ hk hn;BW<|cs hR▸Gd Aey ⟨Aa,Aa⟩) λhP hS=>Cf<|DB<|BD Aa<|ck hS λhT hU=>wv (Bg hT)<|B9 Aa<|have hV:=Bp hU hk;AG (AA (hI,ho+1,()) ⟨hV,Aqw _⟩ (AP Aa) sN)) λhK hW=>BE<|A3<|have hX:=Ci hW hk hn;A3 (Bk (AA ((),()) hX (AP Aa) sN)))<|by rintro⟨⟨⟩,⟨⟩⟩ hl;refine Hb ?_;exact have hl:OI F v =Ad r:=hl;Bo<|CL<|Bl<|AY Aa<|ob hl λhY hZ ga=>CS Wn (Adr F v 0 hY hZ)<|wv B6<|wv Cw<|Be<|BG ga (λgb gc=>Bz Aa<|cs gc▸Gd Aey ⟨Aa,Aa⟩) λgb gd=>BQ<|Cy Aa<|cs gd▸Gd Aey ⟨Aa,Aa⟩
theorem AeY (F:Nat)(v:(List Av))(r:Aw×Int)(h:TA F v=Ad r):FN 93 (J8 v) [] (PO (Du (D8 r.1 r.2))):=en func93 ntmps93 Aa λw Z=>AT<|wv (r:=rS ([]:Aw)) Bd<|ms Aa<|Ca Aa<|ob h λr1 e3 h2=>CS AgK (NY F v r1 e3)<|ms Aa<|BH Aa<|wv BU<|Be<|BG h2 (λc4 h5=>AY Aa<|wv (r:=rS ([]:Aw)) Bd<|Bw Aa<|A5<|cs h5▸Ki results93 ⟨Aa,Aa⟩) λc4 h6=>BQ<|AY Aa<|ob h6 λr7 e9 h8=>CS Wn (Adr F v 0 r7 e9)<|Bw Aa<|cs h8▸Ki results93 ⟨Aa,Aa⟩
end Go.Proofs.YtiddaamglmmnaaaGreatDoor.Q
namespace Go.Proofs.YtiddaamglmmnaaaGreatDoor
open Go
set_option linter.unusedVariables false
structure Bf where
 aH:Bool
 aL:Int
 ap:Bool
 aN:Aw
 aJ:Bool
 deriving DecidableEq,Inhabited
structure Bs where
 aI:Int
 aF:Int
 aD:Bool
 aK:Bool
 deriving DecidableEq,Inhabited
def NH (s:Aw)(ha:Int):Option (Stp Int (Out Bool Unit)):=
 By (Ac (ha<(Ae s:Int))) (Bc (CE ha (Ae s:Int))<|By (((Ac ((BA s ha)<32))||(Ac (126<(BA s ha))))) (Ad (.out (.ret Ah))) (Bc (BJ .i64 (ha+1))<|some (.next (ha+1)))) (Ad (.out (.go ())))
def Ml :Option Bool:=
 Ad Af
def SE (F:Nat)(s:Aw):Option Bool:=
 BB (Cp (λσ=>NH s σ) F 0) (Cb λν=>Ml )
def Q2 (s:Aw):Option Int:=
 Bc (BJ .i64 ((Ae s:Int)+2))<|Bc (BJ .i64 (((Ae s:Int)+2)+(Lib.countByte s 34:Int)))<|Bc (BJ .i64 ((((Ae s:Int)+2)+(Lib.countByte s 34:Int))+(Lib.countByte s 92:Int)))<|some ((((Ae s:Int)+2)+(Lib.countByte s 34:Int))+(Lib.countByte s 92:Int))
def Uv (F:Nat)(c:Av):Option Bool:=
 By (Ac (c.aa=1)) (Ad ((Ac (c.ay=0))&&((Ac (c.au=([]:Aw)))&&(Ac (c.fN=0))))) (By (Ac (c.aa=2)) (Ad (bif Ac (c.ay=0) then((Ac (c.au=([]:Aw)))&&(Ac (c.fN=0))) else((Ac (c.ay=1))&&((Ac (c.au=([]:Aw)))&&(Ac (c.fN=0)))))) (By (Ac (c.aa=3)) (Ad ((Ac (c.au=([]:Aw)))&&(Ac (c.fN=0)))) (By (Ac (c.aa=4)) (Bc (imp (Ac (c.ay=0)) (imp (Ac (c.fN=0)) (SE F c.au).isSome))<|some ((Ac (c.ay=0))&&((Ac (c.fN=0))&&(ov (SE F c.au))))) (By (Ac (c.aa=5)) (Ad ((Ac (c.ay=0))&&((Ac (c.au=([]:Aw)))&&(Ac (0≤c.fN))))) (By (Ac (c.aa=6)) (Ad ((Ac (c.ay=0))&&((Ac (c.au=([]:Aw)))&&(Ac (0≤c.fN))))) (Ad Ah))))))
def Z6 (c:Av):Option Int:=
 By (Ac (c.aa=1)) (Ad 4) (By (Ac (c.aa=2)) (Ad (IntKind.wrap .i64 (5-c.ay))) (By (Ac (c.aa=3)) (Bc (BJ .i64 c.ay)<|some (Ae (Lib.itoa c.ay):Int)) (By (Ac (c.aa=4)) (BB (Q2 c.au) λha=>Ad ha) (Ad (IntKind.wrap .i64 (2+(max 0 (IntKind.wrap .i64 (c.fN-1)))))))))
def Ip (ha:(List Bf)):Option (Stp ((List Bf)) (Out ((List Bf)) ((List Bf)))):=
 By (Ac (0<(ha.length:Int))) (Bc (BJ .i64 ((ha.length:Int)-1))<|Bc (CE ((ha.length:Int)-1) (ha.length:Int))<|Bc (BJ .i64 ((A2 ha ((ha.length:Int)-1)).aL-1))<|Pp (List.set ha (Ao ((ha.length:Int)-1)) (Bf.mk (A2 ha ((ha.length:Int)-1)).aH ((A2 ha ((ha.length:Int)-1)).aL-1) (A2 ha ((ha.length:Int)-1)).ap (A2 ha ((ha.length:Int)-1)).aN (A2 ha ((ha.length:Int)-1)).aJ)) λhb=>By (Ac (0<(A2 hb ((ha.length:Int)-1)).aL)) (Pp (List.set hb (Ao ((ha.length:Int)-1)) (Bf.mk (A2 hb ((ha.length:Int)-1)).aH (A2 hb ((ha.length:Int)-1)).aL (A2 hb ((ha.length:Int)-1)).aH (A2 hb ((ha.length:Int)-1)).aN (A2 hb ((ha.length:Int)-1)).aJ)) λhd=>Ad (.out (.ret hd))) (Bc (BJ .i64 ((hb.length:Int)-1))<|Bc (Gk ((hb.length:Int)-1) (hb.length:Int))<|some (.next (Aq (Ao ((hb.length:Int)-1)) hb)))) (Ad (.out (.go ha)))
def Io (ha:(List Bf)):Option ((List Bf)):=
 Ad ha
def T2 (F:Nat)(stack:(List Bf)):Option ((List Bf)):=
 BB (Cp (λσ=>Ip σ) F stack) (Cb λν=>Io ν)
def IO (ha:Int)(hb:(List Bf))(hd:Bs):Option (Stp ((List Bf)×Int×Bs) (Out (Int×Bs×Bool) Bs)):=
 Bc (BJ .i64 (ha+1))<|some (.next (hb,ha+1,hd))
def HR (F:Nat)(v:(List Av))(ha:(List Bf))(hb:Int)(hd:Bs):Option (Stp ((List Bf)×Int×Bs) (Out (Int×Bs×Bool) Bs)):=
 By (Ac (hb<(Ae v:Int))) (Bc (CE hb (Ae v:Int))<|BB (Uv F (A2 v hb)) λhj=>By (!hj) (Ad (.out (.ret (0,hd,Ah)))) (Bc (imp (Ac (0<(ha.length:Int))) (BJ .i64 ((ha.length:Int)-1)))<|Bc (imp (Ac (0<(ha.length:Int))) (CE ((ha.length:Int)-1) (ha.length:Int)))<|By (((Ac (0<(ha.length:Int)))&&(A2 ha ((ha.length:Int)-1)).ap)) (Bc (BJ .i64 ((ha.length:Int)-1))<|Bc (CE ((ha.length:Int)-1) (ha.length:Int))<|By (((!Ac ((A2 v hb).aa=4))||((A2 ha ((ha.length:Int)-1)).aJ&&(CH (A2 v hb).au (A2 ha ((ha.length:Int)-1)).aN||decide ((A2 v hb).au=(A2 ha ((ha.length:Int)-1)).aN))))) (Ad (.out (.ret (0,hd,Ah)))) (Pp (List.set ha (Ao ((ha.length:Int)-1)) (Bf.mk (A2 ha ((ha.length:Int)-1)).aH (A2 ha ((ha.length:Int)-1)).aL (A2 ha ((ha.length:Int)-1)).ap (A2 v hb).au (A2 ha ((ha.length:Int)-1)).aJ)) λhe=>Pp (List.set he (Ao ((ha.length:Int)-1)) (Bf.mk (A2 he ((ha.length:Int)-1)).aH (A2 he ((ha.length:Int)-1)).aL (A2 he ((ha.length:Int)-1)).ap (A2 he ((ha.length:Int)-1)).aN Af)) λhf=>Pp (List.set hf (Ao ((ha.length:Int)-1)) (Bf.mk (A2 hf ((ha.length:Int)-1)).aH (A2 hf ((ha.length:Int)-1)).aL Ah (A2 hf ((ha.length:Int)-1)).aN (A2 hf ((ha.length:Int)-1)).aJ)) λhk=>BB (Q2 (A2 v hb).au) λhh=>Bc (BJ .i64 (hh+1))<|IO hb hk (Bs.mk hd.aI (IntKind.wrap .i64 (hd.aF+(hh+1))) hd.aD (hd.aK||(Ac (200<(Ae (A2 v hb).au:Int))))))) (Bc (BJ .i64 ((ha.length:Int)+1))<|BB (Z6 (A2 v hb)) λhg=>Bc (imp (!hd.aD) (imp (Ac ((A2 v hb).aa=3)) (DQ (A2 v hb).ay).isSome))<|By (Ac (0<(A2 v hb).fN)) (By (Ac ((Ae v:Int)<(A2 v hb).fN)) (Ad (.out (.ret (0,(Bs.mk (max hd.aI ((ha.length:Int)+1)) (IntKind.wrap .i64 (hd.aF+hg)) (hd.aD||((Ac ((A2 v hb).aa=3))&&(!(ov (DQ (A2 v hb).ay))))) (hd.aK||(Ac (200<(Ae (A2 v hb).au:Int))))),Ah)))) (Bc (De 48 (ha.length+Ae ([(Bf.mk (Ac ((A2 v hb).aa=6)) (A2 v hb).fN (Ac ((A2 v hb).aa=6)) ([]:Aw) Ah)]:List Bf)))<|IO hb (ha++([(Bf.mk (Ac ((A2 v hb).aa=6)) (A2 v hb).fN (Ac ((A2 v hb).aa=6)) ([]:Aw) Ah)]:List Bf)) (Bs.mk (max hd.aI ((ha.length:Int)+1)) (IntKind.wrap .i64 (hd.aF+hg)) (hd.aD||((Ac ((A2 v hb).aa=3))&&(!(ov (DQ (A2 v hb).ay))))) (hd.aK||(Ac (200<(Ae (A2 v hb).au:Int))))))) (BB (T2 F ha) λhi=>By (Ac ((hi.length:Int)=0)) (Bc (BJ .i64 (hb+1))<|some (.out (.ret (hb+1,(Bs.mk (max hd.aI ((ha.length:Int)+1)) (IntKind.wrap .i64 (hd.aF+hg)) (hd.aD||((Ac ((A2 v hb).aa=3))&&(!(ov (DQ (A2 v hb).ay))))) (hd.aK||(Ac (200<(Ae (A2 v hb).au:Int))))),Af)))) (IO hb hi (Bs.mk (max hd.aI ((ha.length:Int)+1)) (IntKind.wrap .i64 (hd.aF+hg)) (hd.aD||((Ac ((A2 v hb).aa=3))&&(!(ov (DQ (A2 v hb).ay))))) (hd.aK||(Ac (200<(Ae (A2 v hb).au:Int)))))))))) (Ad (.out (.go hd)))
def Q3 (ha:Bs):Option (Int×Bs×Bool):=
 Ad (0,ha,Ah)
def N4 (F:Nat)(v:(List Av)):Option (Int×Bs×Bool):=
 BB (Cp (λσ=>HR F v σ.1 σ.2.1 σ.2.2) F (([]:List Bf),0,(Bs.mk 0 0 Ah Ah))) (Cb λν=>Q3 ν)
def NJ (F:Nat)(v:(List Av)):Option Int:=
 BB (N4 F v) λr1=>By (((!r1.2.2)||(!Ac (r1.1=(Ae v:Int))))) (Ad 1) (By r1.2.1.aD (Ad 2) (By ((r1.2.1.aK||((Ac (200<(Ae v:Int)))||((Ac (8<r1.2.1.aI))||(Ac (4000<r1.2.1.aF)))))) (Ad 3) (Ad 0)))
def Uz (F:Nat)(v:(List Av)):Option ((List Av)×Int):=
 BB (NJ F v) λr1=>By (!Ac (r1=0)) (Ad (([]:List Av),r1)) (Ad (v,0))
end Go.Proofs.YtiddaamglmmnaaaGreatDoor
namespace Go.Proofs.YtiddaamglmmnaaaGreatDoor.Q
open Go Go.RowKit
set_option linter.unusedVariables false
set_option linter.unusedSimpArgs false
set_option maxRecDepth 100000
set_option maxHeartbeats 4000000
@[reducible] def Gt (x:Bf):List Rp:=[rB x.aH,Bn x.aL,rB x.ap,rS x.aN,rB x.aJ]
theorem N8 (x:Bf):Ae (Gt x)=5:=rfl
theorem Tv (x:Bf):(Gt x).all (·.one)=Af:=rfl
abbrev I0 (x0 x1:Int)(x2 x3:Bool):List Rp:=[Bn x0,Bn x1,rB x2,rB x3]
@[reducible] def Ja (x:Bs):List Rp:=(I0 x.aI x.aF x.aD x.aK)
theorem Alm:ifI 154 (.agg #[(.bool Ah),(.int .i64 0),(.bool Ah),(.string ⟨#[]⟩),(.bool Ah)]) 5 48:=PF Ak
theorem AjB (parts:List (Nat×Value)):prog.built 154 parts=Instr.fill (λi=>(#[(0,1),(1,1),(2,1),(3,1),(4,1)]:Array (Nat×Nat))[i]?) #[(.bool Ah),(.int .i64 0),(.bool Ah),(.string ⟨#[]⟩),(.bool Ah)] parts:=Ak
theorem Akq (F:Nat)(s:Aw)(r:Bool)(h:SE F s=Ad r):FN 147 [rS s] [] (PO (rB r)):=en func147 ntmps147 Aa λw Z=>AY Aa<|BH Aa<|wv B6<|CW Aa<|AL<|ob h λhi hj hg=>B8 (V:=Unit×Unit) 0 (λσ=>Cp (λσ=>NH s σ) σ.1 σ.2.1=Ad hi) (λσ=>[(0,rS s),(5,Bn (Ae s:Int)),(6,Bn σ.2.1)]) (λσ=>[]) (λσ=>σ.1) (F,0,()) hj (AP Aa) sN (λσ=>Ml =Ad r) (λσ=>[]) (λσ=>[]) (by rintro⟨hz,hb,⟨⟩⟩ hk;refine EM ?_;obtain⟨hl,rfl,t37,he,hf⟩:=C5 hk;have he:NH s hb=Ad t37:=he;exact AT<|wv BS<|Cz<|BG he (λhm hn=>B5<|AL<|AY Aa<|Be<|ck hn λhh ho=>AM [(0,rS s),(5,Bn (Ae s:Int)),(6,Bn hb),(18,rB ((Br ((BA s hb)<32))||(Br (126<(BA s hb)))))] [] (BD Aa<|wv (B0 hh)<|wv BS<|ms Aa<|Ba (Br ((BA s hb)<32)) (λha=>CI ha Aa<|wv (Ax ha)<|AD<|Ce ha) λha=>wo ha<|ms Aa<|wo ha<|ms Aa<|Bt ha (B0 hh)<|Bt ha Cw<|D7 Aa ha Aa<|AD<|Ce ha)<|BG ho (λhp hq=>Cy Aa<|BW<|A5<|Bj<|have hr:=BK hq hf hg;BW<|cs hr▸Gd results147 ⟨Aa,Aa⟩) λhp hs=>Cf<|DB<|AU<|ck hs λht hu=>wv (Bg ht)<|B9 Aa<|have hw:=Bp hu hf;AG (AA (hl,hb+1,()) ⟨hw,Aqw _⟩ (AP Aa) sN)) λhm hx=>BE<|A3<|have hy:=Ci hx hf hg;A3 (Bk (AA ((),()) hy Hj.nil sN)))<|by rintro⟨⟨⟩,⟨⟩⟩ hd;refine Hb ?_;exact have hd:Ml =Ad r:=hd;by unfold Ml at hd;exact Bo<|CL<|Cy Aa<|cs hd▸Gd results147 ⟨Aa,Aa⟩
theorem Ws (s:Aw)(r:Int)(h:Q2 s=Ad r):FN 111 [rS s] [] (PO (Bn r)):=en func111 ntmps111 Aa λw Z=>AY Aa<|Ca Aa<|wv B6<|ck h λg1 h2=>wv (Bg g1)<|ms Aa<|CR call148 Aa (Aen s 34) Aa Aa<|ck h2 λg3 h4=>wv (Bg g3)<|ms Aa<|CR call148 Aa (Aen s 92) Aa Aa<|ck h4 λg5 h6=>wv (Bg g5)<|Bw Aa<|cs h6▸Gd results111 ⟨Aa,Aa⟩
theorem Ahf (F:Nat)(c:Av)(r:Bool)(h:Uv F c=Ad r):FN 110 [Dr (A7 c)] [] (PO (rB r)):=en func110 ntmps110 Aa λw Z=>by unfold Uv at h;exact AT<|Dd Aa Aa λb1=>ms Aa<|Cz<|AT<|wv AB<|wv (Ay 0)<|Be<|AL<|AT<|wv Bx<|CW Aa<|BG h (λc2 h3=>AM [(2,rB ((Br (c.ay=0))&&((Br (c.au=([]:Aw)))&&(Br (c.fN=0)))))] [] (AU<|wv AB<|wv (Ay 0)<|wv Bx<|ms Aa<|Ba (Br (c.ay=0)) (λc4=>Bt c4 AB<|Bt c4 (Ay 0)<|Bt c4 Es<|EA Aa c4 Aa<|ms Aa<|Ba (Br (c.au=([]:Aw))) (λc5=>Bt c5 AB<|Bt c5 (Ay 0)<|Bt c5 Bx<|EA Aa c5 Aa<|B9 Aa<|Ce (CU c4 c5)) λc5=>CI c5 Aa<|wv (A9 c5)<|B9 Aa<|Ce (CU c4 c5)) λc4=>CI c4 Aa<|wv (A9 c4)<|ms Aa<|Ea Aa<|wv (A9 Aa)<|B9 Aa<|Ce c4)<|CM<|BW<|cs h3▸Gd Uh ⟨Aa,Aa⟩) λc2 h6=>AT<|wv Bx<|CW Aa<|BG h6 (λc7 h8=>AM [(2,rB (bif Br (c.ay=0) then((Br (c.au=([]:Aw)))&&(Br (c.fN=0))) else((Br (c.ay=1))&&((Br (c.au=([]:Aw)))&&(Br (c.fN=0))))))] [] (AU<|wv AB<|wv (Ay 0)<|wv Bx<|ms Aa<|Ba (Br (c.ay=0)) (λc9=>CI c9 Aa<|wv (Ax c9)<|ms Aa<|HP Aa<|wv AB<|HP Aa<|wv (Ay 0)<|HP Aa<|wv Es<|wv (Ax Aa)<|ms Aa<|Ba (Br (c.au=([]:Aw))) (λhg=>by exact Bt hg AB<|Bt hg (Ay 0)<|Bt hg Bx<|EA Aa hg Aa<|B9 Aa<|Ce (CU c9 hg)) λhg=>by exact CI hg Aa<|wv (A9 hg)<|B9 Aa<|Ce (CU c9 hg)) λc9=>Bt c9 AB<|Bt c9 (Ay 0)<|Bt c9 Bx<|D7 Aa c9 Aa<|ms Aa<|Ba (Br (c.ay=1)) (λhb=>Bt hb AB<|Bt hb (Ay 0)<|Bt hb Es<|EA Aa hb Aa<|ms Aa<|Ba (Br (c.au=([]:Aw))) (λhh=>by exact Bt hh AB<|Bt hh (Ay 0)<|Bt hh Bx<|EA Aa hh Aa<|B9 Aa<|Ce (CU c9 (CU hb hh))) λhh=>by exact CI hh Aa<|wv (A9 hh)<|B9 Aa<|Ce (CU c9 (CU hb hh))) λhb=>CI hb Aa<|wv (A9 hb)<|ms Aa<|Ea Aa<|wv (A9 Aa)<|B9 Aa<|by exact Ce (CU c9 hb))<|CM<|BW<|cs h8▸Gd Uh ⟨Aa,Aa⟩) λc7 hm=>AT<|wv Bx<|CW Aa<|BG hm (λhn ho=>AM [(2,rB ((Br (c.au=([]:Aw)))&&(Br (c.fN=0))))] [] (AU<|wv AB<|wv (Ay 0)<|wv Es<|ms Aa<|Ba (Br (c.au=([]:Aw))) (λhi=>Bt hi AB<|Bt hi (Ay 0)<|Bt hi Bx<|EA Aa hi Aa<|B9 Aa<|by exact Ce hi) λhi=>CI hi Aa<|wv (A9 hi)<|B9 Aa<|Ce hi)<|CM<|BW<|cs ho▸Gd Uh ⟨Aa,Aa⟩) λhn hp=>AT<|wv Bx<|CW Aa<|BG hp (λhq hr=>ck hr λhs ht=>AM [(2,rB ((Br (c.ay=0))&&((Br (c.fN=0))&&(ov (SE F c.au)))))] [] (AU<|wv AB<|wv (Ay 0)<|wv Bx<|ms Aa<|Ba (Br (c.ay=0)) (λha=>Bt ha AB<|Bt ha (Ay 0)<|Bt ha Bx<|EA Aa ha Aa<|ms Aa<|Ba (Br (c.fN=0)) (λhd=>by exact Bt hd AB<|Bt hd (Ay 0)<|wo hd<|CS call147 (Akq F c.au (ov (SE F c.au)) (GR (C3 (C3 hs ha) hd)))<|EA Aa hd Aa<|B9 Aa<|Ce (CU ha hd)) λhd=>by exact CI hd Aa<|wv (A9 hd)<|B9 Aa<|Ce (CU ha hd)) λha=>CI ha Aa<|wv (A9 ha)<|ms Aa<|Ea Aa<|wv (A9 Aa)<|B9 Aa<|by exact Ce ha)<|CM<|BW<|cs ht▸Gd Uh ⟨Aa,Aa⟩) λhq hu=>Bl<|AT<|wv Bx<|CW Aa<|BG hu (λhl hw=>BQ<|G4 Aa hl<|AM [(2,rB ((Br (c.ay=0))&&((Br (c.au=([]:Aw)))&&(Br (0≤c.fN)))))] [] (AU<|wv AB<|wv (Ay 0)<|wv Bx<|ms Aa<|Ba (Br (c.ay=0)) (λhe=>by exact Bt he AB<|Bt he (Ay 0)<|Bt he Es<|EA Aa he Aa<|ms Aa<|Ba (Br (c.au=([]:Aw))) (λhj=>Bt hj AB<|Bt hj (Ay 0)<|Bt hj Gs<|EA Aa hj Aa<|B9 Aa<|Ce (CU he hj)) λhj=>CI hj Aa<|wv (A9 hj)<|B9 Aa<|Ce (CU he hj)) λhe=>by exact CI he Aa<|wv (A9 he)<|ms Aa<|Ea Aa<|wv (A9 Aa)<|B9 Aa<|Ce he)<|CM<|BW<|by exact cs hw▸Gd Uh ⟨Aa,Aa⟩) λhl hx=>AU<|wv Bx<|CW Aa<|BG hx (λhy hz=>by exact AM [(2,rB ((Br (c.ay=0))&&((Br (c.au=([]:Aw)))&&(Br (0≤c.fN)))))] [] (AU<|wv AB<|wv (Ay 0)<|wv Bx<|ms Aa<|Ba (Br (c.ay=0)) (λhf=>Bt hf AB<|Bt hf (Ay 0)<|Bt hf Es<|EA Aa hf Aa<|ms Aa<|Ba (Br (c.au=([]:Aw))) (λhk=>Bt hk AB<|Bt hk (Ay 0)<|Bt hk Gs<|EA Aa hk Aa<|B9 Aa<|Ce (CU hf hk)) λhk=>CI hk Aa<|wv (A9 hk)<|B9 Aa<|Ce (CU hf hk)) λhf=>CI hf Aa<|wv (A9 hf)<|ms Aa<|Ea Aa<|wv (A9 Aa)<|B9 Aa<|Ce hf)<|CM<|BW<|cs hz▸Gd Uh ⟨Aa,Aa⟩) λhy h0=>by exact Cf<|DB<|Cy Aa<|cs h0▸AC (Dj Uh AW) (sS sN) ⟨Aa,Aa⟩
theorem Akr (c:Av)(r:Int)(h:Z6 c=Ad r):FN 112 [Dr (A7 c)] [] (PO (Bn r)):=en func112 ntmps112 Aa λw Z=>by unfold Z6 at h;exact AT<|Dd Aa Aa λb1=>ms Aa<|Cz<|AT<|wv AB<|wv (Ay 0)<|Be<|AL<|AT<|wv Bx<|CW Aa<|BG h (λc2 h3=>Cy Aa<|BW<|cs h3▸AC (Dj Zx AW) (sS sN) ⟨Aa,Aa⟩) λc2 h4=>AT<|wv Bx<|CW Aa<|BG h4 (λc5 h6=>AT<|wv AB<|wv (Ay 0)<|wv (AhW Aa Aa)<|Bw Aa<|BW<|cs h6▸AC (Dj Zx AW) (sS sN) ⟨Aa,Aa⟩) λc5 h7=>AT<|wv Bx<|CW Aa<|BG h7 (λc8 h9=>AT<|wv AB<|wv (Ay 0)<|ck h9 λha hb=>CR Ui Aa (H4 c.ay ha) Aa Aa<|wv B6<|Bw Aa<|BW<|cs hb▸AC (Dj Zx AW) (sS sN) ⟨Aa,Aa⟩) λc8 hd=>AT<|wv Bx<|CW Aa<|BG hd (λhe hf=>AT<|wv AB<|wv (Ay 0)<|ob hf λhg hh hi=>CS call111 (Ws c.au hg hh)<|Bw Aa<|BW<|cs hi▸AC (Dj Zx AW) (sS sN) ⟨Aa,Aa⟩) λhe hj=>Cf<|DB<|AT<|wv AB<|wv (Ay 0)<|wv (AhW Aa Aa)<|wv (AlZ S7 Aa Aa)<|wv (Ach Aa Aa)<|Bw Aa<|by exact cs hj▸AC (Dj Zx AW) (sS sN) ⟨Aa,Aa⟩
abbrev IV (x0:Value)(x1:List Bf):Ent:=.row x0 154 5 (BP Gt x1)
theorem AeB (F:Nat)(hh:Value)(stack r:(List Bf))(h:T2 F stack=Ad r):FN 113 [rv hh] [IV hh stack] (λR H=>∃u0:Value,R=rv u0∧H=[IV u0 r]):=en func113 ntmps113 Aa λw Z=>AY Aa<|Cz<|AL<|ob h λhl hm hk=>B8 (V:=((List Bf))×Value) 0 (λσ=>Cp (λσ=>Ip σ) σ.1 σ.2.1=Ad hl) (λσ=>[(0,rv σ.2.2),(2,rv (.slice Ai 0 0))]) (λσ=>[IV σ.2.2 σ.2.1]) (λσ=>σ.1) (F,stack,hh) hm (AP Aa) (sC sN) (λσ=>Io σ.1=Ad r) (λσ=>[(0,rv σ.2),(2,rv (.slice Ai 0 0))]) (λσ=>[IV σ.2 σ.1]) (by rintro⟨n194,ha,hf⟩ hn;refine EM ?_;obtain⟨ho,rfl,hp,hi,hj⟩:=C5 hn;have hi:Ip ha=Ad hp:=hi;exact Bl<|AY Aa<|wv (CC 0 N1 Aa Aa)<|wv Cw<|Be<|BG hi (λhq hr=>BQ<|AL<|AY Aa<|wv (CC 0 N1 Aa Aa)<|ck hr λhs ht=>wv (G7 hs)<|ck ht λhb hu=>wv (EO 0 N1 Zt Aa Aa Aa (Cl hb))<|ms Aa<|Ca Aa<|wv (DW (k:=0) Aa (Cl hb) Aa Aa)<|wv (Gg (k:=0) N0 Aa H6 Aa (Cl hb) Aa Aa Aa)<|wv (Hv 0 Kh Aa Aa hb Aa)<|ck hu λhw hx=>wv (G7 hw)<|wv (DW (k:=0) Aa (Cl hb) Aa Aa)<|wv (Gg (k:=0) N0 Aa H6 Aa (Cl hb) Aa Aa Aa)<|NK (enc:=Gt) (ys:=ha) (y':=(Bf.mk (A2 ha ((ha.length:Int)-1)).aH ((A2 ha ((ha.length:Int)-1)).aL-1) (A2 ha ((ha.length:Int)-1)).ap (A2 ha ((ha.length:Int)-1)).aN (A2 ha ((ha.length:Int)-1)).aJ)) (i:=0) (j:=(ha.length:Int)-1) H6 Aa Aa (Cs Aa) Aa hb Aa Aa (H':=[IV hf (List.set ha (CV ((ha.length:Int)-1)) (Bf.mk (A2 ha ((ha.length:Int)-1)).aH ((A2 ha ((ha.length:Int)-1)).aL-1) (A2 ha ((ha.length:Int)-1)).ap (A2 ha ((ha.length:Int)-1)).aN (A2 ha ((ha.length:Int)-1)).aJ))]) Aa<|bd hx λhd he hy=>by rw[← he];exact BH Aa<|wv (DW (k:=0) Aa (Cl (EY hb he)) Aa Aa)<|wv (Gg (k:=0) N0 Aa H6 Aa (Cl (EY hb he)) Aa Aa Aa)<|wv (Hv 0 Kh Aa Aa (EY hb he) Aa)<|wv Cw<|Be<|BG hy (λhz h0=>AY Aa<|wv (DW (k:=0) Aa (Cl (EY hb he)) Aa Aa)<|wv (Gg (k:=0) N0 Aa Tk Aa (Cl (EY hb he)) Aa Aa Aa)<|wv (Hv 0 ya4 Aa Aa (EY hb he) Aa)<|wv (DW (k:=0) Aa (Cl (EY hb he)) Aa Aa)<|wv (Gg (k:=0) N0 Aa Tk Aa (Cl (EY hb he)) Aa Aa Aa)<|NK (enc:=Gt) (ys:=hd) (y':=(Bf.mk (A2 hd ((ha.length:Int)-1)).aH (A2 hd ((ha.length:Int)-1)).aL (A2 hd ((ha.length:Int)-1)).aH (A2 hd ((ha.length:Int)-1)).aN (A2 hd ((ha.length:Int)-1)).aJ)) (i:=0) (j:=(ha.length:Int)-1) Tk Aa Aa (Cs Aa) Aa (EY hb he) Aa Aa (H':=[IV hf (List.set hd (CV ((ha.length:Int)-1)) (Bf.mk (A2 hd ((ha.length:Int)-1)).aH (A2 hd ((ha.length:Int)-1)).aL (A2 hd ((ha.length:Int)-1)).aH (A2 hd ((ha.length:Int)-1)).aN (A2 hd ((ha.length:Int)-1)).aJ))]) Aa<|bd h0 λhG h1 h2=>by rw[← h1];exact Dt<|Bw Aa<|A5<|BW<|Bj<|have h3:=BK h2 hj hk;BW<|cs h3▸AC (Dj results113 AW) (sC sN) ⟨hf,Aa,Aa⟩) λhz h4=>BQ<|BD Aa<|wv (CC 0 N1 Aa Aa)<|ck h4 λh5 h6=>wv (G7 h5)<|ck h6 λh7 h8=>AnP (i:=0) N1 Zt Aa Aa Aa h7 Aa λh9=>B9 Aa<|Bm<|have hA:=Bp h8 hj;AG (AA (ho,Aq (CV ((hd.length:Int)-1)) hd,h9) ⟨hA,Aqw _⟩ (AP Aa) (sC sN))) λhq hB=>BE<|A3<|have hC:=Ci hB hj hk;A3 (Bk (AA (ha,hf) hC (AP Aa) (sC sN))))<|by rintro⟨hD,hE⟩ hg;refine Hb ?_;exact have hg:Io hD=Ad r:=hg;by unfold Io at hg;exact Bo<|CL<|Cy Aa<|cs hg▸AC (Dj results113 AW) (sC sN) ⟨hE,Aa,Aa⟩
abbrev Ot :List Rp:=[Bn 0,Bn 0,rB Ah,rB Ah]
abbrev IX (x0:Nat)(x1:Av)(x2:Nat)(x3 x4:Int)(x5 x6:Bool)(x7:Nat)(x8:Value)(x9:List Bf):List Ent:=[EE x0 x1,.blk x2 (I0 x3 x4 x5 x6) 124,.blk x7 Ot 124,IV x8 x9]
abbrev H0 (x0:Nat)(x1:Bs):Ent:=.blk x0 (Ja x1) 124
abbrev Ql (x0:Nat)(x1:Bs)(x2:Nat)(x3:Value)(x4:List Bf):List Ent:=[H0 x0 x1,.blk x2 Ot 124,IV x3 x4]
abbrev AiT (x0:Nat)(x1:Av)(x2:Nat)(x3 x4:Int)(x5 x6:Bool)(x7:Nat)(x8:Value)(x9:List Bf):List Ent:=[EE x0 x1,.blk x2 (I0 x3 x4 x5 x6) 124,.blk x7 (I0 x3 x4 x5 x6) 124,IV x8 x9]
abbrev AiS (x0:Value)(x1:List Bf)(x2:Nat)(x3:Av)(x4:Nat)(x5 x6:Int)(x7 x8:Bool)(x9:Nat):List Ent:=[IV x0 x1,EE x2 x3,.blk x4 (I0 x5 x6 x7 x8) 124,.blk x9 (I0 x5 x6 x7 x8) 124]
theorem XU (F:Nat)(v:(List Av))(r:Int×Bs×Bool)(h:N4 F v=Ad r):FN 80 (J8 v) [] (PO (Du [Bn r.1,Dr (Ja r.2.1),rB r.2.2])):=en func80 ntmps80 Aa λw Z=>by unfold N4 at h;exact AY Aa<|CD (cs:=Ot) Zo Aa Aa λb1=>CW Aa<|Aha<|AT<|CD (cs:=Ot) Zo Aa Aa λb2=>Ca Aa<|Cz<|Ahb<|CL<|Bl<|AY Aa<|wv B1<|CW Aa<|AL<|WC.nilrow (e:=154) (sz:=5)<|JH [1,1] Aa<|ob h λh8 h9 hx=>B8 (V:=Bs×Unit) 0 (λσ=>Cp (λσ=>HR F v σ.1 σ.2.1 σ.2.2) σ.1 σ.2.1=Ad h8) (λσ=>[(0,Cg 4 (BP A7 v)),(3,rP b1 0),(5,rP b2 0),(6,rv σ.2.2),(11,Cg 4 (BP A7 v)),(12,Bn (Ae v:Int)),(13,Bn σ.2.1.2.1)]) (λσ=>(Ql b2 σ.2.1.2.2 b1 σ.2.2 σ.2.1.1)) (λσ=>σ.1) (F,(([]:List Bf),0,(Bs.mk 0 0 Ah Ah)),(.slice Ai 0 0                                                                                                                                                          )) h9 (AP Aa) (sC (sC (sC sN))) (λσ=>Q3 σ.1=Ad r) (λσ=>[(3,rP b1 0),(5,rP b2 0)]) (λσ=>[H0 b2 σ.1,.blk b1 Ot 124]) (by rintro⟨gJ,⟨hd,hb,ha⟩,he⟩ hA;refine EM ?_;obtain⟨hB,rfl,h1,h2,hu⟩:=C5 hA;have h2:HR F v hd hb ha=Ad h1:=h2;exact AT<|wv BS<|Cz<|BG h2 (λhC hD=>BQ<|D2 (S:=((List Bf)×Bs)×Value) (λσ=>IO hb σ.1.1 σ.1.2=Ad h1) (λσ=>[(0,Cg 4 (BP A7 v)),(3,rP b1 0),(5,rP b2 0),(6,rv σ.2),(11,Cg 4 (BP A7 v)),(12,Bn (Ae v:Int)),(13,Bn hb)]) (λσ=>(Ql b2 σ.1.2 b1 σ.2 σ.1.1)) (AL<|AY Aa<|ck hD λhE hG=>wv (Bh hE)<|wv Dq<|CD (cs:=(Sq ([]:Aw))) HK Aa Aa λhf=>by refine ms Aa<|L5 0 G0 Aa Aa Aa (CB.c Aa) Aa Aa ?_;exact Cz<|AT<|wv (BI 0)<|ob hG λhH hI hJ=>CS call110 (Ahf F (A2 v hb) hH hI)<|wv BO<|Be<|BG hJ (λhK hL=>by refine Bl<|KS [3,5] [⟨[],Dr (Ja ha),1⟩,⟨[],Bn 0,0⟩,⟨[0],rv undef,2⟩,⟨[],rB Ah,0⟩] (rle [(3,_),(2,[EE hf (A2 v hb),H0 b2 ha,H0 b1 ha,IV he hd])]) [2,4,3] ?_ ?_;refine of (DJ 1 P1 Ji Aa Aa Aa Aa)<|oq (Cj Aa)<|Od Aa (Yw (Ie (i:=2) Ji Aa Aa Aa (CB.c Aa) Aa Aa (cs':=(I0 ha.aI ha.aF ha.aD ha.aK)) Aa (H':=[EE hf (A2 v hb),H0 b2 ha,H0 b1 ha,IV he hd]) Aa)) ?_;exact oq (Cj Aa)<|Kt;exact CL<|CM<|A5<|BW<|A5<|Bj<|have hN:=BK hL hu hx;BW<|O5<|cs hN▸AC (r_3 AgH AW (Jk (i:=2) P1 Ji Aa Aa Aa) AW) (sK 0) ⟨Aa,Aa⟩) λhK hO=>B5<|AY Aa<|wv (CC 3 N1 Aa Aa)<|CW Aa<|ck hO λhP hQ=>ck hQ λh3 hR=>AM [(0,Cg 4 (BP A7 v)),(3,rP b1 0),(5,rP b2 0),(6,rv he),(7,Bn hb),(8,rP hf 0),(9,Bn (hd.length:Int)),(11,Cg 4 (BP A7 v)),(12,Bn (Ae v:Int)),(13,Bn hb),(33,rB ((Br (0<(hd.length:Int)))&&(A2 hd ((hd.length:Int)-1)).ap))] (.blk hf (A7 (A2 v hb)) 77::Ql b2 ha b1 he hd) (BD Aa<|wv Cw<|ms Aa<|Ba (Br (0<(hd.length:Int))) (λhk=>wo hk<|ms Aa<|wo hk<|ms Aa<|Bt hk (G7 (C3 hP hk))<|Bt hk (EO 3 N1 Zt Aa Aa Aa (Cl (C3 h3 hk)))<|Bt hk (Gg (k:=3) N0 Aa Tk Aa (Cl (C3 h3 hk)) Aa Aa Aa)<|Bt hk (Hv 3 ya4 Aa Aa (C3 h3 hk) Aa)<|EA Aa hk Aa<|AD<|Ce hk) λhk=>CI hk Aa<|wv (A9 hk)<|AD<|Ce hk)<|BG hR (λhS hT=>AY Aa<|ck hT λhU hV=>wv (G7 hU)<|ck hV λhi hW=>wv (EO 3 N1 Zt Aa Aa Aa (Cl hi))<|ms Aa<|Cz<|AM [(0,Cg 4 (BP A7 v)),(3,rP b1 0),(5,rP b2 0),(6,rv he),(8,rP hf 0),(10,rv (VA 5 he (CV ((hd.length:Int)-1)) 0)),(11,Cg 4 (BP A7 v)),(12,Bn (Ae v:Int)),(13,Bn hb),(38,rP hf 0),(39,Bn (A2 v hb).aa),(40,rB (!Br ((A2 v hb).aa=4))),(41,rB (!Br ((A2 v hb).aa=4))),(55,rB ((!Br ((A2 v hb).aa=4))||((A2 hd ((hd.length:Int)-1)).aJ&&(CH (A2 v hb).au (A2 hd ((hd.length:Int)-1)).aN||Br ((A2 v hb).au=(A2 hd ((hd.length:Int)-1)).aN)))))] (.blk hf (A7 (A2 v hb)) 77::Ql b2 ha b1 he hd) (Ba (!Br ((A2 v hb).aa=4)) (λhh=>by refine Et [0,3,5,6,8,10,11,12,13] ?_;refine rq AB<|rq (Ay 0)<|rq BU<|rq AS<|rz hh<|rz hh<|rz hh<|rz hh<|rz hh<|ru<|ru<|ru<|ru<|ru<|ru<|ru<|rz hh<|rq (Ax hh)<|re [38,39,40,41,42,43,44,45,46,47,48,49,50,51,52,53,54,55,0,3,5,6,8,10,11,12,13] ?_;exact Ce hh) λhh=>Ba (A2 hd ((hd.length:Int)-1)).aJ (λhj=>by refine Et [0,3,5,6,8,10,11,12,13] ?_;refine rq AB<|rq (Ay 0)<|rq BU<|rq AS<|rg hh (AQ Aa)<|rg hh (r:=rv (VA 5 he (CV ((hd.length:Int)-1)) 0)) (DW (k:=3) Aa (Cl hi) Aa Aa)<|rg hh (r:=rv (VA 5 he (CV ((hd.length:Int)-1)) 4)) (Gg (k:=3) N0 Aa Tk Aa (Cl hi) Aa Aa Aa)<|rg hh (r:=rB (A2 hd ((hd.length:Int)-1)).aJ) (Hv 3 ya4 Aa Aa hi Aa)<|rg hh (AQ Aa)<|rg hj (AI Zp Aa DS Aa Aa)<|rg hj (Bq 0 Gb Aa Aa Aa)<|rg hj (AQ Aa)<|rg hj (r:=rv (VA 5 he (CV ((hd.length:Int)-1)) 0)) (DW (k:=3) Aa (Cl hi) Aa Aa)<|rg hj (r:=rv (VA 5 he (CV ((hd.length:Int)-1)) 3)) (Gg (k:=3) N0 Aa DS Aa (Cl hi) Aa Aa Aa)<|rg hj (r:=rS (A2 hd ((hd.length:Int)-1)).aN) (Hv 3 Gb Aa Aa hi Aa)<|rg hj (AhX Aa Aa)<|rg hh (E2 Aa hj Aa)<|rq (A9 hh)<|re [38,39,40,41,42,43,44,45,46,47,48,49,50,51,52,53,54,55,0,3,5,6,8,10,11,12,13] ?_;exact Ce (CU hh hj)) λhj=>by refine Et [0,3,5,6,8,10,11,12,13] ?_;refine rq AB<|rq (Ay 0)<|rq BU<|rq AS<|rg hh (AQ Aa)<|rg hh (r:=rv (VA 5 he (CV ((hd.length:Int)-1)) 0)) (DW (k:=3) Aa (Cl hi) Aa Aa)<|rg hh (r:=rv (VA 5 he (CV ((hd.length:Int)-1)) 4)) (Gg (k:=3) N0 Aa Tk Aa (Cl hi) Aa Aa Aa)<|rg hh (r:=rB (A2 hd ((hd.length:Int)-1)).aJ) (Hv 3 ya4 Aa Aa hi Aa)<|rg hh (AQ Aa)<|rz hj<|rz hj<|rz hj<|rz hj<|rz hj<|rz hj<|rz hj<|rg hh (r:=rB Ah) (DE (b:=(A2 hd ((hd.length:Int)-1)).aJ) Aa hj Aa)<|rq (A9 hh)<|re [38,39,40,41,42,43,44,45,46,47,48,49,50,51,52,53,54,55,0,3,5,6,8,10,11,12,13] ?_;exact Ce (CU hh hj))<|BG hW (λhX hY=>by refine Bl<|KS [3,5] [⟨[],Dr (Ja ha),1⟩,⟨[],Bn 0,0⟩,⟨[0],rv undef,2⟩,⟨[],rB Ah,0⟩] (rle [(3,_),(2,[EE hf (A2 v hb),H0 b2 ha,H0 b1 ha,IV he hd])]) [2,4,3] ?_ ?_;refine of (DJ 1 P1 Ji Aa Aa Aa Aa)<|oq (Cj Aa)<|Od Aa (Yw (Ie (i:=2) Ji Aa Aa Aa (CB.c Aa) Aa Aa (cs':=(I0 ha.aI ha.aF ha.aD ha.aK)) Aa (H':=[EE hf (A2 v hb),H0 b2 ha,H0 b1 ha,IV he hd]) Aa)) ?_;exact oq (Cj Aa)<|Kt;exact CL<|CM<|A5<|A5<|BW<|A5<|Bj<|have hZ:=BK hY hu hx;BW<|O5<|cs hZ▸AC (r_3 AgH AW (Jk (i:=2) P1 Ji Aa Aa Aa) AW) (sK 0) ⟨Aa,Aa⟩) λhX ga=>BQ<|AY Aa<|wv AB<|wv (Ay 0)<|wv (DW (k:=3) Aa (Cl hi) Aa Aa)<|wv (Gg (k:=3) N0 Aa DS Aa (Cl hi) Aa Aa Aa)<|NK (enc:=Gt) (ys:=hd) (y':=(Bf.mk (A2 hd ((hd.length:Int)-1)).aH (A2 hd ((hd.length:Int)-1)).aL (A2 hd ((hd.length:Int)-1)).ap (A2 v hb).au (A2 hd ((hd.length:Int)-1)).aJ)) (i:=3) (j:=(hd.length:Int)-1) DS Aa Aa (Cs Aa) Aa hi Aa Aa (H':=(.blk hf (A7 (A2 v hb)) 77::Ql b2 ha b1 he (List.set hd (CV ((hd.length:Int)-1)) (Bf.mk (A2 hd ((hd.length:Int)-1)).aH (A2 hd ((hd.length:Int)-1)).aL (A2 hd ((hd.length:Int)-1)).ap (A2 v hb).au (A2 hd ((hd.length:Int)-1)).aJ)))) Aa<|bd ga λho ht gb=>by rw[← ht];exact wv (DW (k:=3) Aa (Cl (EY hi ht)) Aa Aa)<|wv (Gg (k:=3) N0 Aa Tk Aa (Cl (EY hi ht)) Aa Aa Aa)<|NK (enc:=Gt) (ys:=ho) (y':=(Bf.mk (A2 ho ((hd.length:Int)-1)).aH (A2 ho ((hd.length:Int)-1)).aL (A2 ho ((hd.length:Int)-1)).ap (A2 ho ((hd.length:Int)-1)).aN Af)) (i:=3) (j:=(hd.length:Int)-1) Tk Aa Aa (Cs Aa) Aa (EY hi ht) Aa Aa (H':=(.blk hf (A7 (A2 v hb)) 77::Ql b2 ha b1 he (List.set ho (CV ((hd.length:Int)-1)) (Bf.mk (A2 ho ((hd.length:Int)-1)).aH (A2 ho ((hd.length:Int)-1)).aL (A2 ho ((hd.length:Int)-1)).ap (A2 ho ((hd.length:Int)-1)).aN Af)))) Aa<|bd gb λhp hy gc=>by rw[← hy];exact wv (DW (k:=3) Aa (Cl (EY (EY hi ht) hy)) Aa Aa)<|wv (Gg (k:=3) N0 Aa Tk Aa (Cl (EY (EY hi ht) hy)) Aa Aa Aa)<|NK (enc:=Gt) (ys:=hp) (y':=(Bf.mk (A2 hp ((hd.length:Int)-1)).aH (A2 hp ((hd.length:Int)-1)).aL Ah (A2 hp ((hd.length:Int)-1)).aN (A2 hp ((hd.length:Int)-1)).aJ)) (i:=3) (j:=(hd.length:Int)-1) Tk Aa Aa (Cs Aa) Aa (EY (EY hi ht) hy) Aa Aa (H':=(.blk hf (A7 (A2 v hb)) 77::Ql b2 ha b1 he (List.set hp (CV ((hd.length:Int)-1)) (Bf.mk (A2 hp ((hd.length:Int)-1)).aH (A2 hp ((hd.length:Int)-1)).aL Ah (A2 hp ((hd.length:Int)-1)).aN (A2 hp ((hd.length:Int)-1)).aJ)))) Aa<|bd gc λhw gd gf=>by rw[← gd];refine Cz<|ob gf λhm gg gh=>ck gh λgi gj=>KS [0,3,5,6,8,11,12,13,38,39,40,41] [⟨[],rP b2 1,0⟩,⟨[0],Bn ha.aF,1⟩,⟨[],rP hf 2,0⟩,⟨[2],rS (A2 v hb).au,1⟩,⟨[3],Bn hm,0⟩,⟨[4],Bn (hm+1),0⟩,⟨[1,5],Bn (Hi .i64 (ha.aF+(hm+1))),0⟩,⟨[],rP b2 1,0⟩,⟨[7,6],rv undef,2⟩] (rle [(9,_),(1,(IX hf (A2 v hb) b2 ha.aI (Hi .i64 (ha.aF+(hm+1))) ha.aD ha.aK b1 he hw))]) [68,69,70,71,72,73,74,75,0,3,5,6,8,11,12,13,38,39,40,41] ?_ ?_;refine oq (AI Zs Aa H6 Aa Aa)<|of (Bq 1 Kh Aa Aa Aa)<|oq (AI Zp Aa DS Aa Aa)<|of (Bq 0 Gb Aa Aa Aa)<|Aas Aa (λH=>Ge call111 (Ws (A2 v hb).au hm gg) Aa) ?_;refine oq (WW Aa Aa gi)<|oq (Ach Aa Aa)<|oq (AI Zs Aa H6 Aa Aa)<|Od Aa (Yw (Pr (i:=1) H6 Aa Aa (Cs Aa) Aa Aa (cs':=(I0 ha.aI (Hi .i64 (ha.aF+(hm+1))) ha.aD ha.aK)) Aa (H':=(IX hf (A2 v hb) b2 ha.aI (Hi .i64 (ha.aF+(hm+1))) ha.aD ha.aK b1 he hw)) Aa)) ?_;exact Kt;exact CL<|AM [(0,Cg 4 (BP A7 v)),(3,rP b1 0),(5,rP b2 0),(6,rv he),(11,Cg 4 (BP A7 v)),(12,Bn (Ae v:Int)),(13,Bn hb),(38,rP hf 0),(39,Bn (A2 v hb).aa),(40,rB (!Br ((A2 v hb).aa=4))),(41,rB (!Br ((A2 v hb).aa=4))),(68,rP b2 1),(69,Bn ha.aF),(70,rP hf 2),(71,rS (A2 v hb).au),(72,Bn hm),(73,Bn (hm+1)),(74,Bn (Hi .i64 (ha.aF+(hm+1)))),(75,rP b2 1)] (IX hf (A2 v hb) b2 ha.aI (Hi .i64 (ha.aF+(hm+1))) ha.aD (ha.aK||(Br (200<(Ae (A2 v hb).au:Int)))) b1 he hw) (AU<|wv AB<|wv (Ay 1)<|ms Aa<|Ba ha.aK (λhq=>by refine CI hq Aa<|wv (Ax hq)<|wv AB<|us 1 Tk Aa Aa (Cs Aa) Aa Aa ?_;exact AD<|MT (H':=(IX hf (A2 v hb) b2 ha.aI (Hi .i64 (ha.aF+(hm+1))) ha.aD (ha.aK||(Br (200<(Ae (A2 v hb).au:Int)))) b1 he hw)) (by simp only[hq,Aq3,AqN,Arg,Aq9,AqQ,AqW,Arb,AqZ,Aq5,AqR,Aqv,Aqr])<|wt) λhq=>by refine Bt hq AB<|Bt hq (Ay 0)<|Bt hq B6<|Bt hq Cw<|D7 Aa hq Aa<|wv AB<|us 1 Tk Aa Aa (Cs Aa) Aa Aa ?_;exact AD<|MT (H':=(IX hf (A2 v hb) b2 ha.aI (Hi .i64 (ha.aF+(hm+1))) ha.aD (ha.aK||(Br (200<(Ae (A2 v hb).au:Int)))) b1 he hw)) (by simp only[hq,Aq3,AqN,Arg,Aq9,AqQ,AqW,Arb,AqZ,Aq5,AqR,Aqv,Aqr])<|wt)<|BE<|A3<|Bo<|AG (AA ((hw,(Bs.mk ha.aI (Hi .i64 (ha.aF+(hm+1))) ha.aD (ha.aK||(Br (200<(Ae (A2 v hb).au:Int)))))),he) gj (AP Aa) (sS (sC (sC (sC sN)))))) λhS gl=>by refine BQ<|AT<|wv AB<|wv (Ay 1)<|ms Aa<|wv (CC 3 N1 Aa Aa)<|ck gl λgm gp=>wv (Bg gm)<|wv (AlZ S7 Aa Aa)<|wv AB<|us 1 H6 Aa Aa (Cs Aa) Aa Aa ?_;refine Cz<|ob gp λhg gq gr=>KS [0,3,5,6,7,8,11,12,13] [⟨[],rP b2 1,0⟩,⟨[0],Bn ha.aF,1⟩,⟨[],Dr (A7 (A2 v hb)),1⟩,⟨[2],Bn hg,0⟩,⟨[1,3],Bn (Hi .i64 (ha.aF+hg)),0⟩,⟨[],rP b2 1,0⟩,⟨[5,4],rv undef,2⟩] (rle [(7,_),(1,(IX hf (A2 v hb) b2 (max ha.aI ((hd.length:Int)+1)) (Hi .i64 (ha.aF+hg)) ha.aD ha.aK b1 he hd))]) [92,93,94,95,96,97,0,3,5,6,7,8,11,12,13] ?_ ?_;refine oq (AI Zs Aa H6 Aa Aa)<|of (Bq 1 Kh Aa Aa Aa)<|of (DJ 0 isAgg77 G0 Aa Aa Aa Aa)<|Aas Aa (λH=>Ge call112 (Akr (A2 v hb) hg gq) Aa) ?_;refine oq (Ach Aa Aa)<|oq (AI Zs Aa H6 Aa Aa)<|Od Aa (Yw (Pr (i:=1) H6 Aa Aa (Cs Aa) Aa Aa (cs':=(I0 (max ha.aI ((hd.length:Int)+1)) (Hi .i64 (ha.aF+hg)) ha.aD ha.aK)) Aa (H':=(IX hf (A2 v hb) b2 (max ha.aI ((hd.length:Int)+1)) (Hi .i64 (ha.aF+hg)) ha.aD ha.aK b1 he hd)) Aa)) ?_;exact Kt;exact CL<|ck gr λgs gu=>AM [(0,Cg 4 (BP A7 v)),(3,rP b1 0),(5,rP b2 0),(6,rv he),(7,Bn hb),(8,rP hf 0),(11,Cg 4 (BP A7 v)),(12,Bn (Ae v:Int)),(13,Bn hb),(92,rP b2 1),(93,Bn ha.aF),(94,Dr (A7 (A2 v hb))),(95,Bn hg),(96,Bn (Hi .i64 (ha.aF+hg))),(97,rP b2 1)] (IX hf (A2 v hb) b2 (max ha.aI ((hd.length:Int)+1)) (Hi .i64 (ha.aF+hg)) (ha.aD||((Br ((A2 v hb).aa=3))&&(!(ov (DQ (A2 v hb).ay))))) ha.aK b1 he hd) (AU<|wv AB<|wv (Ay 1)<|ms Aa<|Ba ha.aD (λhl=>by refine CI hl Aa<|wu<|wu<|wu<|wu<|wf hl<|wv (Ax hl)<|wv AB<|us 1 Tk Aa Aa (Cs Aa) Aa Aa ?_;exact AD<|MT (H':=(IX hf (A2 v hb) b2 (max ha.aI ((hd.length:Int)+1)) (Hi .i64 (ha.aF+hg)) (ha.aD||((Br ((A2 v hb).aa=3))&&(!(ov (DQ (A2 v hb).ay))))) ha.aK b1 he hd)) (by simp only[hl,Aq3,AqN,Arg,Aq9,AqQ,AqW,Arb,AqZ,Aq5,AqR,Aqv,Aqr])<|wt) λhl=>Bt hl AB<|Bt hl (Ay 0)<|Bt hl Bx<|wo hl<|ms Aa<|Ba (Br ((A2 v hb).aa=3)) (λhn=>by refine Bt hn AB<|Bt hn (Ay 0)<|wo hn<|CS call107 (nValid_w (A2 v hb).ay (ov (DQ (A2 v hb).ay)) (GR (C3 (CA gs hl) hn)))<|Bt hn BO<|wo hl<|EA Aa hn Aa<|D7 Aa hl Aa<|wv AB<|us 1 Tk Aa Aa (Cs Aa) Aa Aa ?_;exact AD<|MT (H':=(IX hf (A2 v hb) b2 (max ha.aI ((hd.length:Int)+1)) (Hi .i64 (ha.aF+hg)) (ha.aD||((Br ((A2 v hb).aa=3))&&(!(ov (DQ (A2 v hb).ay))))) ha.aK b1 he hd)) (by simp only[hl,hn,Aq3,AqN,Arg,Aq9,AqQ,AqW,Arb,AqZ,Aq5,AqR,Aqv,Aqr])<|wt) λhn=>by refine CI hn Aa<|Bt hl (A9 hn)<|D7 Aa hl Aa<|wv AB<|us 1 Tk Aa Aa (Cs Aa) Aa Aa ?_;exact AD<|MT (H':=(IX hf (A2 v hb) b2 (max ha.aI ((hd.length:Int)+1)) (Hi .i64 (ha.aF+hg)) (ha.aD||((Br ((A2 v hb).aa=3))&&(!(ov (DQ (A2 v hb).ay))))) ha.aK b1 he hd)) (by simp only[hl,hn,Aq3,AqN,Arg,Aq9,AqQ,AqW,Arb,AqZ,Aq5,AqR,Aqv,Aqr])<|wt)<|AM [(0,Cg 4 (BP A7 v)),(3,rP b1 0),(5,rP b2 0),(6,rv he),(7,Bn hb),(8,rP hf 0),(11,Cg 4 (BP A7 v)),(12,Bn (Ae v:Int)),(13,Bn hb),(92,rP b2 1),(93,Bn ha.aF),(94,Dr (A7 (A2 v hb))),(95,Bn hg),(96,Bn (Hi .i64 (ha.aF+hg))),(97,rP b2 1)] (IX hf (A2 v hb) b2 (max ha.aI ((hd.length:Int)+1)) (Hi .i64 (ha.aF+hg)) (ha.aD||((Br ((A2 v hb).aa=3))&&(!(ov (DQ (A2 v hb).ay))))) (ha.aK||(Br (200<(Ae (A2 v hb).au:Int)))) b1 he hd) (AU<|wv AB<|wv (Ay 1)<|ms Aa<|Ba ha.aK (λhr=>by refine CI hr Aa<|wv (Ax hr)<|wv AB<|us 1 Tk Aa Aa (Cs Aa) Aa Aa ?_;exact AD<|MT (H':=(IX hf (A2 v hb) b2 (max ha.aI ((hd.length:Int)+1)) (Hi .i64 (ha.aF+hg)) (ha.aD||((Br ((A2 v hb).aa=3))&&(!(ov (DQ (A2 v hb).ay))))) (ha.aK||(Br (200<(Ae (A2 v hb).au:Int)))) b1 he hd)) (by simp only[hr,Aq3,AqN,Arg,Aq9,AqQ,AqW,Arb,AqZ,Aq5,AqR,Aqv,Aqr])<|wt) λhr=>by refine Bt hr AB<|Bt hr (Ay 0)<|Bt hr B6<|Bt hr Cw<|D7 Aa hr Aa<|wv AB<|us 1 Tk Aa Aa (Cs Aa) Aa Aa ?_;exact AD<|MT (H':=(IX hf (A2 v hb) b2 (max ha.aI ((hd.length:Int)+1)) (Hi .i64 (ha.aF+hg)) (ha.aD||((Br ((A2 v hb).aa=3))&&(!(ov (DQ (A2 v hb).ay))))) (ha.aK||(Br (200<(Ae (A2 v hb).au:Int)))) b1 he hd)) (by simp only[hr,Aq3,AqN,Arg,Aq9,AqQ,AqW,Arb,AqZ,Aq5,AqR,Aqv,Aqr])<|wt)<|Bl<|AT<|wv AB<|wv (Ay 0)<|wv Cw<|Be<|BG gu (λgv gw=>Bl<|AT<|wv AB<|wv (Ay 0)<|ms Aa<|wv B1<|wv Cw<|Be<|BG gw (λgx gy=>by refine Bl<|KS [3,5] [⟨[],Dr (I0 (max ha.aI ((hd.length:Int)+1)) (Hi .i64 (ha.aF+hg)) (ha.aD||((Br ((A2 v hb).aa=3))&&(!(ov (DQ (A2 v hb).ay))))) (ha.aK||(Br (200<(Ae (A2 v hb).au:Int))))),1⟩,⟨[],Bn 0,0⟩,⟨[0],rv undef,2⟩,⟨[],rB Ah,0⟩] (rle [(3,_),(2,(AiT hf (A2 v hb) b2 (max ha.aI ((hd.length:Int)+1)) (Hi .i64 (ha.aF+hg)) (ha.aD||((Br ((A2 v hb).aa=3))&&(!(ov (DQ (A2 v hb).ay))))) (ha.aK||(Br (200<(Ae (A2 v hb).au:Int)))) b1 he hd))]) [2,4,3] ?_ ?_;refine of (DJ 1 P1 Ji Aa Aa Aa Aa)<|oq (Cj Aa)<|Od Aa (Yw (Ie (i:=2) Ji Aa Aa Aa (CB.c Aa) Aa Aa (cs':=(I0 (max ha.aI ((hd.length:Int)+1)) (Hi .i64 (ha.aF+hg)) (ha.aD||((Br ((A2 v hb).aa=3))&&(!(ov (DQ (A2 v hb).ay))))) (ha.aK||(Br (200<(Ae (A2 v hb).au:Int)))))) Aa (H':=(AiT hf (A2 v hb) b2 (max ha.aI ((hd.length:Int)+1)) (Hi .i64 (ha.aF+hg)) (ha.aD||((Br ((A2 v hb).aa=3))&&(!(ov (DQ (A2 v hb).ay))))) (ha.aK||(Br (200<(Ae (A2 v hb).au:Int)))) b1 he hd)) Aa)) ?_;exact oq (Cj Aa)<|Kt;exact CL<|CM<|A5<|A5<|BW<|A5<|Bj<|have gz:=BK gy hu hx;BW<|O5<|cs gz▸AC (r_3 AgH AW (Jk (i:=2) P1 Ji Aa Aa Aa) AW) (sK 0) ⟨Aa,Aa⟩) λgx g0=>BQ<|AY Aa<|wv AB<|wv (Ay 0)<|wv Bx<|wv AB<|wv (Ay 0)<|wv AB<|wv (Ay 0)<|wv Bx<|wv (D1 AjB Aa (EL Aa (EL Aa (EL Aa cN))) Aa)<|Dy ([(Bf.mk (Br ((A2 v hb).aa=6)) (A2 v hb).fN (Br ((A2 v hb).aa=6)) ([]:Aw) Ah)]:List Bf) Gt N1 Zt zeroValue154 Aa ⟨cA,trivial⟩ N8 λgK=>ck g0 λg1 g2=>E0 4 N1 Alm Aa Aa (HJ.w 0 Aa Aa) N8 Tv g1 λg3=>by refine CW Aa<|BE<|A3<|Bo<|Jp [3,3] ?_;exact AG (AA ((hd++([(Bf.mk (Br ((A2 v hb).aa=6)) (A2 v hb).fN (Br ((A2 v hb).aa=6)) ([]:Aw) Ah)]:List Bf),(Bs.mk (max ha.aI ((hd.length:Int)+1)) (Hi .i64 (ha.aF+hg)) (ha.aD||((Br ((A2 v hb).aa=3))&&(!(ov (DQ (A2 v hb).ay))))) (ha.aK||(Br (200<(Ae (A2 v hb).au:Int)))))),g3) g2 (AP Aa) (sC (sC (sC (sS (sS sN))))))) λgv g4=>by refine BQ<|AY Aa<|ob g4 λhz g5 g6=>EG [3] call113 (AeB F he hd hz g5) ?_;rintro _ _ ⟨h4,rfl,rfl⟩;exact ms Aa<|Ca Aa<|wv (CC 0 N1 Aa Aa)<|wv Bx<|Be<|BG g6 (λg7 g8=>by refine Bl<|ck g8 λg9 gA=>KS [3,5,7] [⟨[],Bn hb,0⟩,⟨[0],Bn (hb+1),0⟩,⟨[],Dr (I0 (max ha.aI ((hd.length:Int)+1)) (Hi .i64 (ha.aF+hg)) (ha.aD||((Br ((A2 v hb).aa=3))&&(!(ov (DQ (A2 v hb).ay))))) (ha.aK||(Br (200<(Ae (A2 v hb).au:Int))))),1⟩,⟨[1],Bn (hb+1),0⟩,⟨[2],rv undef,2⟩,⟨[],rB Af,0⟩] (rle [(5,_),(2,(AiS h4 hz hf (A2 v hb) b2 (max ha.aI ((hd.length:Int)+1)) (Hi .i64 (ha.aF+hg)) (ha.aD||((Br ((A2 v hb).aa=3))&&(!(ov (DQ (A2 v hb).ay))))) (ha.aK||(Br (200<(Ae (A2 v hb).au:Int)))) b1))]) [2,4,3] ?_ ?_;refine oq (AQ Aa)<|oq (WW Aa Aa g9)<|of (DJ 2 P1 Ji Aa Aa Aa Aa)<|oq (Cj Aa)<|Od Aa (Yw (Ie (i:=3) Ji Aa Aa Aa (CB.c Aa) Aa Aa (cs':=(I0 (max ha.aI ((hd.length:Int)+1)) (Hi .i64 (ha.aF+hg)) (ha.aD||((Br ((A2 v hb).aa=3))&&(!(ov (DQ (A2 v hb).ay))))) (ha.aK||(Br (200<(Ae (A2 v hb).au:Int)))))) Aa (H':=(AiS h4 hz hf (A2 v hb) b2 (max ha.aI ((hd.length:Int)+1)) (Hi .i64 (ha.aF+hg)) (ha.aD||((Br ((A2 v hb).aa=3))&&(!(ov (DQ (A2 v hb).ay))))) (ha.aK||(Br (200<(Ae (A2 v hb).au:Int)))) b1)) Aa)) ?_;exact oq (Cj Aa)<|Kt;exact CL<|CM<|BW<|A5<|Bj<|have gB:=BK gA hu hx;BW<|O5<|cs gB▸AC (r_3 AgH AW (Jk (i:=3) P1 Ji Aa Aa Aa) AW) (sK 0) ⟨Aa,Aa⟩) λg7 gC=>by refine Cf<|Bm<|Jp [2,2] ?_;exact AG (AA ((hz,(Bs.mk (max ha.aI ((hd.length:Int)+1)) (Hi .i64 (ha.aF+hg)) (ha.aD||((Br ((A2 v hb).aa=3))&&(!(ov (DQ (A2 v hb).ay))))) (ha.aK||(Br (200<(Ae (A2 v hb).au:Int)))))),h4) gC (AP Aa) (sC (sC (sC (sS sN))))))<|by rintro⟨⟨h6,h7⟩,gD⟩ h5;refine EM ?_;exact have h5:IO hb h6 h7=Ad h1:=h5;AU<|ck h5 λgE gF=>wv (Bg gE)<|B9 Aa<|have gG:=Bp gF hu;AG (AA (hB,(h6,hb+1,h7),gD) ⟨gG,Aqw _⟩ (AP Aa) (sC (sC (sC sN))))) λhC gH=>BE<|A3<|have gI:=Ci gH hu hx;A3 (Bk (AA (ha,()) gI (AP Aa) (sC (sC (sS sN))))))<|by rintro⟨hs,⟨⟩⟩ h0;refine Hb ?_;exact have h0:Q3 hs=Ad r:=h0;by unfold Q3 at h0;refine Bo<|CL<|Bl<|KS [3,5] [⟨[],Dr (Ja hs),1⟩,⟨[],Bn 0,0⟩,⟨[0],rv undef,2⟩,⟨[],rB Ah,0⟩] (rle [(3,_),(2,[H0 b2 hs,H0 b1 hs])]) [2,4,3] ?_ ?_;refine of (DJ 0 P1 Ji Aa Aa Aa Aa)<|oq (Cj Aa)<|Od Aa (Yw (Ie (i:=1) Ji Aa Aa Aa (CB.c Aa) Aa Aa (cs':=(I0 hs.aI hs.aF hs.aD hs.aK)) Aa (H':=[H0 b2 hs,H0 b1 hs]) Aa)) ?_;exact oq (Cj Aa)<|Kt;exact CL<|CM<|O5<|cs h0▸AC (r_3 AgH AW (Jk (i:=1) P1 Ji Aa Aa Aa) AW) (sK 0) ⟨Aa,Aa⟩
theorem NI (F:Nat)(v:(List Av))(r:Int)(h:NJ F v=Ad r):FN 56 (J8 v) [] (PO (Bn r)):=en func56 ntmps56 Aa λw Z=>AY Aa<|Ca Aa<|ob h λr1 e3 h2=>CS call80 (XU F v r1 e3)<|ms Aa<|wv A4<|wv A4<|wv A4<|CD (cs:=Ot) Zo Aa Aa λb4=>by refine ms Aa<|L5 0 Ji Aa Aa Aa (CB.c Aa) Aa Aa ?_;exact ms Aa<|Cz<|AL<|AM [(0,Cg 4 (BP A7 v)),(4,rP b4 0),(12,rB ((!r1.2.2)||(!Br (r1.1=(Ae v:Int)))))] [H0 b4 r1.2.1] (BD Aa<|wv BO<|ms Aa<|Ba (!r1.2.2) (λc5=>CI c5 Aa<|wv (Ax c5)<|B9 Aa<|Ce c5) λc5=>wo c5<|ms Aa<|wo c5<|ms Aa<|Bt c5 B1<|Bt c5 BU<|D7 Aa c5 Aa<|B9 Aa<|Ce c5)<|BG h2 (λc6 h7=>Cy Aa<|BW<|cs h7▸AC (Dj Akb AW) (sS sN) ⟨Aa,Aa⟩) λc6 h8=>AT<|wv AB<|wv (Ay 0)<|CW Aa<|BG h8 (λc9 he=>Cy Aa<|BW<|cs he▸AC (Dj Akb AW) (sS sN) ⟨Aa,Aa⟩) λc9 hf=>AM [(24,rB (r1.2.1.aK||((Br (200<(Ae v:Int)))||((Br (8<r1.2.1.aI))||(Br (4000<r1.2.1.aF))))))] [] (AU<|wv AB<|wv (Ay 0)<|ms Aa<|Ba r1.2.1.aK (λha=>CI ha Aa<|wv (Ax ha)<|ms Aa<|Ea Aa<|wv (Ax Aa)<|ms Aa<|Ea Aa<|wv (Ax Aa)<|B9 Aa<|Ce ha) λha=>wo ha<|ms Aa<|Bt ha B1<|Bt ha Cw<|D7 Aa ha Aa<|ms Aa<|Ba (Br (200<(Ae v:Int))) (λhb=>CI hb Aa<|wv (Ax hb)<|ms Aa<|Ea Aa<|wv (Ax Aa)<|B9 Aa<|Ce (CU ha hb)) λhb=>Bt hb AB<|Bt hb (Ay 0)<|Bt hb Cw<|D7 Aa hb Aa<|ms Aa<|Ba (Br (8<r1.2.1.aI)) (λhd=>CI hd Aa<|wv (Ax hd)<|B9 Aa<|by exact Ce (CU ha (CU hb hd))) λhd=>Bt hd AB<|Bt hd (Ay 0)<|Bt hd Cw<|D7 Aa hd Aa<|B9 Aa<|by exact Ce (CU ha (CU hb hd)))<|BG hf (λhg hh=>Cy Aa<|BW<|cs hh▸Gd Akb ⟨Aa,Aa⟩) λhg hi=>Cf<|DB<|Cy Aa<|cs hi▸Gd Akb ⟨Aa,Aa⟩
theorem AbB (F:Nat)(v:(List Av))(r:(List Av)×Int)(h:Uz F v=Ad r):FN 109 (J8 v) [] (PO (Du (Eg r.1 r.2))):=en func109 ntmps109 Aa λw Z=>AY Aa<|BH Aa<|ob h λr1 e3 h2=>CS AgQ (NI F v r1 e3)<|ms Aa<|Ca Aa<|wv BU<|Be<|BG h2 (λc4 h5=>Bz Aa<|WK.up (d:=2) (r:=Cg 4 (BP A7 ([]:List Av))) Aa (Up.le (If.nil _))<|cs h5▸Ki results109 ⟨Aa,Aa⟩) λc4 h6=>BQ<|Cy Aa<|cs h6▸Ki results109 ⟨Aa,Aa⟩
end Go.Proofs.YtiddaamglmmnaaaGreatDoor.Q
namespace Go.Proofs.YtiddaamglmmnaaaGreatDoor
open Go
set_option linter.unusedVariables false
def GW (s:Aw)(ha:Int)(hb:Aw):Option (Stp (Int×Aw) (Out Aw Aw)):=
 By (Ac (ha<(Ae s:Int))) (Bc (CE ha (Ae s:Int))<|By (((Ac ((BA s ha)=34))||(Ac ((BA s ha)=92)))) (Bc (De 1 (hb.length+1))<|Bc (BJ .u8 92)<|Pp (hb++[Ar (Ao 92)]) λhd=>Bc (De 1 (hd.length+1))<|Bc (BJ .u8 (BA s ha))<|Pp (hd++[Ar (Ao (BA s ha))]) λhe=>Bc (BJ .i64 (ha+1))<|some (.next (ha+1,he))) (Bc (De 1 (hb.length+1))<|Bc (BJ .u8 (BA s ha))<|Pp (hb++[Ar (Ao (BA s ha))]) λhf=>Bc (BJ .i64 (ha+1))<|some (.next (ha+1,hf)))) (Ad (.out (.go hb)))
def Js (ha:Aw):Option Aw:=
 Bc (De 1 (ha.length+1))<|Pp (ha++[Ar (Ao 34)]) λhb=>Ad hb
def RK (F:Nat)(l s:Aw):Option Aw:=
 Bc (De 1 (Ae l+1))<|Bc (BJ .u8 34)<|Pp (l++[Ar (Ao 34)]) λr6=>BB (Cp (λσ=>GW s σ.1 σ.2) F (0,r6)) (Cb λν=>Js ν)
def OA (F:Nat)(hm:Aw→(List Av)→Bool→Aw→Av→Option (Bool×Bool×Aw))(ha:(List Av)→Bool→Aw→Av→Option (Bool×Aw))(l:Aw)(v:(List Av)):Option Aw:=
 Bc (CE 0 (Ae v:Int))<|By (Ac ((A2 v 0).aa=1)) (Bc (De 1 (Ae l+Ae ([110,117,108,108]:Aw)))<|Pp (l++([110,117,108,108]:Aw)) λhe=>Ad he) (By (Ac ((A2 v 0).aa=2)) (Bc (CE (A2 v 0).ay (Ae ([([102,97,108,115,101]:Aw),([116,114,117,101]:Aw)]:List Aw):Int))<|Bc (De 1 (Ae l+Ae (A2 ([([102,97,108,115,101]:Aw),([116,114,117,101]:Aw)]:List Aw) (A2 v 0).ay)))<|Pp (l++(A2 ([([102,97,108,115,101]:Aw),([116,114,117,101]:Aw)]:List Aw) (A2 v 0).ay)) λhf=>Ad hf) (By (Ac ((A2 v 0).aa=3)) (Bc (BJ .i64 (A2 v 0).ay)<|Bc (De 1 (Ae l+Ae (Lib.itoa (A2 v 0).ay)))<|Pp (l++(Lib.itoa (A2 v 0).ay)) λhg=>Ad hg) (By (Ac ((A2 v 0).aa=4)) (BB (RK F l (A2 v 0).au) λhh=>Ad hh) (By (Ac ((A2 v 0).aa=6)) (Bc (CE 0 (Ae ([123,125]:Aw):Int))<|Bc (De 1 (Ae l+1))<|Bc (BJ .u8 (BA ([123,125]:Aw) 0))<|Pp (l++[Ar (Ao (BA ([123,125]:Aw) 0))]) λhi=>BB (ha v Af hi (A2 v 0)) λhb=>Bc (CE 1 (Ae ([123,125]:Aw):Int))<|Bc (De 1 (hb.2.length+1))<|Bc (BJ .u8 (BA ([123,125]:Aw) 1))<|Pp (hb.2++[Ar (Ao (BA ([123,125]:Aw) 1))]) λhj=>Ad hj) (Bc (CE 0 (Ae ([91,93]:Aw):Int))<|Bc (De 1 (Ae l+1))<|Bc (BJ .u8 (BA ([91,93]:Aw) 0))<|Pp (l++[Ar (Ao (BA ([91,93]:Aw) 0))]) λhk=>BB (ha v Af hk (A2 v 0)) λhd=>Bc (CE 1 (Ae ([91,93]:Aw):Int))<|Bc (De 1 (hd.2.length+1))<|Bc (BJ .u8 (BA ([91,93]:Aw) 1))<|Pp (hd.2++[Ar (Ao (BA ([91,93]:Aw) 1))]) λhl=>Ad hl)))))
def Ur (F:Nat)(ha:Aw→(List Av)→Option Aw)(key:Aw)(x:(List Av))(first:Bool)(l:Aw)(c:Av):Option (Bool×Bool×Aw):=
 By (!first) (Bc (De 1 (Ae l+1))<|Bc (BJ .u8 44)<|Pp (l++[Ar (Ao 44)]) λr8=>By (Ac (c.aa=6)) (BB (RK F r8 key) λhb=>Bc (De 1 (hb.length+1))<|Bc (BJ .u8 58)<|Pp (hb++[Ar (Ao 58)]) λhe=>BB (ha he x) λhf=>Ad (Af,Ah,hf)) (BB (ha r8 x) λhg=>Ad (Af,Ah,hg))) (By (Ac (c.aa=6)) (BB (RK F l key) λhd=>Bc (De 1 (hd.length+1))<|Bc (BJ .u8 58)<|Pp (hd++[Ar (Ao 58)]) λhh=>BB (ha hh x) λhi=>Ad (Af,Ah,hi)) (BB (ha l x) λhj=>Ad (Af,Ah,hj)))
def Hk (F:Nat)(v:(List Av))(c:Av)(hj:Aw→(List Av)→Bool→Aw→Av→Option (Bool×Bool×Aw))(ha hb:Int)(hh:Bool)(hi:Aw):Option (Stp (Int×Int×Bool×Aw) (Out (Bool×Aw) (Bool×Aw))):=
 By (Ac (hb<(A2 v 0).fN)) (By (Ac ((A2 v 0).aa=6)) (Bc (CE ha (Ae v:Int))<|Bc (BJ .i64 (ha+1))<|Bc (Gk (ha+1) (Ae v:Int))<|BB (N4 F (Ap (Ao (ha+1)) v)) λhd=>Bc (BJ .i64 ((ha+1)+hd.1))<|Bc (Gk (ha+1) ((ha+1)+hd.1))<|Bc (Gk ((ha+1)+hd.1) (Ae v:Int))<|BB (hj (A2 v ha).au (Aq (Ao ((ha+1)+hd.1)-Ao (ha+1)) (Ap (Ao (ha+1)) v)) hh hi c) λhe=>By (!he.1) (Ad (.out (.ret (he.2.1,he.2.2)))) (Bc (BJ .i64 (hb+1))<|some (.next ((ha+1)+hd.1,hb+1,he.2.1,he.2.2)))) (Bc (Gk ha (Ae v:Int))<|BB (N4 F (Ap (Ao ha) v)) λhf=>Bc (BJ .i64 (ha+hf.1))<|Bc (Gk ha (ha+hf.1))<|Bc (Gk (ha+hf.1) (Ae v:Int))<|BB (hj ([]:Aw) (Aq (Ao (ha+hf.1)-Ao ha) (Ap (Ao ha) v)) hh hi c) λhg=>By (!hg.1) (Ad (.out (.ret (hg.2.1,hg.2.2)))) (Bc (BJ .i64 (hb+1))<|some (.next (ha+hf.1,hb+1,hg.2.1,hg.2.2))))) (Ad (.out (.go (hh,hi))))
def KU (ha:Bool)(hb:Aw):Option (Bool×Aw):=
 Ad (ha,hb)
def NG (F:Nat)(ha:Aw→(List Av)→Bool→Aw→Av→Option (Bool×Bool×Aw))(v:(List Av))(first:Bool)(l:Aw)(c:Av):Option (Bool×Aw):=
 Bc (CE 0 (Ae v:Int))<|BB (Cp (λσ=>Hk F v c ha σ.1 σ.2.1 σ.2.2.1 σ.2.2.2) F (1,0,first,l)) (Cb λν=>KU ν.1 ν.2)
mutual
def Jr:Nat→Aw→(List Av)→Option Aw
 | 0,_,_=>Ai
 | nn+1,l,v=>OA nn (Ii nn) (K1 nn) l v
def Ii:Nat→Aw→(List Av)→Bool→Aw→Av→Option (Bool×Bool×Aw)
 | 0,_,_,_,_,_=>Ai
 | nn+1,key,x,first,l,c=>Ur nn (Jr nn) key x first l c
def K1:Nat→(List Av)→Bool→Aw→Av→Option (Bool×Aw)
 | 0,_,_,_,_=>Ai
 | nn+1,v,first,l,c=>NG nn (Ii nn) v first l c
end
def T1 (F:Nat)(v:(List Av)):Option (Aw×Int):=
 BB (NJ F v) λr1=>By (!Ac (r1=0)) (Ad (([]:Aw),r1)) (BB (Jr F ([]:Aw) v) λr8=>Bc (Ac (0<Ae r8))<|some (r8,0))
end Go.Proofs.YtiddaamglmmnaaaGreatDoor
namespace Go.Proofs.YtiddaamglmmnaaaGreatDoor.Q
open Go Go.RowKit
set_option linter.unusedVariables false
set_option linter.unusedSimpArgs false
set_option maxRecDepth 100000
set_option maxHeartbeats 4000000
theorem Uu (F ha:Nat)(hk:Value)(l s r:Aw)(h:RK F l s=Ad r):FN 136 [rP ha 0,rS s] (Hd ha hk l) (λR H=>∃w0b:Value,R=rv (.tuple #[])∧H=(Hd ha w0b r)):=en func136 ntmps136 Aa λw Z=>AY Aa<|ck h λg1 h2=>ck h2 λg3 h4=>Em (Hr:=[]) N3 Aa (AqC _) (Ec ha hk l 34 g1 g3) Aa<|by rintro _ _ ⟨v5,rfl,rfl⟩;exact bd h4 λr6 e8 h7=>by rw[← e8];exact BH Aa<|wv B6<|CW Aa<|AL<|ob h7 λhn ho hp=>B8 (V:=Aw×Value) 0 (λσ=>Cp (λσ=>GW s σ.1 σ.2) σ.1 σ.2.1=Ad hn) (λσ=>[(0,rP ha 0),(1,rS s),(8,Bn (Ae s:Int)),(9,Bn σ.2.1.1)]) (λσ=>(Hd ha σ.2.2 σ.2.1.2)) (λσ=>σ.1) (F,(0,r6),v5) ho (AP Aa) (sC sN) (λσ=>Js σ.1=Ad r) (λσ=>[(0,rP ha 0)]) (λσ=>(Hd ha σ.2 σ.1)) (by rintro⟨gg,⟨hb,he⟩,hf⟩ hq;refine EM ?_;obtain⟨hl,rfl,t127,hh,hi⟩:=C5 hq;have hh:GW s hb he=Ad t127:=hh;exact AT<|wv BS<|Cz<|BG hh (λhr hs=>B5<|AL<|AY Aa<|Cz<|ck hs λhg ht=>AM [(0,rP ha 0),(1,rS s),(4,Bn hb),(8,Bn (Ae s:Int)),(9,Bn hb),(21,rB ((Br ((BA s hb)=34))||(Br ((BA s hb)=92))))] (Hd ha hf he) (BD Aa<|wv (B0 hg)<|wv Bx<|ms Aa<|Ba (Br ((BA s hb)=34)) (λhd=>CI hd Aa<|wv (Ax hd)<|AD<|Ce hd) λhd=>wo hd<|ms Aa<|wo hd<|ms Aa<|Bt hd (B0 hg)<|Bt hd Bx<|D7 Aa hd Aa<|AD<|Ce hd)<|BG ht (λhu hw=>BD Aa<|ck hw λhx hy=>ck hy λhz h0=>Em (Hr:=[]) N3 Aa (AqC _) (Ec ha hf he 92 hx hz) Aa<|by rintro _ _ ⟨h1,rfl,rfl⟩;exact bd h0 λh3 h5 h6=>by rw[← h5];exact Be<|BD Aa<|wv (B0 hg)<|ck h6 λh8 h9=>ck h9 λhA hB=>Em (Hr:=[]) N3 Aa (AqC _) (Ec ha h1 h3 (BA s hb) h8 hA) Aa<|by rintro _ _ ⟨hC,rfl,rfl⟩;exact bd hB λhD hE hG=>by rw[← hE];exact AD<|DB<|AU<|ck hG λhH hI=>wv (Bg hH)<|B9 Aa<|have hJ:=Bp hI hi;AG (AA (hl,(hb+1,hD),hC) ⟨hJ,Aqw _⟩ (AP Aa) (sC sN))) λhu hK=>BQ<|BD Aa<|wv (B0 hg)<|ck hK λhL hN=>ck hN λhO hP=>Em (Hr:=[]) N3 Aa (AqC _) (Ec ha hf he (BA s hb) hL hO) Aa<|by rintro _ _ ⟨hQ,rfl,rfl⟩;exact bd hP λhR hS hT=>by rw[← hS];exact AD<|DB<|AU<|ck hT λhU hV=>wv (Bg hU)<|B9 Aa<|have hW:=Bp hV hi;AG (AA (hl,(hb+1,hR),hQ) ⟨hW,Aqw _⟩ (AP Aa) (sC sN))) λhr hX=>BE<|A3<|have hY:=Ci hX hi hp;A3 (Bk (AA (he,hf) hY (AP Aa) (sC sN))))<|by rintro⟨hm,hZ⟩ hj;refine Hb ?_;exact have hj:Js hm=Ad r:=hj;Bo<|CL<|BD Aa<|ck hj λga gb=>Em (Hr:=[]) N3 Aa (AqC _) (Ec ha hZ hm 34 ga g3) Aa<|by rintro _ _ ⟨gc,rfl,rfl⟩;exact bd gb λgh gd gf=>by rw[← gd];exact AD<|by cases gf;exact LX (r_0 results136) (sC sN) ⟨gc,Aa,Aa⟩
abbrev HO (x0:Nat)(x1:Bool)(x2 x3:Nat)(x4:Value)(x5:Aw)(x6:Nat)(x7:Av):List Ent:=[.blk x0 [rB x1] 4,.blk x2 [rP x3 0] 135,.bld 138 5 x3 x4 x5,EE x6 x7]
theorem Ae5 (F:Nat)(hk:Aw→(List Av)→Bool→Aw→Av→Option (Bool×Bool×Aw))(hl:(List Av)→Bool→Aw→Av→Option (Bool×Aw))(g9:(∀(hd:Nat) (he:Nat) (ha:Nat) (hb:Value) (hf:Nat) (key:Aw) (x:(List Av)) (first:Bool) (l:Aw) (c:Av) (r:Bool×Bool×Aw),hk key x first l c=Ad r→FN 139 [rS key,Cg 4 (BP A7 x),rP hd 0,rP he 0,rP hf 0] (HO hd first he ha hb l hf c) (λR H=>∃w3b:Value,R=rB r.1∧H=(HO hd r.2.1 he ha w3b r.2.2 hf c))))(hm:(∀(hd:Nat) (he:Nat) (ha:Nat) (hb:Value) (hf:Nat) (v:(List Av)) (first:Bool) (l:Aw) (c:Av) (r:Bool×Aw),hl v first l c=Ad r→FN 138 [Cg 4 (BP A7 v),rv (.func (.func 139) #[] #[(.pointer (Ad ⟨hd,0,Ai⟩)),(.pointer (Ad ⟨he,0,Ai⟩)),(.pointer (Ad ⟨hf,0,Ai⟩))])] (HO hd first he ha hb l hf c) (λR H=>∃w1_1b:Value,R=rv (.tuple #[])∧H=(HO hd r.1 he ha w1_1b r.2 hf c))))(ha:Nat)(hb:Value)(l:Aw)(v:(List Av))(r:Aw)(h:OA F hk hl l v=Ad r):FN 100 [rP ha 0,Cg 4 (BP A7 v)] (Hd ha hb l) (λR H=>∃w0b:Value,R=rv (.tuple #[])∧H=(Hd ha w0b r)):=en func100 ntmps100 Aa λw Z=>by unfold OA at h;exact AT<|AlN Aa (Cs Aa) Aa λb1=>Ca Aa<|ck h λg2 h3=>wv (Bh g2)<|wv Dq<|CD (cs:=(Sq ([]:Aw))) HK Aa Aa λb4=>by refine L5 0 G0 Aa Aa Aa (CB.c Aa) Aa Aa ?_;exact Dt<|wv AB<|wv (Ay 0)<|Be<|AL<|AT<|wv Bx<|CW Aa<|BG h3 (λc5 h6=>AU<|wv (Ay 1)<|ck h6 λg7 h8=>Em (Hr:=[EE b4 (A2 v 0),.blk b1 [rP ha 0] 135]) call135 Aa ((Cm 2 Aa).trans (AqK _ (AqC _))) (LW ha hb l ([110,117,108,108]:Aw) g7) Aa<|by rintro _ _ ⟨v9,rfl,rfl⟩;exact bd h8 λgA hn ho=>by rw[← hn];exact AD<|Bm<|by cases ho;exact LX (r_0 Wm) (sC (sS (sS sN))) ⟨v9,Aa,Aa⟩) λc5 hp=>AT<|wv Bx<|CW Aa<|BG hp (λhq hr=>by refine ck hr λg16 hs=>O7 6 [2,4] [⟨[],rP ha 0,1⟩,⟨[],Cg 1 (BP eS ([([102,97,108,115,101]:Aw),([116,114,117,101]:Aw)]:List Aw)),0⟩,⟨[],rP b4 1,0⟩,⟨[2],Bn (A2 v 0).ay,1⟩,⟨[1,3],Ts [rS (A2 ([([102,97,108,115,101]:Aw),([116,114,117,101]:Aw)]:List Aw) (A2 v 0).ay)],0⟩,⟨[4],rS (A2 ([([102,97,108,115,101]:Aw),([116,114,117,101]:Aw)]:List Aw) (A2 v 0).ay),0⟩] (rle [(7,_)]) [32,33,34,35,36,37,2,4] ?_ ?_;refine of (Bq 1 Ul Aa Aa Aa)<|Aas Aa (λH=>CQ (ys:=([([102,97,108,115,101]:Aw),([116,114,117,101]:Aw)]:List Aw)) (enc:=eS) (css:=[[rS ([102,97,108,115,101]:Aw)],[rS ([116,114,117,101]:Aw)]]) (xs:=[.const (.string ⟨#[102,97,108,115,101]⟩),.const (.string ⟨#[116,114,117,101]⟩)]) Ev DS Uc Aa Aa Aa ⟨cO Aa,cO Aa,trivial⟩ Aa D6 Aa Aa) ?_;exact oq (AI Zp Aa H6 Aa Aa)<|of (Bq 0 Kh Aa Aa Aa)<|oq (C7 (enc:=eS) (ys:=([([102,97,108,115,101]:Aw),([116,114,117,101]:Aw)]:List Aw)) Ev DS Aa Aa g16)<|oq (BT Gb Aa Aa)<|Kt;exact ck hs λg18 ht=>Em (Hr:=[EE b4 (A2 v 0),.blk b1 [rP ha 0] 135]) call135 Aa ((Cm 2 Aa).trans (AqK _ (AqC _))) (LW ha hb l (A2 ([([102,97,108,115,101]:Aw),([116,114,117,101]:Aw)]:List Aw) (A2 v 0).ay) g18) Aa<|by rintro _ _ ⟨v20,rfl,rfl⟩;exact bd ht λgB hu hw=>by rw[← hu];exact AD<|Bm<|by cases hw;exact LX (r_0 Wm) (sC (sS (sS sN))) ⟨v20,Aa,Aa⟩) λhq hx=>AT<|wv Bx<|CW Aa<|BG hx (λhy hz=>by refine ck hz λh0 h1=>O7 4 [2,4] [⟨[],rP ha 0,1⟩,⟨[],rP b4 1,0⟩,⟨[1],Bn (A2 v 0).ay,1⟩,⟨[2],rS (Lib.itoa (A2 v 0).ay),0⟩] (rle [(5,_)]) [41,42,43,44,2,4] ?_ ?_;refine of (Bq 1 Ul Aa Aa Aa)<|oq (AI Zp Aa H6 Aa Aa)<|of (Bq 0 Kh Aa Aa Aa)<|Aas Aa (λH=>EU (rs:=[Bn (A2 v 0).ay]) (r:=rS (Lib.itoa (A2 v 0).ay)) Ui Aa (H4 (A2 v 0).ay h0) Aa) ?_;exact Kt;exact ck h1 λh2 h4=>Em (Hr:=[EE b4 (A2 v 0),.blk b1 [rP ha 0] 135]) call135 Aa ((Cm 2 Aa).trans (AqK _ (AqC _))) (LW ha hb l (Lib.itoa (A2 v 0).ay) h2) Aa<|by rintro _ _ ⟨v31,rfl,rfl⟩;exact bd h4 λgC h5 h7=>by rw[← h5];exact AD<|Bm<|by cases h7;exact LX (r_0 Wm) (sC (sS (sS sN))) ⟨v31,Aa,Aa⟩) λhy h9=>AT<|wv Bx<|CW Aa<|BG h9 (λhA hB=>by refine AU<|wv (Ay 1)<|wv AB<|wv (Ay 0)<|ob hB λhC hD hE=>EG [2] call136 (Uu F ha hb l (A2 v 0).au hC hD) ?_;rintro _ _ ⟨hG,rfl,rfl⟩;exact AD<|Bm<|by cases hE;exact LX (r_0 Wm) (sC (sS (sS sN))) ⟨hG,Aa,Aa⟩) λhA hH=>AT<|wv (r:=rS ([91,93]:Aw)) Bd<|Cz<|AT<|wv AB<|wv (Ay 0)<|wv Bx<|Be<|BG hH (λhI hJ=>by refine AU<|wv (r:=rS ([123,125]:Aw)) Bd<|Cz<|ck hJ λhK hL=>O7 3 [1,2,4,5] [⟨[],rP ha 0,1⟩,⟨[],rS ([123,125]:Aw),0⟩,⟨[1],rI .u8 (BA ([123,125]:Aw) 0),0⟩] (rle [(4,_)]) [15,16,17,1,2,4,5] ?_ ?_;exact of (Bq 1 Ul Aa Aa Aa)<|oq (AQ Aa)<|oq (E8 GB Aa Aa hK)<|Kt;exact ck hL λhN hO=>ck hO λhP hQ=>Em (Hr:=[EE b4 (A2 v 0),.blk b1 [rP ha 0] 135]) N3 Aa ((Cm 2 Aa).trans (AqK _ (AqC _))) (Ec ha hb l (BA ([123,125]:Aw) 0) hN hP) Aa<|by rintro _ _ ⟨v51,rfl,rfl⟩;exact bd hQ λhR hS hT=>by rw[← hS];exact Dt<|CD (cs:=[rB Ah]) zeroValue4 Aa Aa λhg=>by refine us 0 Tk Aa Aa (Cs Aa) Aa Aa ?_;refine Ca Aa<|wv (r:=rv (.func (.func 139) #[] #[(.pointer (Ad ⟨hg,0,Ai⟩)),(.pointer (Ad ⟨b1,0,Ai⟩)),(.pointer (Ad ⟨b4,0,Ai⟩))])) (Qd Aa)<|ob hT λhh hU hV=>EG [0,2,0,0] call138 (hm hg b1 ha v51 b4 v Af hR (A2 v 0) hh hU) ?_;rintro _ _ ⟨hW,rfl,rfl⟩;refine Be<|ck hV λhX hY=>O7 3 [2,5] [⟨[],rP ha 0,1⟩,⟨[],rS ([123,125]:Aw),0⟩,⟨[1],rI .u8 (BA ([123,125]:Aw) 1),0⟩] (rle [(4,_)]) [22,23,24,2,5] ?_ ?_;exact of (Bq 1 Ul Aa Aa Aa)<|oq (AQ Aa)<|oq (E8 GB Aa Aa hX)<|Kt;exact ck hY λhZ ga=>ck ga λgb gc=>Em (Hr:=[.blk hg [rB hh.1] 4,.blk b1 [rP ha 0] 135,EE b4 (A2 v 0)]) N3 Aa ((Cm 2 Aa).trans (AqK _ (AqC _))) (Ec ha hW hh.2 (BA ([123,125]:Aw) 1) hZ gb) Aa<|by rintro _ _ ⟨gd,rfl,rfl⟩;exact bd gc λgD gf gg=>by rw[← gf];exact AD<|Bm<|by cases gg;exact LX (r_0 Wm) (sM 1 Aa) ⟨gd,Aa,Aa⟩) λhI gh=>by refine B5<|ck gh λgi gj=>O7 3 [1,2,4,5] [⟨[],rP ha 0,1⟩,⟨[],rS ([91,93]:Aw),0⟩,⟨[1],rI .u8 (BA ([91,93]:Aw) 0),0⟩] (rle [(4,_)]) [15,16,17,1,2,4,5] ?_ ?_;exact of (Bq 1 Ul Aa Aa Aa)<|oq (AQ Aa)<|oq (E8 GB Aa Aa gi)<|Kt;exact ck gj λgl gm=>ck gm λgp gq=>Em (Hr:=[EE b4 (A2 v 0),.blk b1 [rP ha 0] 135]) N3 Aa ((Cm 2 Aa).trans (AqK _ (AqC _))) (Ec ha hb l (BA ([91,93]:Aw) 0) gl gp) Aa<|by rintro _ _ ⟨gr,rfl,rfl⟩;exact bd gq λgs gu gv=>by rw[← gu];exact Dt<|CD (cs:=[rB Ah]) zeroValue4 Aa Aa λhi=>by refine us 0 Tk Aa Aa (Cs Aa) Aa Aa ?_;refine Ca Aa<|wv (r:=rv (.func (.func 139) #[] #[(.pointer (Ad ⟨hi,0,Ai⟩)),(.pointer (Ad ⟨b1,0,Ai⟩)),(.pointer (Ad ⟨b4,0,Ai⟩))])) (Qd Aa)<|ob gv λhj gw gx=>EG [0,2,0,0] call138 (hm hi b1 ha gr b4 v Af gs (A2 v 0) hj gw) ?_;rintro _ _ ⟨v85,rfl,rfl⟩;refine Be<|ck gx λgy gz=>O7 3 [2,5] [⟨[],rP ha 0,1⟩,⟨[],rS ([91,93]:Aw),0⟩,⟨[1],rI .u8 (BA ([91,93]:Aw) 1),0⟩] (rle [(4,_)]) [22,23,24,2,5] ?_ ?_;exact of (Bq 1 Ul Aa Aa Aa)<|oq (AQ Aa)<|oq (E8 GB Aa Aa gy)<|Kt;exact ck gz λg0 g1=>ck g1 λg3 g4=>Em (Hr:=[.blk hi [rB hj.1] 4,.blk b1 [rP ha 0] 135,EE b4 (A2 v 0)]) N3 Aa ((Cm 2 Aa).trans (AqK _ (AqC _))) (Ec ha v85 hj.2 (BA ([91,93]:Aw) 1) g0 g3) Aa<|by rintro _ _ ⟨g5,rfl,rfl⟩;exact bd g4 λgE g6 g8=>by rw[← g6];exact AD<|Bm<|by cases g8;exact LX (r_0 Wm) (sM 1 Aa) ⟨g5,Aa,Aa⟩
theorem Ab6 (F:Nat)(hh:Aw→(List Av)→Option Aw)(hg:(∀(ha:Nat) (hb:Value) (l:Aw) (v:(List Av)) (r:Aw),hh l v=Ad r→FN 100 [rP ha 0,Cg 4 (BP A7 v)] (Hd ha hb l) (λR H=>∃w0b:Value,R=rv (.tuple #[])∧H=(Hd ha w0b r))))(hd he ha:Nat)(hb:Value)(hf:Nat)(key:Aw)(x:(List Av))(first:Bool)(l:Aw)(c:Av)(r:Bool×Bool×Aw)(h:Ur F hh key x first l c=Ad r):FN 139 [rS key,Cg 4 (BP A7 x),rP hd 0,rP he 0,rP hf 0] (HO hd first he ha hb l hf c) (λR H=>∃w3b:Value,R=rB r.1∧H=(HO hd r.2.1 he ha w3b r.2.2 hf c)):=en func139 ntmps139 Aa λw Z=>AY Aa<|Cz<|AT<|wv (Ay 0)<|wv BO<|Be<|BG h (λc1 h2=>AU<|wv (Ay 1)<|ck h2 λg3 h4=>ck h4 λg5 h6=>Em (Hr:=[.blk hd [rB first] 4,.blk he [rP ha 0] 135,EE hf c]) N3 Aa ((Cm 2 Aa).trans (AqK _ (AqC _))) (Ec ha hb l 44 g3 g5) Aa<|by rintro _ _ ⟨v7,rfl,rfl⟩;exact bd h6 λr8 hk h9=>by rw[← hk];refine Dt<|us 1 Tk Aa Aa (Cs Aa) Aa Aa ?_;exact Cz<|AT<|wv AB<|wv (Ay 3)<|wv Bx<|Be<|BG h9 (λhl hm=>by refine AT<|wv (Ay 2)<|ms Aa<|ob hm λhi hn ho=>EG [0] call136 (Uu F ha v7 r8 key hi hn) ?_;rintro _ _ ⟨hp,rfl,rfl⟩;exact Be<|AU<|wv (Ay 2)<|ck ho λg17 hq=>ck hq λg19 hr=>Em (Hr:=[.blk hd [rB Ah] 4,.blk he [rP ha 0] 135,EE hf c]) N3 Aa (AqC _) (Ec ha hp hi 58 g17 g19) Aa<|by rintro _ _ ⟨v21,rfl,rfl⟩;exact bd hr λhs ht hu=>by rw[← ht];refine Dt<|wv (Ay 2)<|ms Aa<|ob hu λhw hx hy=>EG [0] Zz (hg ha v21 hs x hw hx) ?_;rintro _ _ ⟨hz,rfl,rfl⟩;refine Dt<|Bw Aa<|Jp [1,1] ?_;exact cs hy▸AC (Dj Ada AW) (sK 15) ⟨hz,Aa,Aa⟩) λhl h0=>by refine BQ<|AT<|wv (Ay 2)<|ms Aa<|ob h0 λh1 h3 h5=>EG [0] Zz (hg ha v7 r8 x h1 h3) ?_;rintro _ _ ⟨h7,rfl,rfl⟩;refine Dt<|Bw Aa<|Jp [1,1] ?_;exact cs h5▸AC (Dj Ada AW) (sK 15) ⟨h7,Aa,Aa⟩) λc1 h8=>by refine BQ<|AT<|us 0 Tk Aa Aa (Cs Aa) Aa Aa ?_;exact Cz<|AT<|wv AB<|wv (Ay 3)<|wv Bx<|Be<|BG h8 (λhA hB=>by refine AT<|wv (Ay 1)<|ms Aa<|ob hB λhj hC hD=>EG [2] call136 (Uu F ha hb l key hj hC) ?_;rintro _ _ ⟨hE,rfl,rfl⟩;exact Be<|AU<|wv (Ay 2)<|ck hD λhG hH=>ck hH λhI hJ=>Em (Hr:=[.blk hd [rB Ah] 4,.blk he [rP ha 0] 135,EE hf c]) N3 Aa (AqC _) (Ec ha hE hj 58 hG hI) Aa<|by rintro _ _ ⟨hK,rfl,rfl⟩;exact bd hJ λhL hN hO=>by rw[← hN];refine Dt<|wv (Ay 2)<|ms Aa<|ob hO λhP hQ hR=>EG [0] Zz (hg ha hK hL x hP hQ) ?_;rintro _ _ ⟨hS,rfl,rfl⟩;refine Dt<|Bw Aa<|Jp [1,1] ?_;exact cs hR▸AC (Dj Ada AW) (sK 15) ⟨hS,Aa,Aa⟩) λhA hT=>by refine BQ<|AT<|wv (Ay 1)<|ms Aa<|ob hT λhU hV hW=>EG [2] Zz (hg ha hb l x hU hV) ?_;rintro _ _ ⟨hX,rfl,rfl⟩;refine Dt<|Bw Aa<|Jp [1,1] ?_;exact cs hW▸AC (Dj Ada AW) (sK 15) ⟨hX,Aa,Aa⟩
theorem Ab5 (F:Nat)(hh:Aw→(List Av)→Bool→Aw→Av→Option (Bool×Bool×Aw))(hx:(∀(ha:Nat) (hb:Nat) (hf:Nat) (hi:Value) (hd:Nat) (key:Aw) (x:(List Av)) (first:Bool) (l:Aw) (c:Av) (r:Bool×Bool×Aw),hh key x first l c=Ad r→FN 139 [rS key,Cg 4 (BP A7 x),rP ha 0,rP hb 0,rP hd 0] (HO ha first hb hf hi l hd c) (λR H=>∃w3b:Value,R=rB r.1∧H=(HO ha r.2.1 hb hf w3b r.2.2 hd c))))(ha hb hf:Nat)(hi:Value)(hd:Nat)(v:(List Av))(first:Bool)(l:Aw)(c:Av)(r:Bool×Aw)(h:NG F hh v first l c=Ad r):FN 138 [Cg 4 (BP A7 v),rv (.func (.func 139) #[] #[(.pointer (Ad ⟨ha,0,Ai⟩)),(.pointer (Ad ⟨hb,0,Ai⟩)),(.pointer (Ad ⟨hd,0,Ai⟩))])] (HO ha first hb hf hi l hd c) (λR H=>∃w1_1b:Value,R=rv (.tuple #[])∧H=(HO ha r.1 hb hf w1_1b r.2 hd c)):=en func138 ntmps138 Aa λw Z=>AY Aa<|Ca Aa<|ck h λg1 h2=>wv (Bh g1)<|wv BR<|wv Bb<|CW Aa<|AL<|ob h2 λh0 h1 ho=>B8 (V:=(Bool×Aw)×Value) 0 (λσ=>Cp (λσ=>Hk F v c hh σ.1 σ.2.1 σ.2.2.1 σ.2.2.2) σ.1 σ.2.1=Ad h0) (λσ=>[(0,Cg 4 (BP A7 v)),(1,rv (.func (.func 139) #[] #[(.pointer (Ad ⟨ha,0,Ai⟩)),(.pointer (Ad ⟨hb,0,Ai⟩)),(.pointer (Ad ⟨hd,0,Ai⟩))])),(4,Bn σ.2.1.1),(12,Bn (A2 v 0).fN),(13,Bn σ.2.1.2.1)]) (λσ=>(HO ha σ.2.1.2.2.1 hb hf σ.2.2 σ.2.1.2.2.2 hd c)) (λσ=>σ.1) (F,(1,0,first,l),hi) h1 (AP Aa) (sM 15 Aa) (λσ=>KU σ.1.1 σ.1.2=Ad r) (λσ=>[]) (λσ=>(HO ha σ.1.1 hb hf σ.2 σ.1.2 hd c)) (by rintro⟨g2,⟨he,hp,hj,hk⟩,hq⟩ h3;refine EM ?_;obtain⟨hy,rfl,h4,hr,hg⟩:=C5 h3;have hr:Hk F v c hh he hp hj hk=Ad h4:=hr;exact AT<|wv BS<|Cz<|BG hr (λc175 h5=>B5<|AL<|AT<|wv (r:=rS ([]:Aw)) Bd<|BH Aa<|wv (Bh g1)<|wv BR<|wv Bb<|wv Bx<|Be<|BG h5 (λh6 h7=>AY Aa<|ck h7 λh8 h9=>wv (Bh h8)<|wv BR<|wv Bb<|CW Aa<|BD Aa<|ck h9 λhA hB=>wv (Bg hA)<|ms Aa<|Ca Aa<|ck hB λhC hD=>wv (Nj El G0 Aa Aa hC)<|ob hD λhl hE hG=>CS call80 (XU F (Ap (CV (he+1)) v) hl hE)<|ms Aa<|wv A4<|wv A4<|wv A4<|CD (cs:=Ot) Zo Aa Aa λhH=>by refine ms Aa<|L5 0 Ji Aa Aa Aa (CB.c Aa) Aa Aa ?_;exact ms Aa<|BH Aa<|ck hG λhs hI=>wv (Bg hs)<|ms Aa<|wv (Bg hs)<|ck hI λhJ hK=>ck hK λhL hN=>wv (UW El G0 Aa Aa Aa Aa hJ hL)<|ob hN λht hO hP=>XS (Hr:=[H0 hH hl.2.1]) call139 Aa Aa ((Cm 1 Aa).trans (AqK _ ((Cm 1 Aa).trans (AqK _ ((Cm 1 Aa).trans (AqK _ ((Cm 1 Aa).trans (AqK _ (AqC _))))))))) (hx ha hb hf hq hd (A2 v he).au (Aq (CV ((he+1)+hl.1)-CV (he+1)) (Ap (CV (he+1)) v)) hj hk c ht hO) Aa<|by rintro _ _ ⟨hz,rfl,rfl⟩;exact wv BO<|Be<|BG hP (λhQ hR=>CM<|A5<|BW<|A5<|Bj<|have hS:=BK hR hg ho;Dc<|cs hS▸AC (r_0 results138) (sK 15) ⟨hz,Aa,Aa⟩) λhQ hT=>BQ<|BD Aa<|wv (Bg hs)<|B9 Aa<|DB<|AU<|ck hT λhU hV=>wv (Bg hU)<|B9 Aa<|have hW:=Bp hV hg;AG (AA (hy,((he+1)+hl.1,hp+1,ht.2.1,ht.2.2),hz) ⟨hW,Aqw _⟩ (AP Aa) (sC (sC (sC (sC (sS sN))))))) λh6 hX=>BQ<|AY Aa<|ck hX λhY hZ=>wv (Nj El G0 Aa Aa hY)<|ob hZ λhm ga gb=>CS call80 (XU F (Ap (CV he) v) hm ga)<|ms Aa<|wv A4<|wv A4<|wv A4<|CD (cs:=Ot) Zo Aa Aa λgc=>by refine ms Aa<|L5 0 Ji Aa Aa Aa (CB.c Aa) Aa Aa ?_;exact ms Aa<|BH Aa<|ck gb λhu gd=>wv (Bg hu)<|ms Aa<|wv (Bg hu)<|ck gd λgf gg=>ck gg λgh gi=>wv (UW El G0 Aa Aa Aa Aa gf gh)<|ob gi λhw gj gl=>XS (Hr:=[H0 gc hm.2.1]) call139 Aa Aa ((Cm 1 Aa).trans (AqK _ ((Cm 1 Aa).trans (AqK _ ((Cm 1 Aa).trans (AqK _ ((Cm 1 Aa).trans (AqK _ (AqC _))))))))) (hx ha hb hf hq hd ([]:Aw) (Aq (CV (he+hm.1)-CV he) (Ap (CV he) v)) hj hk c hw gj) Aa<|by rintro _ _ ⟨v222,rfl,rfl⟩;exact wv BO<|Be<|BG gl (λgm gp=>CM<|A5<|BW<|A5<|Bj<|have gq:=BK gp hg ho;Dc<|cs gq▸AC (r_0 results138) (sK 15) ⟨v222,Aa,Aa⟩) λgm gr=>BQ<|BD Aa<|wv (Bg hu)<|B9 Aa<|DB<|AU<|ck gr λgs gu=>wv (Bg gs)<|B9 Aa<|have gv:=Bp gu hg;AG (AA (hy,(he+hm.1,hp+1,hw.2.1,hw.2.2),v222) ⟨gv,Aqw _⟩ (AP Aa) (sC (sC (sC (sC (sS sN))))))) λc175 gw=>BE<|A3<|have gx:=Ci gw hg ho;A3 (Bk (AA ((hj,hk),hq) gx Hj.nil (sC (sC (sC (sC sN)))))))<|by rintro⟨⟨gy,gz⟩,g0⟩ hn;refine Hb ?_;exact have hn:KU gy gz=Ad r:=hn;by unfold KU at hn;exact Bo<|by cases hn;exact LX (r_0 results138) (sM 15 Aa) ⟨g0,Aa,Aa⟩
theorem KT:∀F:Nat,(∀(ha:Nat) (hb:Value) (l:Aw) (v:(List Av)) (r:Aw),Jr F l v=Ad r→FN 100 [rP ha 0,Cg 4 (BP A7 v)] (Hd ha hb l) (λR H=>∃w0b:Value,R=rv (.tuple #[])∧H=(Hd ha w0b r)))∧(∀(hd:Nat) (he:Nat) (ha:Nat) (hb:Value) (hf:Nat) (key:Aw) (x:(List Av)) (first:Bool) (l:Aw) (c:Av) (r:Bool×Bool×Aw),Ii F key x first l c=Ad r→FN 139 [rS key,Cg 4 (BP A7 x),rP hd 0,rP he 0,rP hf 0] (HO hd first he ha hb l hf c) (λR H=>∃w3b:Value,R=rB r.1∧H=(HO hd r.2.1 he ha w3b r.2.2 hf c)))∧(∀(hd:Nat) (he:Nat) (ha:Nat) (hb:Value) (hf:Nat) (v:(List Av)) (first:Bool) (l:Aw) (c:Av) (r:Bool×Aw),K1 F v first l c=Ad r→FN 138 [Cg 4 (BP A7 v),rv (.func (.func 139) #[] #[(.pointer (Ad ⟨hd,0,Ai⟩)),(.pointer (Ad ⟨he,0,Ai⟩)),(.pointer (Ad ⟨hf,0,Ai⟩))])] (HO hd first he ha hb l hf c) (λR H=>∃w1_1b:Value,R=rv (.tuple #[])∧H=(HO hd r.1 he ha w1_1b r.2 hf c)))
  | 0=>⟨(λ_ _ _ _ _ h=>by simp[Jr] at h),(λ_ _ _ _ _ _ _ _ _ _ _ h=>by simp[Ii] at h),(λ_ _ _ _ _ _ _ _ _ _ h=>by simp[K1] at h)⟩
  | nn+1=>⟨(λha hb l v r h=>Ae5 nn (Ii nn) (K1 nn) (KT nn).2.1 (KT nn).2.2 ha hb l v r (by rw[Jr] at h;exact h)),(λhd he ha hb hf key x first l c r h=>Ab6 nn (Jr nn) (KT nn).1 hd he ha hb hf key x first l c r (by rw[Ii] at h;exact h)),(λhd he ha hb hf v first l c r h=>Ab5 nn (Ii nn) (KT nn).2.1 hd he ha hb hf v first l c r (by rw[K1] at h;exact h))⟩
theorem Ahd (F ha:Nat)(hb:Value)(l:Aw)(v:(List Av))(r:Aw)(h:Jr F l v=Ad r):FN 100 [rP ha 0,Cg 4 (BP A7 v)] (Hd ha hb l) (λR H=>∃w0b:Value,R=rv (.tuple #[])∧H=(Hd ha w0b r)):=(KT F).1 ha hb l v r h
theorem AeA (F:Nat)(v:(List Av))(r:Aw×Int)(h:T1 F v=Ad r):FN 71 (J8 v) [] (PO (Du (D8 r.1 r.2))):=en func71 ntmps71 Aa λw Z=>AT<|wv (r:=rS ([]:Aw)) Bd<|ms Aa<|BH Aa<|ob h λr1 e3 h2=>CS AgQ (NI F v r1 e3)<|ms Aa<|Ca Aa<|wv BU<|Be<|BG h2 (λc4 h5=>AY Aa<|wv (r:=rS ([]:Aw)) Bd<|Bw Aa<|A5<|cs h5▸Ki results71 ⟨Aa,Aa⟩) λc4 h6=>BQ<|AT<|CD (cs:=[rv (.pointer Ai),rv (.slice Ai 0 0)]) zeroValue138 Aa Aa λb7=>by refine Ca Aa<|WL.tobld (te:=5) (i:=0) Aa<|ob h6 λr8 ha h9=>EG [0] Zz (Ahd F b7 (.slice Ai 0 0) ([]:Aw) v r8 ha) ?_;rintro _ _ ⟨hb,rfl,rfl⟩;exact Dt<|ck h9 λhd he=>Em (Hr:=[]) call101 Aa (AqC _) (Agy b7 hb r8  hd) Aa<|by rintro _ _ ⟨rfl,rfl⟩;exact Bw Aa<|cs he▸Ki results71 ⟨Aa,Aa⟩
end Go.Proofs.YtiddaamglmmnaaaGreatDoor.Q
namespace Go.Proofs.YtiddaamglmmnaaaGreatDoor
open Go
set_option linter.unusedVariables false
structure AN where
 fS:Aw
 aG:Int
 aw:(List Av)
 aB:Bool
 deriving DecidableEq,Inhabited
def NN (s p:Aw):Option Bool:=
 Bc (imp (Ac ((Ae p:Int)≤(Ae s:Int))) (Gk (Ae p:Int) (Ae s:Int)))<|some ((Ac ((Ae p:Int)≤(Ae s:Int)))&&(Ac ((Aq (Ao (Ae p:Int)) s)=p)))
def MI (s p:Aw):Option Bool:=
 BB (NN s p) λr1=>Ad r1
def HG (q:AN)(s:Aw):Option (Bool×AN):=
 Bc (Gk q.aG (Ae q.fS:Int))<|BB (MI (Ap (Ao q.aG) q.fS) s) λr3=>By (!r3) (Ad (Ah,q)) (Bc (BJ .i64 (q.aG+(Ae s:Int)))<|some (Af,(AN.mk q.fS (q.aG+(Ae s:Int)) q.aw q.aB)))
def IM (ha:(List Int))(hb hd:Int):Option (Stp ((List Int)×Int) (Out (Aw×Bool×AN) Int)):=
 Bc (De 1 (ha.length+Ae ([hb]:List Int)))<|some (.next (ha++([hb]:List Int),hd))
def HQ (r1:Bool×AN)(hb:(List Int))(ha:Int):Option (Stp ((List Int)×Int) (Out (Aw×Bool×AN) Int)):=
 By (Ac (ha<(Ae r1.2.fS:Int))) (Bc (CE ha (Ae r1.2.fS:Int))<|Bc (BJ .i64 (ha+1))<|By (Ac ((BA r1.2.fS ha)=34)) (Ad (.out (.ret (Qv hb,Af,(AN.mk r1.2.fS (ha+1) r1.2.aw r1.2.aB))))) (By (((Ac ((BA r1.2.fS ha)<32))||(Ac (126<(BA r1.2.fS ha))))) (Ad (.out (.ret (([]:Aw),Ah,(AN.mk r1.2.fS (ha+1) r1.2.aw r1.2.aB))))) (By (Ac ((BA r1.2.fS ha)=92)) (Bc (imp (!(Ac ((Ae r1.2.fS:Int)≤(ha+1)))) (CE (ha+1) (Ae r1.2.fS:Int)))<|By (((Ac ((Ae r1.2.fS:Int)≤(ha+1)))||((!Ac ((BA r1.2.fS (ha+1))=34))&&(!Ac ((BA r1.2.fS (ha+1))=92))))) (Ad (.out (.ret (([]:Aw),Ah,(AN.mk r1.2.fS (ha+1) r1.2.aw r1.2.aB))))) (Bc (CE (ha+1) (Ae r1.2.fS:Int))<|Bc (BJ .i64 ((ha+1)+1))<|IM hb (BA r1.2.fS (ha+1)) ((ha+1)+1))) (IM hb (BA r1.2.fS ha) (ha+1))))) (Ad (.out (.go ha)))
def Mm (r1:Bool×AN)(ha:Int):Option (Aw×Bool×AN):=
 Ad (([]:Aw),Ah,(AN.mk r1.2.fS ha r1.2.aw r1.2.aB))
def Wp (F:Nat)(q:AN):Option (Aw×Bool×AN):=
 BB (HG q ([34]:Aw)) λr1=>By (!r1.1) (Ad (([]:Aw),Ah,r1.2)) (BB (Cp (λσ=>HQ r1 σ.1 σ.2) F (([]:List Int),r1.2.aG)) (Cb λν=>Mm r1 ν))
def IN (r1:Bool×AN)(ha:Int):Option (Stp Int (Out (Bool×AN) Int)):=
 Bc (imp (Ac (ha<(Ae r1.2.fS:Int))) (CE ha (Ae r1.2.fS:Int)))<|By (((Ac (ha<(Ae r1.2.fS:Int)))&&((Ac (48≤(BA r1.2.fS ha)))&&(Ac ((BA r1.2.fS ha)≤57))))) (Bc (BJ .i64 (ha+1))<|some (.next (ha+1))) (Ad (.out (.go ha)))
def Q1 (q:AN)(r1:Bool×AN)(ha:Int):Option (Bool×AN):=
 Bc (Gk q.aG ha)<|Bc (Gk ha (Ae r1.2.fS:Int))<|Bc (De 1 (Ae (Aq (Ao ha-Ao q.aG) (Ap (Ao q.aG) r1.2.fS))))<|By (((Ac ((Cr (Aq (Ao ha-Ao q.aG) (Ap (Ao q.aG) r1.2.fS)))=1))||(Ac (r1.2.aG=ha)))) (Ad (Ah,(AN.mk r1.2.fS ha r1.2.aw r1.2.aB))) (Bc (De 40 (Ae r1.2.aw+Ae ([(Av.mk 3 (BN (Aq (Ao ha-Ao q.aG) (Ap (Ao q.aG) r1.2.fS))) ([]:Aw) 0)]:List Av)))<|some (Af,(AN.mk r1.2.fS ha (r1.2.aw++([(Av.mk 3 (BN (Aq (Ao ha-Ao q.aG) (Ap (Ao q.aG) r1.2.fS))) ([]:Aw) 0)]:List Av)) (r1.2.aB||(!Ac ((Cr (Aq (Ao ha-Ao q.aG) (Ap (Ao q.aG) r1.2.fS)))=0))))))
def Wr (F:Nat)(q:AN):Option (Bool×AN):=
 BB (HG q ([45]:Aw)) λr1=>BB (Cp (λσ=>IN r1 σ) F r1.2.aG) (Cb λν=>Q1 q r1 ν)
def Hm (ha:Aw)(hb:Int)(hd:(List Av))(he:Bool):Option (Bool×AN):=
 Ad (Af,(AN.mk ha hb hd he))
def Mn (F:Nat)(q:AN):Option (Bool×AN):=
 BB (HG q ([110,117,108,108]:Aw)) λhd=>By hd.1 (Bc (De 40 (hd.2.aw.length+Ae ([(Av.mk 1 0 ([]:Aw) 0)]:List Av)))<|Hm hd.2.fS hd.2.aG (hd.2.aw++([(Av.mk 1 0 ([]:Aw) 0)]:List Av)) hd.2.aB) (BB (HG hd.2 ([116,114,117,101]:Aw)) λhe=>By he.1 (Bc (De 40 (he.2.aw.length+Ae ([(Av.mk 2 1 ([]:Aw) 0)]:List Av)))<|Hm he.2.fS he.2.aG (he.2.aw++([(Av.mk 2 1 ([]:Aw) 0)]:List Av)) he.2.aB) (BB (HG he.2 ([102,97,108,115,101]:Aw)) λha=>By ha.1 (Bc (De 40 (ha.2.aw.length+Ae ([(Av.mk 2 0 ([]:Aw) 0)]:List Av)))<|Hm ha.2.fS ha.2.aG (ha.2.aw++([(Av.mk 2 0 ([]:Aw) 0)]:List Av)) ha.2.aB) (Bc (Gk ha.2.aG (ha.2.fS.length:Int))<|BB (MI (Ap (Ao ha.2.aG) ha.2.fS) ([34]:Aw)) λhg=>By hg (BB (Wp F ha.2) λhb=>By (!hb.2.1) (Ad (Ah,hb.2.2)) (Bc (De 40 (hb.2.2.aw.length+Ae ([(Av.mk 4 0 hb.1 0)]:List Av)))<|Hm hb.2.2.fS hb.2.2.aG (hb.2.2.aw++([(Av.mk 4 0 hb.1 0)]:List Av)) hb.2.2.aB)) (BB (Wr F ha.2) λhf=>Ad (hf.1,hf.2)))))
def Im (hf:AN→Option (Bool×AN))(x16:(List Av))(hd:Int)(hg:Aw)(hh:Int)(hi:(List Av))(hj:Bool):Option (Stp (Int×Aw×Int×(List Av)×Bool) (Out (Bool×AN) Unit)):=
 BB (hf (AN.mk hg hh hi hj)) λha=>By (!ha.1) (Ad (.out (.ret (Ah,ha.2)))) (Bc (CE (Ae x16:Int) (ha.2.aw.length:Int))<|Pp (List.set ha.2.aw (Ao (Ae x16:Int)) (Av.mk (A2 ha.2.aw (Ae x16:Int)).aa (A2 ha.2.aw (Ae x16:Int)).ay (A2 ha.2.aw (Ae x16:Int)).au hd)) λhk=>BB (HG (AN.mk ha.2.fS ha.2.aG hk ha.2.aB) ([93]:Aw)) λhe=>By he.1 (Ad (.out (.ret (Af,he.2)))) (BB (HG he.2 ([44]:Aw)) λhb=>By (!hb.1) (Ad (.out (.ret (Ah,hb.2)))) (Bc (BJ .i64 (hd+1))<|some (.next (hd+1,hb.2.fS,hb.2.aG,hb.2.aw,hb.2.aB)))))
def KW :Option (Bool×AN):=
 Ai
def DI (hk:AN→Option (Bool×AN))(x16:(List Av))(hd:Int)(he:Aw×Bool×AN)(hn ho hl:Bool)(hh:Aw)(hi:Int)(hf:(List Av))(hj:Bool):Option (Stp (Aw×Int×Aw×Int×(List Av)×Bool) (Out (Bool×AN) Unit)):=
 By hl (Ad (.out (.ret (Ah,(AN.mk hh hi hf hj))))) (Bc (De 40 (hf.length+Ae ([(Av.mk 4 0 he.1 0)]:List Av)))<|BB (hk (AN.mk hh hi (hf++([(Av.mk 4 0 he.1 0)]:List Av)) hj)) λha=>By (!ha.1) (Ad (.out (.ret (Ah,ha.2)))) (Bc (CE (Ae x16:Int) (ha.2.aw.length:Int))<|Pp (List.set ha.2.aw (Ao (Ae x16:Int)) (Av.mk (A2 ha.2.aw (Ae x16:Int)).aa (A2 ha.2.aw (Ae x16:Int)).ay (A2 ha.2.aw (Ae x16:Int)).au hd)) λhm=>BB (HG (AN.mk ha.2.fS ha.2.aG hm ha.2.aB) ([125]:Aw)) λhg=>By hg.1 (Ad (.out (.ret (Af,hg.2)))) (BB (HG hg.2 ([44]:Aw)) λhb=>By (!hb.1) (Ad (.out (.ret (Ah,hb.2)))) (Bc (BJ .i64 (hd+1))<|some (.next (he.1,hd+1,hb.2.fS,hb.2.aG,hb.2.aw,hb.2.aB))))))
def Il (F:Nat)(hg:AN→Option (Bool×AN))(x16:(List Av))(hb:Aw)(hd:Int)(hh:Aw)(hi:Int)(hj:(List Av))(hk:Bool):Option (Stp (Aw×Int×Aw×Int×(List Av)×Bool) (Out (Bool×AN) Unit)):=
 BB (Wp F (AN.mk hh hi hj hk)) λha=>By (!ha.2.1) (DI hg x16 hd ha Af Af Af ha.2.2.fS ha.2.2.aG ha.2.2.aw ha.2.2.aB) (By (Ac (1<hd)) (By (CH ha.1 hb||decide (ha.1=hb)) (DI hg x16 hd ha (CH ha.1 hb||decide (ha.1=hb)) (CH ha.1 hb||decide (ha.1=hb)) Af ha.2.2.fS ha.2.2.aG ha.2.2.aw ha.2.2.aB) (BB (HG ha.2.2 ([58]:Aw)) λhe=>DI hg x16 hd ha (CH ha.1 hb||decide (ha.1=hb)) (CH ha.1 hb||decide (ha.1=hb)) (!he.1) he.2.fS he.2.aG he.2.aw he.2.aB)) (BB (HG ha.2.2 ([58]:Aw)) λhf=>DI hg x16 hd ha Ah Ah (!hf.1) hf.2.fS hf.2.aG hf.2.aw hf.2.aB))
def KV :Option (Bool×AN):=
 Ai
def Hl (F:Nat)(hg:AN→Option (Bool×AN))(r1:Bool×AN)(hi:Bool)(hd:Aw)(he:Int)(x16:(List Av))(hf:Bool):Option (Bool×AN):=
 By hi (BB (Mn F (AN.mk hd he x16 hf)) λhh=>Ad (hh.1,hh.2)) (By r1.1 (Bc (De 40 (Ae x16+Ae ([(Av.mk 5 0 ([]:Aw) 0)]:List Av)))<|BB (HG (AN.mk hd he (x16++([(Av.mk 5 0 ([]:Aw) 0)]:List Av)) hf) ([93]:Aw)) λha=>By ha.1 (Ad (Af,ha.2)) (BB (Cp (λσ=>Im hg x16 σ.1 σ.2.1 σ.2.2.1 σ.2.2.2.1 σ.2.2.2.2) F (1,ha.2.fS,ha.2.aG,ha.2.aw,ha.2.aB)) (Cb λν=>KW ))) (Bc (De 40 (Ae x16+Ae ([(Av.mk 6 0 ([]:Aw) 0)]:List Av)))<|BB (HG (AN.mk hd he (x16++([(Av.mk 6 0 ([]:Aw) 0)]:List Av)) hf) ([125]:Aw)) λhb=>By hb.1 (Ad (Af,hb.2)) (BB (Cp (λσ=>Il F hg x16 σ.1 σ.2.1 σ.2.2.1 σ.2.2.2.1 σ.2.2.2.2.1 σ.2.2.2.2.2) F (([]:Aw),1,hb.2.fS,hb.2.aG,hb.2.aw,hb.2.aB)) (Cb λν=>KV ))))
def Q0 (F:Nat)(hb:AN→Option (Bool×AN))(q:AN):Option (Bool×AN):=
 BB (HG q ([91]:Aw)) λr1=>By (!r1.1) (BB (HG r1.2 ([123]:Aw)) λha=>Hl F hb r1 (!ha.1) ha.2.fS ha.2.aG ha.2.aw ha.2.aB) (Hl F hb r1 Ah r1.2.fS r1.2.aG r1.2.aw r1.2.aB)
def DT:Nat→AN→Option (Bool×AN)
 | 0,_=>Ai
 | nn+1,q=>Q0 nn (DT nn) q
def KX (F:Nat)(hb:Bool)(hf:Aw)(hg:Int)(hd:(List Av))(he:Bool):Option ((List Av)×Int):=
 By hb (Ad (([]:List Av),1)) (By he (Ad (([]:List Av),2)) (BB (Uz F hd) λha=>Ad (ha.1,ha.2)))
def OB (F:Nat)(s:Aw):Option ((List Av)×Int):=
 By (Ac (4000<(Ae s:Int))) (Ad (([]:List Av),3)) (BB (DT F (AN.mk s 0 ([]:List Av) Ah)) λha=>By (!ha.1) (KX F Af ha.2.fS ha.2.aG ha.2.aw ha.2.aB) (KX F (!Ac (ha.2.aG=(Ae s:Int))) ha.2.fS ha.2.aG ha.2.aw ha.2.aB))
end Go.Proofs.YtiddaamglmmnaaaGreatDoor
