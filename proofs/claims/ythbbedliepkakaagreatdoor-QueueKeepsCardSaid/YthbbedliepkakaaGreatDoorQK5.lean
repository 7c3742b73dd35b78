/-
  Texts of the proof, put together: LqG, LqH, LwQKeeps.
-/
import Derived.Test.YthbbedliepkakaaGreatDoorQK4
namespace Go.Proofs.YthbbedliepkakaaGreatDoor
open Go
set_option linter.unusedVariables false
set_option linter.unusedSimpArgs false
def Um (o:AT)(f:Int)(q:Ah)(ps:List Ab)(idx:List Int)(q':Ah)(ps':List Ab)(idx':List Int):Prop:=
 (o.fKind=0∧f=0∧Cg q o.fEvent.fID=false∧(∀id,Cg q' id=(Cg q id||decide (o.fEvent.fID=id)))∧∀i∈idx',((Db ps' i).fID=o.fEvent.fID∧(Ac ps' i).fReceives=0)∨(i∈idx∧(Db ps' i).fID=(Db ps i).fID∧(Ac ps' i).fReceives=(Ac ps i).fReceives))∨
 (¬ (o.fKind=0∧f=0)∧(∀id,Cg q' id=true→Cg q id=true)∧(¬ (o.fKind=2∧f=0)→∀id,Cg q' id=Cg q id)∧∀i∈idx',i∈idx∧(Db ps' i).fID=(Db ps i).fID∧(Ac ps' i).fReceives=(Ac ps i).fReceives)
theorem QV {F n:Nat}(hF:30000≤F){q:Ah}{ps:List Ab}{idx:List Int}(h:QI q ps idx)(hb:QB n q ps)(hn:n+256≤1000000){o:AT}(hs:IY o=false)(ho:ST o.fEvent) :
  ∃k f q' ps' idx',Ev F q ps o=some (k,f,q',ps')∧P9 F (BC q ps idx) o=some (k,f,BC q' ps' idx')∧QI q' ps' idx'∧QB (n+256) q' ps'∧q'.fPolicy=q.fPolicy∧(o.fKind≠5→Um o f q ps idx q' ps' idx'):=by
 obtain⟨b1,b2,b3⟩:=hb;have hb:QB n q ps:=⟨b1,b2,b3⟩
 have hsm:CL o.fEvent=true∧o.fReceipt.length≤300:=by
  unfold IY at hs;simp only[WN,Bool.not_eq_false',Wq] at hs;exact⟨hs.1,by omega⟩
 have hbn:∀{q':Ah} {ps':List Ab},q'.fArrived=q.fArrived→ps'.length=ps.length→QB (n+256) q' ps':=λh1 h2=>⟨by rw[h1];omega,by rw[h1];omega,by rw[h2];omega⟩
 unfold Ev P9
 by_cases k0:o.fKind=0
 ·have hx:=Oa hF hsm.1 ho;obtain⟨h1,h2,h3,h4⟩:=Qk h hsm.1 o.fNow o.fN (Ge o.fEvent) (λe=>QU (by rw[hx,e])) hb;rw[A5 (Ws k0),A5 (Ws k0),R0 (by omega) h hb (by omega) hsm.1 ho _ _ hx,AK rfl,Qu (n:=n) hF h hsm.1 ho,AK rfl];refine⟨0,_,_,_,_,rfl,rfl,h1,h2,h3,λ_=>?_⟩;rcases h4 with⟨e1,e2,e3,e4⟩ | ⟨e1,e2,e3⟩
  ·refine .inl ⟨k0,e1,e2,e3,λi hi=>?_⟩;rcases e4 i hi with g | ⟨g1,g2⟩
   ·exact .inl g
   ·exact .inr ⟨g1,by unfold Db;rw[g2],by rw[g2]⟩
  ·exact .inr ⟨λe=>e1 e.2,λid hh=>by rw[e2] at hh;exact hh,λ_=>e2,λi hi=>⟨(e3 i hi).1,by unfold Db;rw[(e3 i hi).2],by rw[(e3 i hi).2]⟩⟩
 ·rw[A0 (Wt k0),A0 (Wt k0)]
  by_cases k2:o.fKind=2
  ·rw[A5 (Ws k2),A5 (Ws k2),O5 (by omega) h (by omega),AK rfl,Nz (by omega) h (by omega),AK rfl];have hun:=Mc q ps idx o.fNow 0;have huq:=Jf h o.fNow 0
   by_cases he:(Cj q ps idx o.fReceipt o.fNow 0).2=0
   ·obtain⟨_,ha,e1,e2,hi⟩:=GQ h he;have hi':(Cj q ps idx o.fReceipt o.fNow 0).1∈C2 q ps idx o.fNow 0:=by rw[e2];exact hi
    simp only[W8 he];refine⟨0,(Cj q ps idx o.fReceipt o.fNow 0).2,_,_,Vg (C2 q ps idx o.fNow 0) (Cj q ps idx o.fReceipt o.fNow 0).1,rfl,rfl,Ug huq hi',hbn hun.2.2 rfl,hun.1,λ_=>.inr ⟨λe=>k0 e.1,λid hh=>?_,λe=>absurd ⟨k2,he⟩ e,λi hi=>⟨Hu (List.mem_filter.1 hi).1,rfl,rfl⟩⟩⟩;have:=U5 huq hi' hh;rw[DB h] at this;exact this
   ·simp only[W6 he];refine⟨0,_,_,_,C2 q ps idx o.fNow 0,rfl,rfl,huq,hbn hun.2.2 rfl,hun.1,λ_=>.inr ⟨λe=>k0 e.1,λid hh=>by rw[DB h] at hh;exact hh,λ_ id=>DB h _ _ id,λi hi=>⟨Hu hi,rfl,rfl⟩⟩⟩
  ·rw[A0 (Wt k2),A0 (Wt k2)]
   by_cases k3:o.fKind=3
   ·rw[A5 (Ws k3),A5 (Ws k3),Ow (by omega) h (by omega),AK rfl,Nx (by omega) h (by omega),AK rfl];have hun:=Mc q ps idx o.fNow o.fN;have huq:=Jf h o.fNow o.fN
    by_cases he:(Cj q ps idx o.fReceipt o.fNow o.fN).2=0
    ·obtain⟨ht,ha,e1,e2,hi⟩:=GQ h he;have hn':=Co ha;have hi':(Cj q ps idx o.fReceipt o.fNow o.fN).1∈C2 q ps idx o.fNow o.fN:=by rw[e2];exact hi
     simp only[W8 he];refine⟨0,_,_,_,C2 q ps idx o.fNow o.fN,rfl,rfl,huq.upd hi' false ⟨by omega,by omega⟩,hbn hun.2.2 (Xg ..),hun.1,λ_=>.inr ⟨λe=>k0 e.1,λid hh=>by rw[DB h] at hh;exact hh,λ_ id=>DB h _ _ id,λi hi2=>⟨Hu hi2,?_,?_⟩⟩⟩
     ·unfold Db;rw[Gf (huq.inr _ hi') (huq.inr i hi2)]
      split
      ·rename_i e;rw[e];rfl
      ·rfl
     ·rw[Gf (huq.inr _ hi') (huq.inr i hi2)]
      split
      ·rename_i e;rw[e];rfl
      ·rfl
    ·simp only[W6 he];refine⟨0,_,_,_,C2 q ps idx o.fNow o.fN,rfl,rfl,huq,hbn hun.2.2 rfl,hun.1,λ_=>.inr ⟨λe=>k0 e.1,λid hh=>by rw[DB h] at hh;exact hh,λ_ id=>DB h _ _ id,λi hi=>⟨Hu hi,rfl,rfl⟩⟩⟩
   ·rw[A0 (Wt k3),A0 (Wt k3)]
    by_cases k4:o.fKind=4
    ·rw[A5 (Ws k4),A5 (Ws k4),O4 (by omega) h (by omega),AK rfl,Ny (by omega) h (by omega),AK rfl];have hun:=Mc q ps idx o.fNow o.fN;have huq:=Jf h o.fNow o.fN
     by_cases he:(Cj q ps idx o.fReceipt o.fNow o.fN).2=0
     ·obtain⟨ht,ha,e1,e2,hi⟩:=GQ h he;have hn':=Co ha;have hi':(Cj q ps idx o.fReceipt o.fNow o.fN).1∈C2 q ps idx o.fNow o.fN:=by rw[e2];exact hi
      simp only[W8 he];refine⟨0,_,_,_,C2 q ps idx o.fNow o.fN,rfl,rfl,huq.upd hi' _ ⟨by omega,by omega⟩,hbn hun.2.2 (Xg ..),hun.1,λ_=>.inr ⟨λe=>k0 e.1,λid hh=>by rw[DB h] at hh;exact hh,λ_ id=>DB h _ _ id,λi hi2=>⟨Hu hi2,?_,?_⟩⟩⟩
      ·unfold Db;rw[Gf (huq.inr _ hi') (huq.inr i hi2)]
       split
       ·rename_i e;rw[e];rfl
       ·rfl
      ·rw[Gf (huq.inr _ hi') (huq.inr i hi2)]
       split
       ·rename_i e;rw[e];rfl
       ·rfl
     ·simp only[W6 he];refine⟨0,_,_,_,C2 q ps idx o.fNow o.fN,rfl,rfl,huq,hbn hun.2.2 rfl,hun.1,λ_=>.inr ⟨λe=>k0 e.1,λid hh=>by rw[DB h] at hh;exact hh,λ_ id=>DB h _ _ id,λi hi=>⟨Hu hi,rfl,rfl⟩⟩⟩
    ·rw[A0 (Wt k4),A0 (Wt k4)]
     by_cases k5:o.fKind=5
     ·obtain⟨k,q',ps',idx',h1,h2,h3,h4,h5⟩:=RE (F:=F) (by omega) h hb hn o.fNow;rw[A5 (Ws k5),A5 (Ws k5),h1,AK rfl,h2,AK rfl];exact⟨k,0,q',ps',idx',rfl,rfl,h3,h4,h5,λe=>absurd k5 e⟩
     ·rw[A0 (Wt k5),A0 (Wt k5)];exact⟨0,0,q,ps,idx,rfl,rfl,h,hbn rfl rfl,rfl,λ_=>.inr ⟨λe=>k0 e.1,λ_ hh=>hh,λ_ _=>rfl,λi hi=>⟨hi,rfl,rfl⟩⟩⟩
theorem Gd:Dj 30000=some true:=by decide +kernel
def Ub (id:Ay)(q:Ah)(ps:List Ab)(idx:List Int)(inn:Bool)(count:Int):Prop:=inn=Cg q id∧∀i∈idx,(Db ps i).fID=id→(Ac ps i).fReceives=count
def VF (id:Ay)(ps:List Ab)(L:List Int)(c:Int):Int:=if (L.any λi=>decide ((Db ps i).fID=id))=true then c+1 else c
theorem T5 {F:Nat}{p:AG}{id:Ay}{q:Ah}{ps:List Ab}{idx L:List Int}(h:QI q ps idx)(hp:q.fPolicy=p)(hn:L.Nodup)(hsub:∀i∈L,i∈idx∧(Ac ps i).fReceives<p.fReceives){t:Int}{r:(List AL)×Ah×(List Ab)}(hr:r.1=DR t ps L)(hL:L.length≤256) :
  ∀(d n j:Nat) (c:Int),j+d=L.length→d<n→(∀i∈L.drop j,(Db ps i).fID=id→(Ac ps i).fReceives=c)→
   BB (λσ=>B0 p id true r σ.1 σ.2) n (c,(j:Int))=some (.go (VF id ps (L.drop j) c,(L.length:Int),false)):=by
 have hl:r.1.length=L.length:=by rw[hr,Ns]
 have hpr:=h.rcs;rw[hp] at hpr;intro d
 induction d with
 | zero=>
  intro n j c hj hm hc;obtain⟨n,rfl⟩:∃k,n=k+1:=⟨n-1,by omega⟩
  have hb:B0 p id true r c (j:Int)=some (.out (.go (c,(j:Int),false))):=by
   unfold B0;rw[hl,A0 (Wt (by omega)),Wt (by omega)]
  rw[BB];simp only[hb];rw[List.drop_of_length_le (by omega),show(j:Int)=(L.length:Int) from by omega];rfl
 | succ d ih=>
  intro n j c hj hm hc;obtain⟨n,rfl⟩:∃k,n=k+1:=⟨n-1,by omega⟩
  have hlt:j<L.length:=by omega
  have hdc:=List.drop_eq_getElem_cons hlt;have hmem:=hsub _ (List.getElem_mem hlt);have hrc:=h.rcv _ hmem.1;have e1:((MC (EY (Ac ps L[j]) t)).fEvent).fID=(Db ps L[j]).fID:=rfl;have e2:(MC (EY (Ac ps L[j]) t)).fCount=(Ac ps L[j]).fReceives+1:=rfl
  by_cases hid:(Db ps L[j]).fID=id
  ·have hcj:(Ac ps L[j]).fReceives=c:=hc _ (by rw[hdc];exact List.mem_cons_self ..) hid;have hb:B0 p id true r c (j:Int)=some (.next (c+1,((j+1:Nat):Int))):=by
    unfold B0 CZ;rw[hl,A5 (Ws (by omega)),Bn (by omega) (by omega),hr,Mm hlt,e1,e2,A5 (Ws hid),AD (by omega) (by omega),A0 (by
     simp only[W1,W7,WN,Bool.not_eq_false',Wp,Wq];omega),AD (by omega) (by omega)]
    rfl
   have hnone:∀i∈L.drop (j+1),(Db ps i).fID≠id:=λi hi e=>by
    have hi':i∈L:=List.mem_of_mem_drop hi;have h4:=h.idne (hsub i hi').1 hmem.1 (e.trans hid.symm);have hnd':(L.drop j).Nodup:=hn.sublist (List.drop_sublist _ _);rw[hdc,List.nodup_cons] at hnd';exact hnd'.1 (h4▸hi)
   rw[BB];simp only[hb];rw[ih n (j+1) (c+1) (by omega) (by omega) (λi hi e=>absurd e (hnone i hi))]
   congr 3
   unfold VF;rw[hdc,List.any_cons,Ws hid,WO,W8 rfl,W6 (λe=>by
    obtain⟨i,hi,e3⟩:=List.any_eq_true.1 e;exact hnone i hi (Xa e3))]
  ·have hb:B0 p id true r c (j:Int)=some (.next (c,((j+1:Nat):Int))):=by
    unfold B0 CZ;rw[hl,A5 (Ws (by omega)),Bn (by omega) (by omega),hr,Mm hlt,e1,A0 (Wt hid),AD (by omega) (by omega)];rfl
   rw[BB];simp only[hb];rw[ih n (j+1) c (by omega) (by omega) (λi hi e=>hc i (by rw[hdc];exact List.mem_cons_of_mem _ hi) e)]
   congr 3
   unfold VF;rw[hdc,List.any_cons,Wt hid,W7]
theorem PC {F:Nat}{p:AG}{id:Ay}{r:(List AL)×Ah×(List Ab)}{ps:List Ab}{L:List Int}{t:Int}(inn:Bool)(hr:r.1=DR t ps L)(hL:L.length≤256)(hF:300<F)(hno:∀i∈L,(Db ps i).fID≠id)(c:Int) :
  BB (λσ=>B0 p id inn r σ.1 σ.2) F (c,0)=some (.go (c,(L.length:Int),false)):=by
 have hl:r.1.length=L.length:=by rw[hr,Ns]
 have key:∀(d n j:Nat),j+d=L.length→d<n→BB (λσ=>B0 p id inn r σ.1 σ.2) n (c,(j:Int))=some (.go (c,(L.length:Int),false)):=by
  intro d
  induction d with
  | zero=>
   intro n j hj hm;obtain⟨n,rfl⟩:∃k,n=k+1:=⟨n-1,by omega⟩
   have hb:B0 p id inn r c (j:Int)=some (.out (.go (c,(j:Int),false))):=by
    unfold B0;rw[hl,A0 (Wt (by omega)),Wt (by omega)]
   rw[BB];simp only[hb];rw[show(j:Int)=(L.length:Int) from by omega]
  | succ d ih=>
   intro n j hj hm;obtain⟨n,rfl⟩:∃k,n=k+1:=⟨n-1,by omega⟩
   have hlt:j<L.length:=by omega
   have e1:((MC (EY (Ac ps L[j]) t)).fEvent).fID=(Db ps L[j]).fID:=rfl;have hb:B0 p id inn r c (j:Int)=some (.next (c,((j+1:Nat):Int))):=by
    unfold B0 CZ;rw[hl,A5 (Ws (by omega)),Bn (by omega) (by omega),hr,Mm hlt,e1,A0 (Wt (hno _ (List.getElem_mem hlt))),AD (by omega) (by omega)];rfl
   rw[BB];simp only[hb];exact ih n (j+1) (by omega) (by omega)
 exact key L.length F 0 (by omega) (by omega)
theorem OM {F n:Nat}(hF:30000≤F){p:AG}{id:Ay}{q:Ah}{ps:List Ab}{idx:List Int}{inn:Bool}{count:Int}(h:QI q ps idx)(hb:QB n q ps)(hp:q.fPolicy=p)(hk:Ub id q ps idx inn count)(now most:Int) :
  ∃r idx' c' z,DC F q ps now most=some r∧BB (λσ=>B0 p id inn r σ.1 σ.2) F (count,0)=some (.go (c',z,false))∧QI r.2.1 r.2.2 idx'∧QB n r.2.1 r.2.2∧r.2.1.fPolicy=p∧Ub id r.2.1 r.2.2 idx' inn c':=by
 obtain⟨h1,h2⟩:=Nf (F:=F) (by omega) h now most
 by_cases hE:Dl q now=0
 ·rw[W8 hE] at h1;obtain⟨hn,hm⟩:=KG h now most;have hq:=h2 hE;have hc:=h.cnt;have hsubI:∀i∈BA q ps idx now,i∈idx:=λi hi=>(List.mem_filter.1 hi).1;have hl:=T2 hn h.nodup λi hi=>hsubI i (hm i hi).1;have hpol:(B1 q ps idx now).fPolicy=p:=hp;have hbr:QB n (B1 q ps idx now) (E9 (now+q.fPolicy.fVisible) (GU q ps idx now most) ps):=⟨hb.1,hb.2.1,by rw[Pp];exact hb.2.2⟩
  have hids:∀i∈BA q ps idx now,(Db (E9 (now+q.fPolicy.fVisible) (GU q ps idx now most) ps) i).fID=(Db ps i).fID:=λi hi=>by
   unfold Db;rw[Oh h (hsubI i hi)];split<;>rfl
  have hin:inn=Cg (B1 q ps idx now) id:=by rw[MN h hE];exact hk.1
  cases hinn:inn with
  | true=>
   have hlow:∀i∈GU q ps idx now most,i∈idx∧(Ac ps i).fReceives<p.fReceives:=λi hi=>by
    obtain⟨g1,g2⟩:=hm i hi;refine⟨hsubI i g1,?_⟩;have ho:=(List.mem_filter.1 g1).2;unfold GH at ho;unfold Je at g2;rw[g2,WB,W5,Wq,hp] at ho;omega
   have hlop:=T5 (F:=F) h hp hn hlow (id:=id) (t:=now+q.fPolicy.fVisible) (r:=(DR (now+q.fPolicy.fVisible) ps (GU q ps idx now most),B1 q ps idx now,E9 (now+q.fPolicy.fVisible) (GU q ps idx now most) ps)) rfl (by omega) (GU q ps idx now most).length F 0 count (by omega) (by omega) (λi hi e=>hk.2 i (hlow i (List.mem_of_mem_drop hi)).1 e);rw[List.drop_zero] at hlop;refine⟨_,BA q ps idx now,_,_,h1,hlop,hq,hbr,hpol,by rw[← hinn];exact hin,λi hi e=>?_⟩;rw[hids i hi] at e;rw[Oh h (hsubI i hi)];have hci:=hk.2 i (hsubI i hi) e;unfold VF
   by_cases hiL:i∈GU q ps idx now most
   ·rw[W8 hiL,W8 (List.any_eq_true.2 ⟨i,hiL,Ws e⟩)];show(Ac ps i).fReceives+1=count+1;omega
   ·rw[W6 hiL,W6 (λhx=>by
     obtain⟨j,hj,e3⟩:=List.any_eq_true.1 hx;have:=h.idne (hsubI j (hm j hj).1) (hsubI i hi) ((Xa e3).trans e.symm);exact hiL (this▸hj))]
    exact hci
  | false=>
   have hno:∀i∈idx,(Db ps i).fID≠id:=λi hi e=>by
    have:Cg q id=true:=(Ex h id).2 (List.mem_append_left _ (List.mem_map.2 ⟨i,hi,e⟩));rw[← hk.1,hinn] at this;cases this
   have hlop:=PC (F:=F) (p:=p) (id:=id) (r:=(DR (now+q.fPolicy.fVisible) ps (GU q ps idx now most),B1 q ps idx now,E9 (now+q.fPolicy.fVisible) (GU q ps idx now most) ps)) (ps:=ps) (L:=GU q ps idx now most) (t:=now+q.fPolicy.fVisible) false rfl (by omega) (by omega) (λi hi=>hno i (hsubI i (hm i hi).1)) count;refine⟨_,BA q ps idx now,count,_,h1,hlop,hq,hbr,hpol,by rw[← hinn];exact hin,λi hi e=>?_⟩;rw[hids i hi] at e;exact absurd e (hno i (hsubI i hi))
 ·rw[W6 hE] at h1;refine⟨_,idx,count,0,h1,?_,h,hb,hp,hk⟩;exact PC (F:=F) (ps:=ps) (L:=[]) (t:=0) inn rfl (by simp) (by omega) (by simp) count
theorem T6 {o:AT}{f:Int}{id:Ay}{q q':Ah}{ps ps':List Ab}{idx idx':List Int}{inn:Bool}{count:Int}(h:QI q ps idx)(hk:Ub id q ps idx inn count)(hw:Um o f q ps idx q' ps' idx') :
  (o.fKind=0∧o.fEvent.fID=id∧f=0∧inn=false∧Cg q' id=true∧Ub id q' ps' idx' true 0)∨
  (¬ (o.fKind=0∧o.fEvent.fID=id∧f=0)∧(Cg q' id=true→inn=true)∧(¬ (o.fKind=2∧f=0)→Cg q' id=inn)∧Ub id q' ps' idx' (Cg q' id) count):=by
 rcases hw with⟨k0,f0,h1,h2,h3⟩ | ⟨h0,h1,h2,h3⟩
 ·by_cases hid:o.fEvent.fID=id
  ·have hh:Cg q' id=true:=by rw[h2,hid];simp
   refine .inl ⟨k0,hid,f0,by rw[hk.1,← hid];exact h1,hh,hh.symm,λi hi e=>?_⟩;rcases h3 i hi with⟨g1,g2⟩ | ⟨g1,g2,g3⟩
   ·exact g2
   ·have:Cg q id=true:=(Ex h id).2 (List.mem_append_left _ (List.mem_map.2 ⟨i,g1,g2.symm.trans e⟩));rw[hid,this] at h1;cases h1
  ·have hh:Cg q' id=Cg q id:=by rw[h2];simp[hid]
   refine .inr ⟨λe=>hid e.2.1,λe=>by rw[hk.1,← hh];exact e,λ_=>by rw[hh,hk.1],rfl,λi hi e=>?_⟩;rcases h3 i hi with⟨g1,g2⟩ | ⟨g1,g2,g3⟩
   ·exact absurd (g1.symm.trans e) hid
   ·rw[g3];exact hk.2 i g1 (g2▸e)
 ·refine .inr ⟨λe=>h0 ⟨e.1,e.2.2⟩,λe=>by rw[hk.1];exact h1 id e,λe=>by rw[h2 e,hk.1],rfl,λi hi e=>?_⟩;obtain⟨g1,g2,g3⟩:=h3 i hi;rw[g3];exact hk.2 i g1 (g2▸e)
theorem PB {F n:Nat}(hF:30000≤F){l:List AT}{id:Ay}{inn:Bool}{count:Int}{q:Ah}{ps:List Ab}{idx:List Int}(h:QI q ps idx)(hb:QB n q ps)(hn:n+256≤1000000)(hk:Ub id q ps idx inn count){j:Nat}(hj:j<l.length)(hl:l.length≤300){o:AT}(hs:IY o=false)(ho:ST o.fEvent)(h5:o.fKind≠5) :
  ∃k f q' ps' idx',Ev F q ps o=some (k,f,q',ps')∧QI q' ps' idx'∧QB (n+256) q' ps'∧q'.fPolicy=q.fPolicy∧∃inn' count',Ub id q' ps' idx' inn' count'∧
   (Bh (((decide (o.fKind=0))&&((decide ((o.fEvent.fID)=id))&&(decide (f=0))))) (Bh inn (some (.out (.ret false))) (Bh (decide (o.fKind=2)) (Bh (decide (f=0)) (Bq (Gx F q' ps' id) λr=>Cw (j:Int) F id (k,f,q',ps') (!r)) (Cw (j:Int) F id (k,f,q',ps') false)) (Cw (j:Int) F id (k,f,q',ps') false)))
    (Bh (decide (o.fKind=2)) (Bh (decide (f=0)) (Bq (Gx F q' ps' id) λr=>BX (j:Int) F id inn count (k,f,q',ps') (!r)) (BX (j:Int) F id inn count (k,f,q',ps') false)) (BX (j:Int) F id inn count (k,f,q',ps') false)))
    =some (.next (inn',count',((j+1:Nat):Int),q'.fPolicy.fVisible,q'.fPolicy.fReceives,q'.fDead,q'.fNow,q'.fArrived,q'.fWaiting,ps')):=by
 obtain⟨k,f,q',ps',idx',e1,_,e3,e4,e5,e6⟩:=QV hF h hb hn hs ho;refine⟨k,f,q',ps',idx',e1,e3,e4,e5,?_⟩;have hu:=Pj (F:=F) (by omega) e3 id;have hj2:∀(a:Bool) (c:Int),BL (j:Int) a c q'.fPolicy.fVisible q'.fPolicy.fReceives q'.fDead q'.fNow q'.fArrived q'.fWaiting ps'=some (.next (a,c,((j+1:Nat):Int),q'.fPolicy.fVisible,q'.fPolicy.fReceives,q'.fDead,q'.fNow,q'.fArrived,q'.fWaiting,ps')):=λa c=>by
  unfold BL;rw[AD (by omega) (by omega)];rfl
 rcases T6 h hk (e6 h5) with⟨k0,k1,k2,k3,k4,k5⟩ | ⟨k0,k1,k2,k3⟩
 ·refine⟨true,0,k5,?_⟩;rw[A5 (by rw[Ws k0,Ws k1,Ws k2];rfl),A0 k3,A0 (Wt (by omega))];unfold Cw;simp only;rw[A0 rfl,hu,AK rfl,k4,A0 (by rfl),hj2]
 ·refine⟨Cg q' id,count,k3,?_⟩;have hc0:((decide (o.fKind=0))&&((decide ((o.fEvent.fID)=id))&&(decide (f=0))))=false:=by
   rw[Bool.eq_false_iff];intro e;simp only[Wu,Wp] at e;exact k0 e
  rw[A0 hc0];have hj8f:Cg q' id=inn→BX (j:Int) F id inn count (k,f,q',ps') false=some (.next (Cg q' id,count,((j+1:Nat):Int),q'.fPolicy.fVisible,q'.fPolicy.fReceives,q'.fDead,q'.fNow,q'.fArrived,q'.fWaiting,ps')):=λe=>by
   unfold BX;simp only;rw[A0 rfl,hu,AK rfl,← e,beq_self_eq_true,A0 (by rfl),hj2]
  by_cases hd:o.fKind=2∧f=0
  ·rw[A5 (Ws hd.1),A5 (Ws hd.2),hu,AK rfl]
   cases hh:Cg q' id with
   | true=>rw[hh] at hj8f;exact hj8f (k1 hh).symm
   | false=>
    unfold BX;simp only;rw[A5 (by rfl),hu,AK rfl,hh,A0 (by rfl),hj2]
  ·have:=hj8f (k2 hd)
   by_cases h2:o.fKind=2
   ·rw[A5 (Ws h2),A0 (Wt (λe=>hd ⟨h2,e⟩))];exact this
   ·rw[A0 (Wt h2)];exact this
theorem ON {F:Nat}(hF:30000≤F){p:AG}{l:List AT}{id:Ay}(hl:l.length≤300)(hs:∀o∈l,IY o=false∧ST o.fEvent):∀(d n j:Nat) (q:Ah) (ps:List Ab) (idx:List Int) (inn:Bool) (count:Int),j+d=l.length→d<n→QI q ps idx→QB (256*j) q ps→q.fPolicy=p→Ub id q ps idx inn count→
  ∃ps',BB (λσ=>BY F p l id σ.1 σ.2.1 σ.2.2.1 σ.2.2.2.1 σ.2.2.2.2.1 σ.2.2.2.2.2.1 σ.2.2.2.2.2.2.1 σ.2.2.2.2.2.2.2.1 σ.2.2.2.2.2.2.2.2.1 σ.2.2.2.2.2.2.2.2.2) n
   (inn,count,(j:Int),q.fPolicy.fVisible,q.fPolicy.fReceives,q.fDead,q.fNow,q.fArrived,q.fWaiting,ps)=some (.go ps'):=by
 intro d
 induction d with
 | zero=>
  intro n j q ps idx inn count h hn hq hb hp hk;obtain⟨n,rfl⟩:∃m,n=m+1:=⟨n-1,by omega⟩
  have hb1:BY F p l id inn count (j:Int) q.fPolicy.fVisible q.fPolicy.fReceives q.fDead q.fNow q.fArrived q.fWaiting ps=some (.out (.go ps)):=by
   unfold BY;rw[Wt (show ¬ (j:Int)<(l.length:Int) by omega),Bk (by rfl),A0 (by rfl)]
  exact⟨ps,by rw[BB];simp only[hb1]⟩
 | succ d ih=>
  intro n j q ps idx inn count h hn hq hb hp hk;obtain⟨n,rfl⟩:∃m,n=m+1:=⟨n-1,by omega⟩
  have hj:j<l.length:=by omega
  have ho:=hs l[j] (List.getElem_mem hj)
  by_cases k5:(l[j]).fKind=5
  ·have hb1:BY F p l id inn count (j:Int) q.fPolicy.fVisible q.fPolicy.fReceives q.fDead q.fNow q.fArrived q.fWaiting ps=some (.out (.go ps)):=by
    unfold BY;rw[M5 (by omega) (by omega),Bk (by unfold imp;simp),DI hj,Ws k5,A0 (by simp)]
   exact⟨ps,by rw[BB];simp only[hb1]⟩
  ·have hbody:∃q' ps' idx' inn' count',BY F p l id inn count (j:Int) q.fPolicy.fVisible q.fPolicy.fReceives q.fDead q.fNow q.fArrived q.fWaiting ps=some (.next (inn',count',((j+1:Nat):Int),q'.fPolicy.fVisible,q'.fPolicy.fReceives,q'.fDead,q'.fNow,q'.fArrived,q'.fWaiting,ps'))∧QI q' ps' idx'∧QB (256*(j+1)) q' ps'∧q'.fPolicy=p∧Ub id q' ps' idx' inn' count':=by
    unfold BY;rw[Ws (show(j:Int)<(l.length:Int) by omega),M5 (by omega) (by omega),Bk (by rfl),DI hj,Wt k5,A5 (by rfl),Bk rfl]
    by_cases k1:(l[j]).fKind=1
    ·obtain⟨r,idx1,c1,z,r1,r2,r3,r4,r5,r6⟩:=OM hF hq hb hp hk (l[j]).fNow (l[j]).fN;have r1':DC F ⟨⟨q.fPolicy.fVisible,q.fPolicy.fReceives⟩,q.fWaiting,q.fDead,q.fNow,q.fArrived⟩ ps (l[j]).fNow (l[j]).fN=some r:=r1;rw[A5 (Ws k1),r1',AK rfl,r2,AK rfl,C4];unfold EF;rw[DI hj];obtain⟨k,f,q2,ps2,idx2,e1,e3,e4,e5,inn',count',e6,e7⟩:=PB (l:=l) hF r3 r4 (by omega) r6 hj hl ho.1 ho.2 k5;have e1':Ev F r.2.1 r.2.2 ⟨(l[j]).fKind,(l[j]).fNow,(l[j]).fN,(l[j]).fEvent,(l[j]).fReceipt⟩=some (k,f,q2,ps2):=e1;rw[e1',AK rfl];refine⟨q2,ps2,idx2,inn',count',?_,e3,by rw[Nat.mul_add];exact e4,e5.trans r5,e6⟩;rw[Wt (show ¬ (l[j]).fKind=0 by omega),Wt (show ¬ (l[j]).fKind=2 by omega)] at e7 ⊢;exact e7
    ·rw[A0 (Wt k1)];obtain⟨k,f,q2,ps2,idx2,e1,e3,e4,e5,inn',count',e6,e7⟩:=PB (l:=l) hF hq hb (by omega) hk hj hl ho.1 ho.2 k5;have e1':Ev F ⟨⟨q.fPolicy.fVisible,q.fPolicy.fReceives⟩,q.fWaiting,q.fDead,q.fNow,q.fArrived⟩ ps ⟨(l[j]).fKind,(l[j]).fNow,(l[j]).fN,(l[j]).fEvent,(l[j]).fReceipt⟩=some (k,f,q2,ps2):=e1;rw[e1',AK rfl];exact⟨q2,ps2,idx2,inn',count',e7,e3,by rw[Nat.mul_add];exact e4,e5.trans hp,e6⟩
   obtain⟨q',ps',idx',inn',count',h1,h2,h3,h4,h5⟩:=hbody;obtain⟨p2,h6⟩:=ih n (j+1) q' ps' idx' inn' count' (by omega) (by omega) h2 h3 h4 h5;exact⟨p2,by rw[BB];simp only[h1];exact h6⟩
theorem NO (p:AG)(l:List AT)(id:Ay)(ho:∀o∈l,ST o.fEvent):IP 30000 p l id=some true:=by
 unfold IP;rw[NN (by omega),Option.isSome_some,Bk rfl,Dq]
 by_cases hb:Gm l=true∧¬ 300<(id.length:Int)
 ·rw[A0 (by rw[hb.1,Wt hb.2];rfl)];have hsm:=OB hb.1;unfold Ix Nk
  by_cases hp:(decide (p.fVisible<1)||(decide (1073741824<p.fVisible)||(decide (p.fReceives<1)||decide (10<p.fReceives))))=true
  ·rw[hp,Gd];rfl
  ·rw[Bool.not_eq_true] at hp;rw[hp,A0 (p:=false) rfl];simp only[WN,Wq] at hp;rw[Option.isSome_some,A5 rfl,AK rfl];have h0:QI ⟨p,[],[],0,0⟩ [] []:=⟨(by show 1≤p.fVisible∧p.fVisible≤1073741824;omega),(by show 1≤p.fReceives∧p.fReceives≤10;omega),Wr _,by simp,List.Pairwise.nil,by simp,List.nodup_nil,(by show(0:Int)≤0∧(0:Int)≤1073741824;omega),by simp,by simp,by simp,by simp,by simp⟩
   obtain⟨ps',h1⟩:=ON (F:=30000) (by decide) (id:=id) hsm.1 (λo h=>⟨hsm.2 o h,ho o h⟩) l.length 30000 0 ⟨p,[],[],0,0⟩ [] [] false 0 (by omega) (by omega) h0 ⟨WJ _,by simp,by simp⟩ rfl ⟨rfl,by simp⟩;have h1':BB (λσ=>BY 30000 p l id σ.1 σ.2.1 σ.2.2.1 σ.2.2.2.1 σ.2.2.2.2.1 σ.2.2.2.2.2.1 σ.2.2.2.2.2.2.1 σ.2.2.2.2.2.2.2.1 σ.2.2.2.2.2.2.2.2.1 σ.2.2.2.2.2.2.2.2.2) 30000 (false,0,0,p.fVisible,p.fReceives,([]:List Ap),0,0,([]:List (Ay×Int)),([]:List Ab))=_:=h1;simp only;rw[h1',AK rfl,C4];unfold EG;rw[Gd];rfl
 ·rw[A5 (by
   rw[WE,W5,Wp]
   cases hs:Gm l with
   | false=>exact .inl rfl
   | true=>exact .inr (by
     by_cases h3:300<(id.length:Int)
     ·exact h3
     ·exact absurd ⟨hs,h3⟩ hb)),Gd];rfl
end Go.Proofs.YthbbedliepkakaaGreatDoor
namespace Go.Proofs.YthbbedliepkakaaGreatDoor.lawQueueKeeps
open Go
set_option linter.unusedVariables false
theorem U9 {o:AT}(h:Q8 o=true):ST o.fEvent:=by
 unfold Q8 Tw at h;simp only[Wu] at h;intro c hc;have h1:=List.all_eq_true.1 h.1.2.2.1 c hc;unfold Sb at h1;simp only[Wu] at h1;exact⟨h1.1.1.2,(H5 h1.2).2⟩
theorem Wf:Wm:=λp l id _ h _=>⟨30000,NO p l id λo ho=>U9 (List.all_eq_true.1 (Bool.and_eq_true_iff.1 h).1 o ho)⟩
end Go.Proofs.YthbbedliepkakaaGreatDoor.lawQueueKeeps
