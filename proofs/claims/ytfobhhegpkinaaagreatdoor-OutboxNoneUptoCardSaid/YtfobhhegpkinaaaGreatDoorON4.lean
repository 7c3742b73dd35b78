/-
  Texts of the proof, put together: Qd, Qi, IdS, Qs, WOd, POe, WOe, OkOutboxNone, LvA, LvB, LvC, LvD, LvE, LvF.
-/
import Derived.Test.YtfobhhegpkinaaaGreatDoorON3
import GoSem.ClaimData
namespace Go.Proofs.YtfobhhegpkinaaaGreatDoor.Q
open Go Go.RowKit
set_option linter.unusedVariables false
set_option linter.unusedSimpArgs false
def Ye:Rp:=⟨λ_ _=>True,λ_ _=>trivial,false,λh=>by cases h⟩
def HB (v:Value)(i:Nat):Value:=match v with
 | .slice A _ cap=>.slice A i cap
 | v=>v
section
variable {P : Program} {n : Nat} {c : Cx} {ops : Array Oper} {Q : Exit → Act → World → Prop} {K : Act → World → Prop} {rest : List Oper} {l : Fr} {H : List Ent} {d : Nat} {d' : Option Nat} {x y z3 z4 : Operand} {ty t e : TypeId} {pos : String} {af : Array Edge} {g : Option (Nat × Bool)} {v : Value} {sz : Nat}
theorem NH:∀(zs:List (List Rp)) (k:Nat),(∀c∈zs,c.length=sz)→(zs.take k).flatten=zs.flatten.take (k*sz):=by
 intro zs
 induction zs with
 | nil=>intro k _;simp
 | cons z zs ih=>
  intro k hk
  cases k with
  | zero=>simp
  | succ k=>
   have hzl:=hk z (by simp);simp only[List.take_succ_cons,List.flatten_cons];rw[ih k (λc hc=>hk c (by simp[hc]))];have e1:(k+1)*sz=z.length+k*sz:=by rw[hzl,Nat.succ_mul];omega
   rw[e1,List.take_length_add_append]
theorem On:∀(zs:List (List Rp)) (k:Nat),(∀c∈zs,c.length=sz)→(zs.drop k).flatten=zs.flatten.drop (k*sz):=by
 intro zs
 induction zs with
 | nil=>intro k _;simp
 | cons z zs ih=>
  intro k hk
  cases k with
  | zero=>simp
  | succ k=>
   have hzl:=hk z (by simp);simp only[List.drop_succ_cons,List.flatten_cons];rw[ih k (λc hc=>hk c (by simp[hc]))];have e1:(k+1)*sz=z.length+k*sz:=by rw[hzl,Nat.succ_mul];omega
   rw[e1,List.drop_length_add_append]
theorem OI {α:Type}{ys:List α}{enc:α→List Rp}{i:Nat}{k1 k2 k3:IntKind}{a0 b0 m0:Int}(ht:P.underlying t=some (.slice e))(hz:∀w,(sizeOf e).run P w = .ok sz w)(hx:ev l x=some (rv v))(h1:ev l y=some (rI k1 a0))(h2:ev l z3=some (rI k2 b0))(h3:ev l z4=some (rI k3 m0))(hi:H[i]? =some (.row v e sz (ys.map enc)))(g1:Ep a0 b0=true)(g2:Ep b0 m0=true)(g3:Ep m0 (ys.length:Int)=true) :
  Be P n c l H { dst:=d',op:=.slice t x (some y) (some z3) (some z4),type:=ty,pos:=pos,after:=af,guard:=g } Ye:=λa w Z ha hw=>by
 obtain⟨_,us,⟨_,q2⟩,_⟩:=hw.ent hi;have a1:=(BH g1).1;have a2:=(BH g1).2;have a3:=(BH g2).2;have a4:=(BH g3).2;have b1:0≤b0:=by omega
 have b2:0≤m0:=by omega
 rcases q2 with⟨rfl,hz0⟩ | ⟨b,cap,cur,rfl,_,hb,hcap,hm,hcs,htk⟩
 ·simp only[Zw] at hz0;have c1:m0≤(0:Nat):=by omega
  have c2:b0≤(m0.toNat:Nat):=by omega
  have c3:a0≤(b0.toNat:Nat):=by omega
  have z1:m0=0:=by omega
  have z2:b0=0:=by omega
  have z3':a0=0:=by omega
  subst z1 z2 z3';exact⟨.slice none 0 0,trivial,by simp[execOp,ha.eval hx,ha.eval h1,ha.eval h2,ha.eval h3,Instr.sliceAt,Instr.slice,run_underlying ht,Instr.sliceBounds,Bb (m:=0) _ _ (ZJ 0) (ZJ 0),hz]⟩
 ·simp only[Zw] at hcap;have c1:m0≤(cap:Nat):=by omega
  have c2:b0≤(m0.toNat:Nat):=by omega
  have c3:a0≤(b0.toNat:Nat):=by omega
  refine⟨.slice (if m0.toNat=a0.toNat then some ⟨b,0,none⟩ else(some (⟨b,0,none⟩:Addr)).map (·.add (a0.toNat*sz))) (b0.toNat-a0.toNat) (m0.toNat-a0.toNat),trivial,?_⟩;simp[execOp,ha.eval hx,ha.eval h1,ha.eval h2,ha.eval h3,Instr.sliceAt,Instr.slice,run_underlying ht,Instr.sliceBounds,Bb (m:=cap) _ _ b2 c1,Bb (m:=m0.toNat) _ _ b1 c2,Bb (m:=b0.toNat) _ _ a1 c3,hz]
theorem Xz {α:Type}{ys:List α}{enc:α→List Rp}{i:Nat}{k:IntKind}{j:Int}(ht:P.underlying t=some (.slice e))(hz:∀w,(sizeOf e).run P w = .ok sz w)(hx:ev l x=some (rv v))(hy:ev l y=some (rI k j))(hi:H[i]? =some (.row v e sz (ys.map enc)))(hg:Ep j (ys.length:Int)=true) :
  Be P n c l H { dst:=d',op:=.slice t x none (some y) none,type:=ty,pos:=pos,after:=af,guard:=g } (rv (HB v j.toNat)):=λa w Z ha hw=>CG<|by
 obtain⟨_,us,⟨_,q2⟩,_⟩:=hw.ent hi;have g0:=(BH hg).1;have g1:=(BH hg).2;rcases q2 with⟨rfl,hz0⟩ | ⟨b,cap,cur,rfl,_,hb,hcap,hm,hcs,htk⟩
 ·simp at hz0;subst hz0;obtain rfl:j=0:=by simp at g1;omega
  simp[execOp,ha.eval hx,ha.eval hy,Instr.sliceAt,Instr.slice,run_underlying ht,Instr.sliceBounds,Bb (m:=0) _ _ (ZJ 0) (ZJ 0),hz,HB]
 ·simp only[Zw] at hcap;have hjc:j≤(cap:Int):=by omega
  simp[execOp,ha.eval hx,ha.eval hy,Instr.sliceAt,Instr.slice,run_underlying ht,Instr.sliceBounds,Bb (m:=cap) _ _ g0 hjc,hz,HB];intro _;rfl
theorem UB {α:Type}{ys:List α}{enc:α→List Rp}{i k:Nat}(ht:P.underlying t=some (.slice e))(h:ev l x=some (rv (HB v k)))(hk:k≤ys.length){e':TypeId}(hi:H[i]? =some (.row v e' sz (ys.map enc))):Be P n c l H { dst:=d',op:=.call { callee:=.builtin .len,args:=#[x],argTypes:=#[t] },type:=ty,pos:=pos,after:=af,guard:=g } (rI .i64 k):=λa w Z ha hw=>CG<|by
 obtain⟨_,us,⟨_,h2⟩,_⟩:=hw.ent hi;rcases h2 with⟨rfl,hz⟩ | ⟨b,cap,cur,rfl,_⟩
 ·simp at hz;subst hz;obtain rfl:k=0:=by simpa using hk
  simp[execOp,resolve,invoke,builtin,ha.eval h,Builtin.len_,run_underlying ht,goInt,HB]
 ·simp[execOp,resolve,invoke,builtin,ha.eval h,Builtin.len_,run_underlying ht,goInt,HB]
theorem UD {α:Type}{ys:List α}{enc:α→List Rp}{i k:Nat}{k1 k2:IntKind}{a0 b0:Int}(ht:P.underlying t=some (.slice e))(hz:∀w,(sizeOf e).run P w = .ok sz w)(h:ev l x=some (rv (HB v k)))(h1:ev l y=some (rI k1 a0))(h2:ev l z3=some (rI k2 b0))(hi:H[i]? =some (.row v e sz (ys.map enc)))(hb0:b0=(ys.length:Int))(hg:Ep a0 b0=true) :
  Be P n c l H { dst:=d',op:=.slice t x (some y) (some z3) none,type:=ty,pos:=pos,after:=af,guard:=g } (rv (Hl sz v a0.toNat)):=λa w Z ha hw=>CG<|by
 obtain⟨_,us,⟨_,q2⟩,_⟩:=hw.ent hi;have g0:=(BH hg).1;have g1:=(BH hg).2;have gb:0≤b0:=by omega
 rcases q2 with⟨rfl,hz0⟩ | ⟨b,cap,cur,rfl,_,hb,hcap,hm,hcs,htk⟩
 ·simp at hz0;subst hz0;simp at hb0;subst hb0;obtain rfl:a0=0:=by omega
  simp[execOp,ha.eval h,ha.eval h1,ha.eval h2,Instr.sliceAt,Instr.slice,run_underlying ht,Instr.sliceBounds,Bb (m:=0) _ _ (ZJ 0) (ZJ 0),hz,HB,Hl]
 ·simp only[Zw] at hcap;have c1:b0≤(cap:Nat):=by omega
  have c2:a0≤(b0.toNat:Nat):=by omega
  have hbn:b0.toNat=ys.length:=by omega
  simp[execOp,ha.eval h,ha.eval h1,ha.eval h2,Instr.sliceAt,Instr.slice,run_underlying ht,Instr.sliceBounds,Bb (m:=cap) _ _ gb c1,Bb (m:=b0.toNat) _ _ g0 c2,Bb (m:=ys.length) _ _ g0 (show a0≤((ys.length:Nat):Int) by omega),hz,HB,Hl,hbn]
theorem St.cut {Z:Fz}{w:World}{α:Type}{ys:List α}{enc:α→List Rp}{i k:Nat}(hw:St c H Z w)(hi:H[i]? =some (.row v e sz (ys.map enc)))(hk:k≤ys.length):St c (H.set i (.row (HB v k) e sz ((ys.take k).map enc))) Z w:=by
 obtain⟨h0,us,⟨h1,h2⟩,h3⟩:=hw.ent hi;rcases h2 with⟨rfl,hz0⟩ | ⟨b,cap,cur,rfl,_,hb,hcap,hm,hcs,htk⟩
 ·simp at hz0;subst hz0;obtain rfl:k=0:=by simpa using hk
  exact hw.set hi rfl rfl rfl (ZC _) (λ_ _ _=>rfl) ⟨by simp,[],⟨by simp,.inl ⟨rfl,by simp⟩⟩,trivial⟩ (by simp[Ent.foot,Value.ownBlock,HB])
 ·simp only[Zw] at h1 hcap htk;refine hw.set hi rfl rfl rfl (ZC _) (λ_ _ _=>rfl) ⟨λcl hcl=>?_,us.take (k*sz),⟨?_,.inr ⟨b,cap,cur,?_,ZV _,hb,?_,hm,hcs,?_⟩⟩,?_⟩ (by simp[Ent.foot,Value.ownBlock,HB])
  ·rw[List.map_take] at hcl;exact h0 cl (List.mem_of_mem_take hcl)
  ·rw[ZY,h1,Zw,ZY,Nat.min_eq_left hk];exact Nat.min_eq_left (Nat.mul_le_mul_right _ hk)
  ·simp[Nat.min_eq_left hk,HB]
  ·simp;omega
  ·rw[Zw,ZY,Nat.min_eq_left hk,← htk,List.take_take,Nat.min_eq_left (Nat.mul_le_mul_right _ hk)]
  ·rw[List.map_take,NH _ _ h0];exact h3.take _
theorem WK.cut {α:Type}{ys:List α}{enc:α→List Rp}(i k:Nat)(hi:H[i]? =some (.row v e sz (ys.map enc)))(hk:k≤ys.length)(h:WK n c K l (H.set i (.row (HB v k) e sz ((ys.take k).map enc)))):WK n c K l H:=λa w Z ha hw=>h a w Z ha (hw.cut hi hk)
theorem VV {α:Type}{ys:List α}{enc:α→List Rp}{i:Nat}{a0 b0:Int}{inf:TypeInfo}(ht:P.underlying t=some (.slice e))(hinf:P.info? e=some inf)(hsize:inf.size=sz)(hsz:Nat.blt 0 sz=true)
  (hx:ev l x=some (rv (HB v a0.toNat))) (hy:ev l y=some (rv (Hl sz v b0.toNat))) (hi:H[i]? =some (.row v e sz (ys.map enc))) (henc:∀z,(enc z).length=sz) (hone:∀z,(enc z).all (·.one)=true) (g1:Ep a0 b0=true) (g2:Ep b0 (ys.length:Int)=true) (hn:Nat.blt d n=true)
  (h:WL P n c ops Q rest ((d,rv (HB v (a0.toNat+(ys.length-b0.toNat))))::l) (H.set i (.row v e sz ((ys.take a0.toNat++ys.drop b0.toNat++ys.drop (a0.toNat+(ys.length-b0.toNat))).map enc)))) :
  WL P n c ops Q ({ dst:=some d,op:=.call { callee:=.builtin .append,args:=#[x,y],argTypes:=#[t,t] },type:=ty,pos:=pos,after:=af,guard:=none }::rest) l H:=
 Iz (λa w Z ha hw=>by
  obtain⟨h0,us,⟨h1,h2⟩,h3⟩:=hw.ent hi;have p1:=(BH g1).1;have p2:=(BH g1).2;have p3:=(BH g2).2;have hsz':0<sz:=by simpa using hsz
  rcases h2 with⟨rfl,hz0⟩ | ⟨b,cap,cur,rfl,_,hb,hcap,hm,hcs,htk⟩
  ·simp at hz0;subst hz0;obtain rfl:b0=0:=by simp at p3;omega
   obtain rfl:a0=0:=by omega
   have e1:=run_append_owned_none (P:=P) (w:=w) (base:=0) t ty e inf sz ht hinf (.slice none 0 0) 0 [] (World.ownsRow_nil w _ e sz);refine⟨.slice none 0 0,w,_,_,Z,?_,Fz.le.refl _,rfl,?_,h⟩
   ·simp[execOp,resolve,invoke,builtin,ha.eval hx,ha.eval hy,HB,Hl,e1]
   ·have:H.set i (.row (.slice none 0 0) e sz ((([]:List α).take (0:Int).toNat++([]:List α).drop (0:Int).toNat++([]:List α).drop ((0:Int).toNat+(([]:List α).length-(0:Int).toNat))).map enc))=H:=by
     obtain⟨hl,he⟩:=List.getElem?_eq_some_iff.1 hi;simp only[List.take_nil,List.drop_nil,Aag];rw[← he,List.set_getElem_self]
    rw[this];exact hw
  ·simp only[Zw] at h1 hcap htk;have q1:a0.toNat≤b0.toNat:=by omega
   have q2:b0.toNat≤ys.length:=by omega
   generalize a0.toNat=A at *;generalize b0.toNat=B at *;have hAl:A*sz≤ys.length*sz:=Nat.mul_le_mul_right _ (by omega);have hBl:B*sz≤ys.length*sz:=Nat.mul_le_mul_right _ q2;have hlc:ys.length*sz≤cap*sz:=Nat.mul_le_mul_right _ hcap;have hnl:(us.drop (B*sz)).length=(ys.length-B)*sz:=by rw[ZS,h1,Nat.sub_mul]
   have hsum:A*sz+(ys.length-B)*sz≤ys.length*sz:=by rw[← Nat.add_mul];exact Nat.mul_le_mul_right _ (by omega)
   have hN:(A+(ys.length-B))*sz=A*sz+(ys.length-B)*sz:=Nat.add_mul _ _ _;have hus1:∀u∈us,u.oneCell'=true:=Bd.one (rs:=(ys.map enc).flatten) (by
    rw[ZQ];intro r hr;obtain⟨cl,hcl,hrc⟩:=List.mem_flatten.1 hr;obtain⟨z',_,rfl⟩:=List.mem_map.1 hcl;exact List.all_eq_true.1 (hone z') r hrc) h3
   have hcell:∀j u,us[j]? =some u→w.cell? ((⟨b,0,none⟩:Addr).add j)=some u:=World.ownsRow.cells (g:=b) (w:=w) (base:=0) (e:=e) (size:=sz) (v:=.slice (some ⟨b,0,none⟩) ys.length cap) (n:=ys.length) (xs:=us) ⟨h1,.inr ⟨b,cap,cur,rfl,ZV _,hb,hcap,hm,hcs,htk⟩⟩ rfl;obtain⟨T,hT,hTc⟩:∃T:Addr,Hl sz (.slice (some ⟨b,0,none⟩) ys.length cap) B = .slice (some T) (ys.length-B) (cap-B)∧∀j u,(us.drop (B*sz))[j]? =some u→w.cell? (T.add j)=some u:=by
    by_cases hcB:cap=B
    ·refine⟨⟨b,0,none⟩,by simp[Hl,hcB],λj u hu=>?_⟩;have:(us.drop (B*sz)).length=0:=by rw[hnl,show ys.length-B=0 by omega];simp
     rw[List.length_eq_zero_iff.1 this] at hu;simp at hu
    ·refine⟨⟨b,B*sz,none⟩,by simp[Hl,hcB,G4],λj u hu=>?_⟩;rw[List.getElem?_drop] at hu;have:=hcell _ _ hu;rw[G4] at this ⊢;simpa using this
   have e1:=run_append_room (P:=P) (w:=w) t ty e inf ht hinf b A cap cur hb T (ys.length-B) (cap-B) (us.drop (B*sz)) (by rw[hsize];exact hnl) hTc (λu hu=>hus1 u (List.mem_of_mem_drop hu)) (by omega) (by rw[hsize,hnl,hcs];omega);rw[hsize,hnl] at e1;have hcu:cur.toList.take (A*sz)=us.take (A*sz):=by rw[← htk,List.take_take,Nat.min_eq_left hAl]
   have hcd:(cur.toList.drop (A*sz+(ys.length-B)*sz)).take (ys.length*sz-(A*sz+(ys.length-B)*sz))=us.drop (A*sz+(ys.length-B)*sz):=by rw[← htk,List.drop_take]
   have hcl2:cur.toList.length=cap*sz:=by rw[Array.length_toList,hcs]
   have hl1:(us.take (A*sz)).length=A*sz:=by rw[ZY,h1];exact Nat.min_eq_left hAl
   refine⟨.slice (some ⟨b,0,none⟩) (A+(ys.length-B)) cap,w.setRow b (cur.toList.take (A*sz)++us.drop (B*sz)++cur.toList.drop (A*sz+(ys.length-B)*sz)).toArray,_,_,Z,?_,Fz.le.refl _,rfl,?_,h⟩
   ·have ex:a.eval x = .slice (some ⟨b,0,none⟩) A cap:=by rw[ha.eval hx];rfl
    have ey:a.eval y = .slice (some T) (ys.length-B) (cap-B):=by rw[ha.eval hy,Zw];exact hT
    simp[execOp,resolve,invoke,builtin,ex,ey,e1]
   ·refine hw.set hi rfl rfl rfl (by simp[World.setRow]) (λk _ hk=>?_) ⟨?_,us.take (A*sz)++us.drop (B*sz)++us.drop (A*sz+(ys.length-B)*sz),⟨?_,.inr ⟨b,cap,_,?_,ZV _,setRow_heap w b cur _ e (0,0) hb,?_,hm,?_,?_⟩⟩,?_⟩ (by simp[Ent.foot,Value.ownBlock])
    ·simp only[Ent.foot,Value.ownBlock,Option.mem_toList,Option.mem_def,Option.some.injEq] at hk;simp only[World.setRow,Array.getElem?_modify];rw[Aaa hk]
    ·intro cl hcl;obtain⟨z',_,rfl⟩:=List.mem_map.1 hcl;exact henc z'
    ·rw[Zs,Zs,hl1,hnl,ZS,h1,Zw,Zs,Zs,ZY,ZS,ZS,Nat.min_eq_left (by omega),Nat.add_mul,Nat.add_mul,Nat.sub_mul ys.length (A+_),hN]
    ·congr 1
     simp;omega
    ·simp;omega
    ·rw[List.size_toArray,Zs,Zs,hcu,hl1,hnl,ZS,hcl2];omega
    ·rw[hcu];have e5:((ys.take A++ys.drop B++ys.drop (A+(ys.length-B))).map enc).length*sz=(us.take (A*sz)++us.drop (B*sz)).length+(ys.length*sz-(A*sz+(ys.length-B)*sz)):=by
      rw[Zs,hl1,hnl,Zw,Zs,Zs,ZY,ZS,ZS,Nat.min_eq_left (by omega),Nat.add_mul,Nat.add_mul,Nat.sub_mul ys.length (A+_),hN]
     rw[e5,List.take_length_add_append,hcd]
    ·rw[Aaf,Aaf,List.flatten_append,List.flatten_append,List.map_take,List.map_drop,List.map_drop,NH _ _ h0,On _ _ h0,On _ _ h0,hN];exact((h3.take _).append (h3.drop _)).append (h3.drop _)) hn
theorem NJ {α:Type}{ys:List α}{a0 b0:Int}(g1:Ep a0 b0=true)(g2:Ep b0 (ys.length:Int)=true):a0.toNat+(ys.length-b0.toNat)≤ys.length:=by
 have p1:=(BH g1).1;have p2:=(BH g1).2;have p3:=(BH g2).2;omega
theorem KO {α:Type}{ys:List α}{a0 b0:Int}(g1:Ep a0 b0=true)(g2:Ep b0 (ys.length:Int)=true):(ys.take a0.toNat++ys.drop b0.toNat++ys.drop (a0.toNat+(ys.length-b0.toNat))).length=ys.length:=by
 have h:=NJ g1 g2;have p1:=(BH g1).1;have p2:=(BH g1).2;have p3:=(BH g2).2;rw[Zs,Zs,ZY,ZS,ZS];omega
theorem PE {α:Type}{ys:List α}{a0 b0:Int}(g1:Ep a0 b0=true)(g2:Ep b0 (ys.length:Int)=true):a0.toNat+(ys.length-b0.toNat)≤(ys.take a0.toNat++ys.drop b0.toNat++ys.drop (a0.toNat+(ys.length-b0.toNat))).length:=by
 rw[KO g1 g2];exact NJ g1 g2
theorem Wb {α:Type}{ys:List α}{a0 b0:Int}(g1:Ep a0 b0=true)(g2:Ep b0 (ys.length:Int)=true):(ys.length:Int)=((ys.take a0.toNat++ys.drop b0.toNat++ys.drop (a0.toNat+(ys.length-b0.toNat))).length:Int):=by
 rw[KO g1 g2]
theorem Wc {α:Type}{ys:List α}{a0 b0 j:Int}(g1:Ep a0 b0=true)(g2:Ep b0 (ys.length:Int)=true)(g:Ep j (ys.length:Int)=true):Ep j ((ys.take a0.toNat++ys.drop b0.toNat++ys.drop (a0.toNat+(ys.length-b0.toNat))).length:Int)=true:=by
 rw[KO g1 g2];exact g
theorem XL {α:Type}{E:List α}{k m:Nat}{z:α}(h:k≤E.length):k≤(E.take m++List.replicate (E.length-m) z).length:=by
 rw[Zs,ZY,List.length_replicate];omega
end
theorem MB {P:Program}(w:World)(ty:TypeId)(it:Nat)(h:w.heap[it]? =some (.mapIter none 0 #[] 0)):(Instr.next (.pointer (some ⟨it,0,none⟩)) false ty).run P w = .ok (.tuple #[.bool false]) w:=by
 simp only[Instr.next,getObj,Sem.run_bind,Sem.run,h,Result.andThen];rfl
section
variable {P : Program} {n : Nat} {c : Cx} {ops : Array Oper} {Q : Exit → Act → World → Prop} {rest : List Oper} {l : Fr} {H : List Ent} {d : Nat} {ty t kt et rty : TypeId} {pos : String} {af : Array Edge} {x y u : Operand} {K : Act → World → Prop} {cx : Code}
variable {T : Type} {enc : T → Rp} {xs ys : List (An × T)} {i b it : Nat} {m lf : List (List UInt8 × Rp)} {cur : Option (List UInt8 × Rp)} {k : An} {r : Rp}
theorem Mu (ht:P.underlying t=some (.map kt et))(hx:ev l x=some (KI m))(hn:Nat.blt d n=true)(h:∀it,WL P n c ops Q rest ((d,rv (.pointer (some ⟨it,0,none⟩)))::l) (.itz it m m none::H)) :
  WL P n c ops Q ({ dst:=some d,op:=.range t x,type:=ty,pos:=pos,after:=af,guard:=none }::rest) l H:=
 Iz (λa w Z ha hw=>by
  rcases ha.ev hx with⟨e1,e2⟩ | ⟨b,es,ck,e1,e2,h2⟩
  ·refine⟨.pointer (some ⟨w.heap.size,0,none⟩),w.alloc (.mapIter none 0 #[] 0),_,_,Z,?_,Fz.le.refl _,rfl,hw.alloc _ (e:=.itz w.heap.size m m none) (.inl ⟨by simpa using heap_alloc_new w _,e2,e2,rfl⟩) (by simp[Ent.foot]),h w.heap.size⟩;simp[execOp,e1,run_range_nilMap w t kt et ht]
  ·have h1:w.heap[b]? =some (.map es ck):=hw.frz b _ e2;have hb:b<w.heap.size:=(Array.getElem?_eq_some_iff.1 h1).1;have hf:es.toList.filter (λe=>!(#[]:Array Nat).contains e.born)=es.toList:=List.filter_eq_self.2 λ_ _=>by simp
   obtain⟨f,h4,h5⟩:=h2.2.2.2;refine⟨.pointer (some ⟨w.heap.size,0,none⟩),w.alloc (.mapIter (some b) ck #[] ck),_,_,Z,?_,Fz.le.refl _,rfl,hw.alloc _ (e:=.itz w.heap.size m m none) (.inr ⟨b,es,ck,#[],ck,ck,e2,by simpa using heap_alloc_new w _,h2,h2.2.2.1,ZC _,ZC _,⟨f,h4,by rw[hf];exact h5⟩,trivial⟩) (by simp[Ent.foot]),h w.heap.size⟩;simp[execOp,e1,run_range_map w t kt et b es ck ht h1]) hn
theorem Oy (hx:ev l x=some (rv (.pointer (some ⟨it,0,none⟩))))(hi:H[i]? =some (.itz it m (A8 enc ys) cur))(hn:Nat.blt d n=true)
  (h0:ys=[]→WL P n c ops Q rest ((d,Cn [rB false])::l) H)
  (h1:∀p ys',ys.Perm (p::ys')→WL P n c ops Q rest ((d,Cn [rB true,rS p.1,enc p.2])::l) (H.set i (.itz it m (A8 enc ys') (some (p.1,enc p.2))))) :
  WL P n c ops Q ({ dst:=some d,op:=.next x false,type:=ty,pos:=pos,after:=af,guard:=none }::rest) l H:=
 Iz (λa w Z ha hw=>by
  rcases hw.ent hi with⟨q2,_,q8,_⟩ | ⟨b,es,ck,seen,since,c0,qz,q2,q3,q4,q5,q6,⟨f,q8,q9⟩,_⟩
  ·have hy:ys=[]:=by
    have:=congrArg List.length q8;rw[EN] at this;exact Z9 this
   exact⟨.tuple #[.bool false],w,Cn [rB false],H,Z,by simp[execOp,ha.eval hx,MB w ty it q2],Fz.le.refl _,⟨[.bool false],rfl,rfl,trivial⟩,hw,h0 hy⟩
  have q1:w.heap[b]? =some (.map es ck):=hw.frz b _ qz;have q7:b≠it:=λe=>by subst e;rw[q1] at q2;cases q2
  have hlf:(leftOf es seen).toList=es.toList.filter λe=>!seen.contains e.born:=by simp[leftOf]
  rcases run_next_at (P:=P) w ty it b since c0 seen es ck q2 q1 q4 q5 with⟨r1,r2⟩ | ⟨e,r1,w1,r2,r3⟩
  ·have he:es.toList.filter (λe=>!seen.contains e.born)=[]:=by rw[← hlf];exact Z9 (by simpa using r1)
   rw[he] at q9;have hf:f=[]:=by cases f with
    | nil=>rfl
    | cons _ _=>exact absurd q9 id
   subst hf;have hy:ys=[]:=by
    have:=q8.length_eq;rw[EN] at this;exact Z9 this.symm
   exact⟨.tuple #[.bool false],w,Cn [rB false],H,Z,by simp[execOp,ha.eval hx,r2],Fz.le.refl _,⟨[.bool false],rfl,rfl,trivial⟩,hw,h0 hy⟩
  ·rw[hlf] at r1;obtain⟨j,hj⟩:=List.mem_iff_getElem?.1 r1;obtain⟨k,r,e1,e2,e3⟩:=q9.at.2 j e hj;obtain⟨p,ys',s1,s2,s3,s4⟩:=Uw q8 e1;have hnl:((es.toList.filter λe=>!seen.contains e.born).map (·.born)).Nodup:=q3.2.1.sublist ((List.filter_sublist ..).map _);have hleft:es.toList.filter (λx=>!(seen.push e.born).contains x.born)=(es.toList.filter λe=>!seen.contains e.born).eraseIdx j:=by
    rw[← KD (q:=λ_=>true) hnl hj,List.filter_filter];refine List.filter_congr λx _=>?_;simp only[Array.contains_push,Bool.not_or];rw[Bool.and_comm]
   have hd:St c H Z w1:=by
    rcases r2 with rfl | rfl
    ·exact hw
    ·exact hw.drawn _
   have q2':w1.heap[it]? =some (.mapIter (some b) since seen c0):=by rcases r2 with rfl | rfl<;>exact q2
   have q1':w1.heap[b]? =some (.map es ck):=by rcases r2 with rfl | rfl<;>exact q1
   obtain⟨t1,t2⟩:=MapKept.heap_set (o':=.mapIter (some b) since (seen.push e.born) ck) q2';refine⟨.tuple #[.bool true,e.key,e.val],ChangeMaps.setBlock w1 it (.mapIter (some b) since (seen.push e.born) ck),Cn [rB true,rS p.1,enc p.2],H.set i (.itz it m (A8 enc ys') (some (p.1,enc p.2))),Z,by simp[execOp,ha.eval hx,r3],Fz.le.refl _,⟨[.bool true,e.key,e.val],rfl,rfl,?_,?_,trivial⟩,hd.set hi rfl rfl rfl (by simp[ChangeMaps.setBlock]) (λk' _ hk'=>t2 k' (λe'=>hk' (by simp[Ent.foot,e']))) ?_ (λk' hk'=>.inl (by simpa[Ent.foot] using hk')),h1 p ys' s1⟩
   ·show e.key = .string (B p.1);rw[s2];exact e2
   ·rw[s3];exact e3
   ·exact .inr ⟨b,es,ck,seen.push e.born,since,ck,qz,t1,q3,q4,Nat.le_trans q5 q6,ZC _,⟨f.eraseIdx j,s4,by rw[hleft];exact q9.erase j⟩,rfl,seen,e,rfl,(List.mem_filter.1 r1).1,by rw[s2];exact e2,by rw[s3];exact e3⟩) hn
theorem St.uncurz {Z:Fz}{w:World}(h:St c H Z w)(hi:H[i]? =some (.itz it m lf cur)):St c (H.set i (.itz it m lf none)) Z w:=by
 refine h.set hi rfl rfl rfl (ZC _) (λ_ _ _=>rfl) ?_ (λk hk=>.inl (by simpa[Ent.foot] using hk));rcases h.ent hi with⟨q1,q2,q3,_⟩ | ⟨b,es,ck,seen,since,c0,q1,q2,q3,q4,q5,q6,q8,_⟩
 ·exact .inl ⟨q1,q2,q3,rfl⟩
 ·exact .inr ⟨b,es,ck,seen,since,c0,q1,q2,q3,q4,q5,q6,q8,trivial⟩
theorem WK.uncurz (hi:H[i]? =some (.itz it m lf cur))(h:WK n c K l (H.set i (.itz it m lf none))):WK n c K l H:=λa w Z ha hw=>h a w Z ha (hw.uncurz hi)
theorem MK {dd:Option Nat}{g:Option (Nat×Bool)}(hx:ev l x=some (rv (.pointer (some ⟨it,0,none⟩))))(hi:H[i]? =some (.itz it m lf (some (k,r)))) :
  Be P n c l H { dst:=dd,op:=.entry x,type:=ty,pos:=pos,after:=af,guard:=g } (Cn [rS k,r]):=λa w Z ha hw=>by
 rcases hw.ent hi with⟨_,_,_,q⟩ | ⟨b,es,ck,seen,since,c0,qz,q2,q3,q4,q5,q6,q8,rfl,s0,e,rfl,h1,h2,h3⟩
 ·cases q
 have q1:w.heap[b]? =some (.map es _):=hw.frz b _ qz;exact⟨.tuple #[e.key,e.val],⟨[e.key,e.val],rfl,h2,h3,trivial⟩,by simp[execOp,ha.eval hx,run_entry_at w it b since s0 es c0 e q2 q1 h1 q3.2.1]⟩
end
end Go.Proofs.YtfobhhegpkinaaaGreatDoor.Q
namespace Go.Proofs.YtfobhhegpkinaaaGreatDoor
open Go Go.RowKit
set_option linter.unusedVariables false
set_option linter.unusedSimpArgs false
set_option maxRecDepth 100000
theorem Uh (v:Value)(ss:List (List UInt8))(hl:ss.length≤8796093022208)(w:World)(hv:Np w v ss):Calls Tryz.prog 45 [v].toArray w (TE w [] (λu H=>H=[.row u 9 1 (Bz ss).length ((Bz ss).map encStr)])):=by
 refine Gz (n:=10) Tryz.func45 rfl Tryz.ntmps45 rfl (Aq (At (AC (A7 rfl) rfl (Av (A5 (AY ?_))))));refine Aq (At (AC (Aw rfl) rfl (R8 Tryz.call43 rfl (λw hw=>WO v ss (by first | assumption | (simp;assumption)) w (hv.st0 hw)) rfl ?_)));rintro ha _ rfl;refine AC (A7 rfl) rfl (Av (A5 (AY ?_)));refine Aq (At (AC (Aw rfl) rfl (R9 (i:=0) Tryz.call77 rfl rfl (λw hw he=>Xo ha ss (by first | assumption | (simp;assumption)) w he) rfl ?_)));rintro _ _ ⟨rfl,rfl⟩;refine Av (A5 (AY ?_));refine Aq (At (AC (Aw rfl) rfl (R9 (i:=0) Tryz.call78 rfl rfl (λw hw he=>Tw ha (ss.mergeSort λx y=>decide (x≤y)) (by first | assumption | (simp;assumption)) w he) rfl ?_)));rintro hb _ rfl;refine AC (A7 rfl) rfl (Av (A5 (AY ?_)));exact A0 (Az (BW rfl rfl) (λw hw=>⟨_,_,rfl,hw,rfl⟩))
end Go.Proofs.YtfobhhegpkinaaaGreatDoor
namespace Go.Proofs.YtfobhhegpkinaaaGreatDoor.Q
open Go Go.RowKit Go.Proofs
set_option linter.unusedVariables false
theorem Wf {Z:Fz}{v:Value}{vs:List Value}(h:Bd Z [rv v] vs):vs=[v]:=Bd.eq_rv (us:=[v]) h
theorem RE {Z:Fz}:∀{ss:List An} {us:List Value},Bd Z (ss.map eS).flatten us→us=ss.map encStr
 | [],[],_=>rfl
 | s::r,u::us,⟨h1,h2⟩=>by
  rw[show u=Value.string (B s) from h1,RE (ss:=r) (us:=us) h2];rfl
theorem RI {Z:Fz}:∀ss:List An,Bd Z (ss.map eS).flatten (ss.map encStr)
 | []=>trivial
 | s::r=>⟨rfl,RI r⟩
theorem Wh {Z:Fz}{w:World}{v:Value}{e:TypeId}{ss:List An}(h:(Ent.row v e 1 (ss.map eS)).holds Z w):(Proofs.YtfobhhegpkinaaaGreatDoor.Ent.row v e 1 ss.length (ss.map encStr)).holds w:=by
 obtain⟨_,us,h1,h2⟩:=h;rw[RE h2,Zw] at h1;exact h1
theorem Wi {Z:Fz}{w:World}{v:Value}{e:TypeId}{ss:List An}(h:(Proofs.YtfobhhegpkinaaaGreatDoor.Ent.row v e 1 ss.length (ss.map encStr)).holds w):(Ent.row v e 1 (ss.map eS)).holds Z w:=
 ⟨λc hc=>by obtain⟨y,_,rfl⟩:=List.mem_map.1 hc;rfl,ss.map encStr,by rw[Zw];exact h,RI ss⟩
theorem Tm (v:Value)(ss:List An)(g:Dp 16 ss.length=true):Fn Tryz.prog GE 45 [rv v] [.row v 9 1 (ss.map eS)] (λR H=>∃u:Value,R=rv u∧H=[.row u 9 1 ((Bz ss).map eS),.row v 9 1 (ss.map eS)]):=λw Z vs hv hs=>by
 have e:=Wf hv;subst e;have hl:ss.length≤8796093022208:=by have:=ZO g;omega
 have hc:=Uh v ss hl w (Np.of_row (Wh (hs.ent (i:=0) rfl)));refine hc.mono ?_;rintro e w' ⟨u,H,rfl,ht,rfl⟩;refine⟨_,u,_,Z,rfl,⟨u,rfl,rfl⟩,rfl,hs.add ht.os ht.tape ht.output ht.size (λk hk=>ht.old k hk (by simp)) (Wi (ht.has _ (List.mem_cons_self ..))) (λk hk=>?_)⟩;rcases ht.own _ (List.mem_cons_self ..) k hk with h | h
 ·exact h
 ·cases h
open Go Go.RowKit
set_option linter.unusedSimpArgs false
set_option maxRecDepth 100000
set_option maxHeartbeats 4000000
@[reducible] def Aj (x:(List Ac)):Rp:=AU 4 (Ax Ab x)
theorem EC (Z:Fz):(Aj ([]:(List Ac))).p Z (.slice none 0 0):=Pr.nil _ _
@[reducible] def BM (x:Ah):List Rp:=[AU 4 (Ax Ab x.fValue),As x.fVersion]
@[reducible] def Ao (x:Ah):Rp:=B9 (BM x)
theorem Ev (Z:Fz):(Ao (Ah.mk ([]:(List Ac)) 0)).p Z (.agg #[(.slice none 0 0),(.int .i64 0)]):=⟨[.slice none 0 0,.int .i64 0],rfl,Pr.nil _ _,rfl,trivial⟩
@[reducible] def Ad (x:(List (An×Ah))):Rp:=KI (A8 Ao x)
theorem CA (Z:Fz):(Ad ([]:(List (An×Ah)))).p Z (.map none):=Wk _
@[reducible] def BO (x:Cd):List Rp:=[As x.fKind,rS x.fC.fEvent,rS x.fC.fTenant,As x.fC.fAttempt,AU 4 (Ax Ab x.fC.fResult),AU 4 (Ax Ai x.fC.fEffects),As x.fC.fAt,rS x.fS,As x.fN]
theorem Sq (parts:List (Nat×Value)):Tryz.prog.built 59 parts=Instr.fill (λi=>(#[(0,1),(1,1),(2,1),(3,1),(4,1)]:Array (Nat×Nat))[i]?) #[(.bool false),((.slice none 0 0)),((.map none)),((.map none)),((.slice none 0 0))] parts:=by kernel_rfl
theorem LI {n:Nat}{c:Cx}{l:Fr}{H:List Ent}{d:Option Nat}{ty:TypeId}{pos:String}{af:Array Edge}{g:Option (Nat×Bool)}{x0:Operand}{r0:Rp}(h0:ev l x0=some r0)(u0:r0.one=true){x2:Operand}{r2:Rp}(h2:ev l x2=some r2)(u2:r2.one=true){x3:Operand}{r3:Rp}(h3:ev l x3=some r3)(u3:r3.one=true):Be Tryz.prog n c l H { dst:=d,op:=.build 59 #[(0,x0),(2,x2),(3,x3)],type:=ty,pos:=pos,after:=af,guard:=g } (B9 [r0,rv (.slice none 0 0),r2,r3,rv (.slice none 0 0)]):=λa w Z ha _=>by
  have p0:=ha.ev h0;have c0:=Bl (r0.hone u0 Z _ p0);have p2:=ha.ev h2;have c2:=Bl (r2.hone u2 Z _ p2);have p3:=ha.ev h3;have c3:=Bl (r3.hone u3 Z _ p3);have hb:Tryz.prog.built 59 [(0,a.eval x0),(2,a.eval x2),(3,a.eval x3)]=some #[a.eval x0,((.slice none 0 0)),a.eval x2,a.eval x3,((.slice none 0 0))]:=by
    rw[Sq];generalize a.eval x0=v0 at *;generalize a.eval x2=v2 at *;generalize a.eval x3=v3 at *;simp[Instr.fill,c0,c2,c3]
  refine⟨.agg #[a.eval x0,((.slice none 0 0)),a.eval x2,a.eval x3,((.slice none 0 0))],⟨[a.eval x0,((.slice none 0 0)),a.eval x2,a.eval x3,((.slice none 0 0))],rfl,p0,rfl,p2,p3,rfl,trivial⟩,?_⟩;have:=run_build w 59 #[(0,a.eval x0),(2,a.eval x2),(3,a.eval x3)] _ (by simpa using hb);simp[execOp,this]
theorem WR (parts:List (Nat×Value)):Tryz.prog.built 90 parts=Instr.fill (λi=>(#[(0,1),(1,1)]:Array (Nat×Nat))[i]?) #[((.slice none 0 0)),(.int .i64 0)] parts:=by kernel_rfl
theorem J4 {n:Nat}{c:Cx}{l:Fr}{H:List Ent}{d:Option Nat}{ty:TypeId}{pos:String}{af:Array Edge}{g:Option (Nat×Bool)}{x0:Operand}{r0:Rp}(h0:ev l x0=some r0)(u0:r0.one=true){x1:Operand}{r1:Rp}(h1:ev l x1=some r1)(u1:r1.one=true):Be Tryz.prog n c l H { dst:=d,op:=.build 90 #[(0,x0),(1,x1)],type:=ty,pos:=pos,after:=af,guard:=g } (B9 [r0,r1]):=λa w Z ha _=>by
  have p0:=ha.ev h0;have c0:=Bl (r0.hone u0 Z _ p0);have p1:=ha.ev h1;have c1:=Bl (r1.hone u1 Z _ p1);have hb:Tryz.prog.built 90 [(0,a.eval x0),(1,a.eval x1)]=some #[a.eval x0,a.eval x1]:=by
    rw[WR];generalize a.eval x0=v0 at *;generalize a.eval x1=v1 at *;simp[Instr.fill,c0,c1]
  refine⟨.agg #[a.eval x0,a.eval x1],⟨[a.eval x0,a.eval x1],rfl,p0,p1,trivial⟩,?_⟩;have:=run_build w 90 #[(0,a.eval x0),(1,a.eval x1)] _ (by simpa using hb);simp[execOp,this]
theorem Ty (ha:Value)(ys:(List An))(r:(List An))(h:Pf ys=some r):Fn Tryz.prog GE 43 [rv ha] [.row ha 9 1 (Ax eS ys)] (λR H=>∃u0:Value,R=rv u0∧H=[.row u0 9 1 (Ax eS r),.row ha 9 1 (Ax eS ys)]):=by
 refine enter (n:=8) Tryz.func43 Aa Tryz.ntmps43 Aa (λw Z=>?_);unfold Pf at h;refine Al (wa Aa (Au (Aq (Al (wm Aa (wv (r:=Yd (λb=>b=true→Ax eS ys=[])) (NQ 0 Ct Aa Aa) (Au (Mt Aa (λc1=>?_) (λc1=>?_)))))))))
 ·have e2:ys=[]:=List.map_eq_nil_iff.1 (c1 rfl);have h3:some ([]:List An)=some r:=by rw[e2] at h;exact(Qx h).2
  refine Al (wa Aa (Au (A0 (Af (WK.nilrow (e:=9) (sz:=1) ?_)))));obtain rfl:=A1 h3;exact Az (BW Tryz.results43 (AI Aa)) (sC (sC sN)) ⟨(.slice none 0 0         ),Aa,Aa⟩
 ·refine A3 (AT (Al (Ba (ys:=([]:List An)) (enc:=eS) (css:=[]) (xs:=[]) Ct Cs R2 Aa Aa Aa trivial Aa Dg Aa Aa Aa (λb4=>?_))));refine wm Aa (ck h λg6 h7=>Exists.elim MX λinf hinf=>BQ (xs:=([]:List An)) (ys:=ys) (enc:=eS) (i:=0) Ct hinf.1 hinf.2.1 hinf.2.2.1 hinf.2.2.2 Aa Aa Aa Aa Aa (HY.w (i:=1) Aa Aa) Dg JS g6 Aa (λv5=>?_));refine wa Aa (Au (A0 ?_));obtain rfl:=A1 h7;exact Az (BW Tryz.results43 (AI Aa)) (sC (sC sN)) ⟨v5,Aa,Aa⟩
theorem Tz (ha:Value)(ys:(List Ar))(r:(List Ar))(h:Pg ys=some r):Fn Tryz.prog GE 71 [rv ha] [.row ha 67 8 (Ax Ae ys)] (λR H=>∃u0:Value,R=rv u0∧H=[.row u0 67 8 (Ax Ae r),.row ha 67 8 (Ax Ae ys)]):=by
 refine enter (n:=8) Tryz.func71 Aa Tryz.ntmps71 Aa (λw Z=>?_);unfold Pg at h;refine Al (wa Aa (Au (Aq (Al (wm Aa (wv (r:=Yd (λb=>b=true→Ax Ae ys=[])) (NQ 0 DK Aa Aa) (Au (Mt Aa (λc1=>?_) (λc1=>?_)))))))))
 ·have e2:ys=[]:=List.map_eq_nil_iff.1 (c1 rfl);have h3:some ([]:List Ar)=some r:=by rw[e2] at h;exact(Qx h).2
  refine Al (wa Aa (Au (A0 (Af (WK.nilrow (e:=67) (sz:=8) ?_)))));obtain rfl:=A1 h3;exact Az (BW Tryz.results71 (AI Aa)) (sC (sC sN)) ⟨(.slice none 0 0                                                                   ),Aa,Aa⟩
 ·refine A3 (AT (Al (Ba (ys:=([]:List Ar)) (enc:=Ae) (css:=[]) (xs:=[]) DK H4 S0 Aa Aa Aa trivial Aa Cb Aa Aa Aa (λb4=>?_))));refine wm Aa (ck h λg6 h7=>Exists.elim MY λinf hinf=>BQ (xs:=([]:List Ar)) (ys:=ys) (enc:=Ae) (i:=0) DK hinf.1 hinf.2.1 hinf.2.2.1 hinf.2.2.2 Aa Aa Aa Aa Aa (HY.w (i:=1) Aa Aa) Cb Dd g6 Aa (λv5=>?_));refine wa Aa (Au (A0 ?_));obtain rfl:=A1 h7;exact Az (BW Tryz.results71 (AI Aa)) (sC (sC sN)) ⟨v5,Aa,Aa⟩
theorem UG  (r:AG)(h:Wy=some r):Fn Tryz.prog GE 9 [] [] (λR H=>∃u0:Nat,∃u0_1:Value,∃u0_2:Nat,∃u0_3:Nat,∃u0_4:Value,R=rP u0 0∧H=[.blk u0 [rB r.fMade,rv u0_1,rv (.map (some u0_2)),rv (.map (some u0_3)),rv u0_4] 59,.row u0_1 9 1 (Ax eS r.fEvents),.map u0_2 (A8 Aj r.fResults),.map u0_3 (A8 Ad r.fKeys),.row u0_4 67 8 (Ax Ae r.fPending)]):=by
 refine enter (n:=5) Tryz.func9 Aa Tryz.ntmps9 Aa (λw Z=>?_);unfold Wy at h;refine Al (wa Aa (Bk (IU Aa (λb1=>?_))));refine IU Aa (λb2=>?_);refine wv (r:=B9 [rB true,rv (.slice none 0 0),rv (.map (some b1)),rv (.map (some b2)),rv (.slice none 0 0)]) (LI Aa Aa Aa Aa Aa Aa) (BX Aa Aa (λb3=>?_));refine wa Aa (Au (A0 (WK.nilrow (e:=9) (sz:=1) (WK.nilrow (e:=67) (sz:=8) (BF (H2:=[.blk b3 [rB true,rv (.slice none 0 0),rv (.map (some b1)),rv (.map (some b2)),rv (.slice none 0 0)] 59,.row (.slice none 0 0         ) 9 1 (Ax eS ([]:List An)),.map b1 (A8 Aj ([]:List (An×(List Ac)))),.map b2 (A8 Ad ([]:List (An×(List (An×Ah))))),.row (.slice none 0 0                                                                   ) 67 8 (Ax Ae ([]:List Ar))]) ((Ak (i:=2) Aa).trans (Zo _ ((Ak (i:=1) Aa).trans (Zo _ ((Ak (i:=2) Aa).trans (Zo _ ((Ak (i:=1) Aa).trans (Zo _ (Zp _))))))))) ?_)))));obtain rfl:=A1 h;exact Az (BW Tryz.results9 (AI Aa)) (sC (sC (sC (sC (sC sN))))) ⟨b3,(.slice none 0 0         ),b1,b2,(.slice none 0 0                                                                   ),Aa,Aa⟩
theorem Dr  (r:Bool)(h:NT=some r):Fn Tryz.prog GE 40 [rv (.pointer none)] [] (λR H=>R=rB r∧H=[]):=by
 refine enter (n:=11) Tryz.func40 Aa Tryz.ntmps40 Aa (λw Z=>?_);unfold NT at h;refine Al (wa Aa (Au (AR [(2,rB false)] [] ?_ ?_)))
 ·refine At (wm Aa (wv (r:=rB false) (PN ⟨_,Xi⟩ Aa) (wm Aa (wz Aa Aa (wz Aa Aa (wz Aa Aa (wz Aa Aa (wv (r:=rB false) (AF (b:=false) Aa Aa Aa) (wa Aa (Av ?_))))))))));exact wt
 refine A0 ?_;obtain rfl:=A1 h;exact Az (BW Tryz.results40 (AI Aa)) sN ⟨Aa,Aa⟩
theorem Dy (ha:Nat)  (r:Bool)(h:ML=some r):Fn Tryz.prog GE 40 [rP ha 0] [.blk ha [rB false,rv (.slice none 0 0),rv (.map none),rv (.map none),rv (.slice none 0 0)] 59] (λR H=>R=rB r∧H=[.blk ha [rB false,rv (.slice none 0 0),rv (.map none),rv (.map none),rv (.slice none 0 0)] 59]):=by
 refine enter (n:=11) Tryz.func40 Aa Tryz.ntmps40 Aa (λw Z=>?_);unfold ML at h;refine Al (wa Aa (Au (AR [(2,rB false)] [.blk ha [rB false,rv (.slice none 0 0),rv (.map none),rv (.map none),rv (.slice none 0 0)] 59] ?_ ?_)))
 ·refine At (wm Aa (wv (r:=rB true) (NS ⟨_,Xi⟩ Aa) (wm Aa (AJ (b:=true) Aa Aa Aa (wm Aa (AJ (b:=true) Aa Aa Aa (wv (A2 Aa) (AJ (b:=true) Aa Aa Aa (vF E2 Aa He (AJ (b:=true) Aa Aa Aa (vL 0 R6 Aa (wv (r:=rB false) (AA (b:=true) Aa Aa Aa) (wa Aa (Av ?_))))))))))))));exact wt
 refine A0 ?_;obtain rfl:=A1 h;exact Az (BW Tryz.results40 (AI Aa)) (sC sN) ⟨Aa,Aa⟩
theorem EJ (ha:Nat)(hb:Value)(hd:Nat)(he:Nat)(hf:Value)(o:AG)(r:Bool)(h:GW o=some r):Fn Tryz.prog GE 40 [rP ha 0] [.blk ha [rB o.fMade,rv hb,rv (.map (some hd)),rv (.map (some he)),rv hf] 59] (λR H=>R=rB r∧H=[.blk ha [rB o.fMade,rv hb,rv (.map (some hd)),rv (.map (some he)),rv hf] 59]):=by
 refine enter (n:=11) Tryz.func40 Aa Tryz.ntmps40 Aa (λw Z=>?_);unfold GW at h;refine Al (wa Aa (Au (AR [(2,rB o.fMade)] [.blk ha [rB o.fMade,rv hb,rv (.map (some hd)),rv (.map (some he)),rv hf] 59] ?_ ?_)))
 ·refine At (wm Aa (wv (r:=rB true) (NS ⟨_,Xi⟩ Aa) (wm Aa (AJ (b:=true) Aa Aa Aa (wm Aa (AJ (b:=true) Aa Aa Aa (wv (A2 Aa) (AJ (b:=true) Aa Aa Aa (vF E2 Aa He (AJ (b:=true) Aa Aa Aa (vL 0 R6 Aa (wv (r:=rB o.fMade) (AA (b:=true) Aa Aa Aa) (wa Aa (Av ?_))))))))))))));exact wt
 refine A0 ?_;obtain rfl:=A1 h;exact Az (BW Tryz.results40 (AI Aa)) (sC sN) ⟨Aa,Aa⟩
theorem UI (F:Nat)(hd:Nat)(keys:(List (An×Ah)))(l:(List Am))(r:Int×(List (An×Ah)))(h:QX F keys l=some r):Fn Tryz.prog GE 65 [rv (.map (some hd)),AU 4 (Ax Ai l)] [.map hd (A8 Ao keys)] (λR H=>R=As r.1∧H=[.map hd (A8 Ao r.2)]):=by
 refine enter (n:=39) Tryz.func65 Aa Tryz.ntmps65 Aa (λw Z=>?_);unfold QX at h;refine Al (wa Aa (Au (Aq (Al (wm Aa (wv (Bt (ys:=l) (enc:=Ai) EY Aa) (wv (r:=As 0) (Aw Aa) (Au (AO (ob h λho hp hm=>B4 (S:=Nat×(Int×(List (An×Ah)))×(Unit)) (V:=((List (An×Ah)))×(Unit)) 0 (λσ=>Cz (λσ=>Jg l σ.1 σ.2) σ.1 σ.2.1=some ho) (λσ=>[(0,rv (.map (some hd))),(7,AU 4 (Ax Ai l)),(8,As (l.length:Int)),(9,As σ.2.1.1)]) (λσ=>[.map hd (A8 Ao σ.2.1.2)]) (λσ=>σ.1) (F,(0,keys),()) hp (AL.c Aa (AL.c Aa (AL.c Aa (AL.c Aa AL.nil)))) (sC sN) (λσ=>Jf σ.1=some r) (λσ=>[]) (λσ=>[.map hd (A8 Ao σ.1)]) ?_ ?_))))))))))
 ·rintro⟨hG,⟨ha,hb⟩,⟨⟩⟩ hq;refine Cf (l':=[(0,rv (.map (some hd))),(7,AU 4 (Ax Ai l)),(8,As (l.length:Int)),(9,As ha)]) (H':=[.map hd (A8 Ao hb)]) Aa Aa ?_;obtain⟨hr,rfl,hj,hg,hk⟩:=CO hq;replace hg:Jg l ha hb=some hj:=hg;unfold Jg at hg;refine Al (wv (CZ Aa Aa) (Au (Aq (cz hg Aa (λhs ht=>?_) (λhs hu=>?_)))))
  ·refine A3 (AT (C8 (S:=((List (An×Ah)))×(Unit)) (λσ=>Gk ha σ.1=some hj) (λσ=>[(0,rv (.map (some hd))),(7,AU 4 (Ax Ai l)),(8,As (l.length:Int)),(9,As ha)]) (λσ=>[.map hd (A8 Ao σ.1)]) ?_ ?_))
   ·refine AO (Al (ck ht λhw hx=>wv (BT (enc:=Ai) (ys:=l) EY CY Aa Aa hw) (wv (Eh Hf CY Aa Aa Aa) (BR (cs:=[As 0,rS ([]:An),rv (.slice none 0 0),As 0]) KK Aa Aa (λhf=>?_)))));refine Bj (i:=0) CY Aa Aa Aa (Cj.c Aa) Aa Aa (cs':=[As ((Ap l ha).fKind),rS ((Ap l ha).fKey),AU 4 (Ax Ab ((Ap l ha).fValue)),As ((Ap l ha).fDelay)]) Aa (H':=[.blk hf (Ai (Ap l ha)) 65,.map hd (A8 Ao hb)]) Aa (Bk (vF CI Aa Iv (vL 0 Ix Aa (Au (AO (Al (wv (BN Aa Aa) (wa Aa (Au (cz hx Aa (λhy hz=>?_) (λhy h0=>?_)))))))))))
    ·refine Aq (ob hz λhe h1 h2=>ck h2 λh3 h4=>CL 13 [0,6,7,8,9] [⟨[],rv (.map (some hd)),none,none,none⟩,⟨[],rP hf 1,none,none,none⟩,⟨[1],rS ((Ap l ha).fKey),none,none,none⟩,⟨[],rP hf 2,none,none,none⟩,⟨[3],AU 4 (Ax Ab ((Ap l ha).fValue)),none,none,none⟩,⟨[4],AU 4 (Ax Ab he),none,none,none⟩,⟨[],rv (.map (some hd)),none,none,none⟩,⟨[],rP hf 1,none,none,none⟩,⟨[7],rS ((Ap l ha).fKey),none,none,none⟩,⟨[6,8],B9 (BM (B3 hb ((Ap l ha).fKey) (Ah.mk ([]:(List Ac)) 0))),none,none,none⟩,⟨[9],As ((B3 hb ((Ap l ha).fKey) (Ah.mk ([]:(List Ac)) 0)).fVersion),none,none,none⟩,⟨[10],As (((B3 hb ((Ap l ha).fKey) (Ah.mk ([]:(List Ac)) 0)).fVersion)+1),none,none,none⟩,⟨[5,11],B9 [AU 4 (Ax Ab he),As (((B3 hb ((Ap l ha).fKey) (Ah.mk ([]:(List Ac)) 0)).fVersion)+1)],none,none,none⟩] ?_ (λβ=>?_))
     ·refine CN (Aw Aa) (CN (Ay CI Aa Cs Aa Aa) (Gi (AQ (i:=0) C7 Aa Aa Aa) (CN (Ay CI Aa CD Aa Aa) (Gi (AQ (i:=0) Es Aa Aa Aa) (KU (Et Q9 (G1 ((Ap l ha).fValue) he h1) Aa) (CN (Aw Aa) (CN (Ay CI Aa Cs Aa Aa) (Gi (AQ (i:=0) C7 Aa Aa Aa) (Gi (KV (enc:=Ao) (xs:=hb) (z:=Ah.mk ([]:(List Ac)) 0) (i:=1) JZ C4 Sz Ev Aa Aa Aa) (CN (RT VI Aa CQ Aa Aa) (CN (BJ Aa Aa h3) (CN (J4 Aa Aa Aa Aa) ?_))))))))))));exact OH
     refine CK (H1:=[.blk hf (Ai (Ap l ha)) 65,.map hd (A8 Ao hb)]) [17,18,19,20,21,22,23,24,25,26,27,28,29,0,6,7,8,9] ?_;refine G6 (enc:=Ao) (xs:=hb) (v:=(Ah.mk he (((B3 hb ((Ap l ha).fKey) (Ah.mk ([]:(List Ac)) 0)).fVersion)+1))) (i:=1) JZ C4 Aa Aa Aa Aa (H':=[.blk hf (Ai (Ap l ha)) 65,.map hd (A8 Ao (mset hb ((Ap l ha).fKey) (Ah.mk he (((B3 hb ((Ap l ha).fKey) (Ah.mk ([]:(List Ac)) 0)).fVersion)+1))))]) Aa (Bk (wm Aa (wv (r:=As ((mset hb ((Ap l ha).fKey) (Ah.mk he (((B3 hb ((Ap l ha).fKey) (Ah.mk ([]:(List Ac)) 0)).fVersion)+1))).length:Int)) (U8 (N:=(mset hb ((Ap l ha).fKey) (Ah.mk he (((B3 hb ((Ap l ha).fKey) (Ah.mk ([]:(List Ac)) 0)).fVersion)+1))).length) (i:=1) JZ Aa Aa (EN _ _)) (wv (D4 Aa Aa) (Au (cz h4 Aa (λh5 h6=>?_) (λh5 h7=>?_)))))))
     ·refine Al (wa Aa (Au (A0 (AD (AD (Af (Af (Bg ?_))))))));have h8:=BG h6 hk hm;refine AD (Af ?_);obtain rfl:=A1 h8;exact Az (BW VJ (AI Aa)) (sS (sC sN)) ⟨Aa,Aa⟩
     ·exact A3 (AH (AH (A5 (AK (mset hb ((Ap l ha).fKey) (Ah.mk he (((B3 hb ((Ap l ha).fKey) (Ah.mk ([]:(List Ac)) 0)).fVersion)+1)),()) h7 (AL.c Aa (AL.c Aa (AL.c Aa (AL.c Aa AL.nil)))) (sS (sC sN))))))
    ·refine Al (wv (BN Aa Aa) (wa Aa (Au (cz h0 Aa (λc171 h9=>?_) (λc171 hA=>?_)))))
     ·exact At (wm Aa (vF CI Aa Cs (vL 0 C7 Aa (RC (enc:=Ao) (xs:=hb) (i:=1) JZ C4 Aa Aa Aa (H':=[.blk hf (Ai (Ap l ha)) 65,.map hd (A8 Ao (mdel hb ((Ap l ha).fKey)))]) Aa (Av (AH (AH (A5 (AK (mdel hb ((Ap l ha).fKey),()) h9 (AL.c Aa (AL.c Aa (AL.c Aa (AL.c Aa AL.nil)))) (sS (sC sN)))))))))))
     ·exact A3 (AH (AH (A5 (AK (hb,()) hA (AL.c Aa (AL.c Aa (AL.c Aa (AL.c Aa AL.nil)))) (sS (sC sN))))))
   ·rintro⟨hl,⟨⟩⟩ hh;refine Cf (l':=[(0,rv (.map (some hd))),(7,AU 4 (Ax Ai l)),(8,As (l.length:Int)),(9,As ha)]) (H':=[.map hd (A8 Ao hl)]) Aa Aa ?_;replace hh:Gk ha hl=some hj:=hh;unfold Gk at hh;refine At (ck hh λhB hC=>wv (BJ Aa Aa hB) (wm Aa (Av ?_)));have hD:=B8 hC hk;exact A5 (AK (hr,(ha+1,hl),()) ⟨hD,Z3 _⟩ (AL.c Aa (AL.c Aa (AL.c Aa (AL.c Aa AL.nil)))) (sC sN))
  ·refine BB (A9 ?_);have hE:=Cv hu hk hm;exact A9 (Bh (AK (hb,()) hE AL.nil (sC sN)))
 ·rintro⟨hn,⟨⟩⟩ hi;refine CJ (l':=[]) (H':=[.map hd (A8 Ao hn)]) Aa Aa ?_;replace hi:Jf hn=some r:=hi;unfold Jf at hi;refine Bf (AT (Al (wa Aa (Au (A0 ?_)))));obtain rfl:=A1 hi;exact Az (BW VJ (AI Aa)) (sC sN) ⟨Aa,Aa⟩
theorem Wz (ha:Nat)(x:Ar)(id:An)(r:Bool)(h:UJ x id=some r):Fn Tryz.prog GE 69 [B9 (Ae x),rP ha 0] [.blk ha [rS id] 9] (λR H=>R=rB r∧H=[.blk ha [rS id] 9]):=by
 refine enter (n:=8) Tryz.func69 Aa Tryz.ntmps69 Aa (λw Z=>?_);unfold UJ at h;refine Al (BX Aa Aa (λb1=>?_));refine wa Aa (Bk (vF Pv Aa Cs (vL 0 C7 Aa (vL 1 C7 Aa (wv (I8 Aa Aa) (wa Aa (Au (A0 ?_))))))));obtain rfl:=A1 h;exact Az (BW Tryz.results69 (AI Aa)) (sS (sC sN)) ⟨Aa,Aa⟩
theorem Vd (F:Nat)(hb:Value)(hd:Nat)(ys:(List Ar))(id:An)(r:Int)(h:Ri F ys id=some r):Fn Tryz.prog GE 68 [rv hb,rv (.func (.func 69) #[] #[(.pointer (some ⟨hd,0,none⟩))])] [.row hb 67 8 (Ax Ae ys),.blk hd [rS id] 9] (λR H=>R=As r∧H=[.row hb 67 8 (Ax Ae ys),.blk hd [rS id] 9]):=by
 refine enter (n:=19) Tryz.func68 Aa Tryz.ntmps68 Aa (λw Z=>?_);unfold Ri at h;refine Al (wa Aa (Au (Aq (Al (wm Aa (wv (BP (ys:=ys) (enc:=Ae) (i:=0) DK Aa Aa) (wv (r:=As 0) (Aw Aa) (Au (AO (ob h λhj hk hh=>B4 (S:=Nat×(Int)×(Unit)) (V:=(Unit)×(Unit)) 0 (λσ=>Cz (λσ=>Jm ys id σ) σ.1 σ.2.1=some hj) (λσ=>[(0,rv hb),(1,rv (.func (.func 69) #[] #[(.pointer (some ⟨hd,0,none⟩))])),(7,As (ys.length:Int)),(8,As σ.2.1)]) (λσ=>[.row hb 67 8 (Ax Ae ys),.blk hd [rS id] 9]) (λσ=>σ.1) (F,0,()) hk (AL.c Aa (AL.c Aa (AL.c Aa (AL.c Aa AL.nil)))) (sC (sC sN)) (λσ=>Jl =some r) (λσ=>[]) (λσ=>[.row hb 67 8 (Ax Ae ys),.blk hd [rS id] 9]) ?_ ?_))))))))))
 ·rintro⟨h4,ha,⟨⟩⟩ hl;refine Cf (l':=[(0,rv hb),(1,rv (.func (.func 69) #[] #[(.pointer (some ⟨hd,0,none⟩))])),(7,As (ys.length:Int)),(8,As ha)]) (H':=[.row hb 67 8 (Ax Ae ys),.blk hd [rS id] 9]) Aa Aa ?_;obtain⟨hm,rfl,hn,he,hg⟩:=CO hl;replace he:Jm ys id ha=some hn:=he;unfold Jm at he;refine Al (wv (CZ Aa Aa) (Au (Aq (cz he Aa (λho hp=>?_) (λho hq=>?_)))))
  ·refine A3 (AT (Aq (AO (Al (wm Aa (wa Aa (Bk (wm Aa (wm Aa (wm Aa (ck hp λhi hr=>wv (r:=rv (DN 8 hb (Bi ha) 0)) (DC (i:=0) DK H4 Aa Aa Aa (B6 hi)) (wv (r:=B9 [rS ((Ap ys ha).fID),rS ((Ap ys ha).fTenant),rS ((Ap ys ha).fCause),As ((Ap ys ha).fAt),As (((Ap ys ha).fEffect).fKind),rS (((Ap ys ha).fEffect).fKey),AU 4 (Ax Ab (((Ap ys ha).fEffect).fValue)),As (((Ap ys ha).fEffect).fDelay)]) (IZ (enc:=Ae) (ys:=ys) (i:=0) (j:=ha) Tryz.isAgg67 H4 Aa Aa hi Aa Aa) (ob hr λhs ht hu=>Oz (rs:=[B9 [rS ((Ap ys ha).fID),rS ((Ap ys ha).fTenant),rS ((Ap ys ha).fCause),As ((Ap ys ha).fAt),As (((Ap ys ha).fEffect).fKind),rS (((Ap ys ha).fEffect).fKey),AU 4 (Ax Ab (((Ap ys ha).fEffect).fValue)),As (((Ap ys ha).fEffect).fDelay)]]) (Hin:=[.blk hd [rS id] 9]) (Hr:=[.row hb 67 8 (Ax Ae ys)]) Tryz.call69 Aa Aa ((Ak (i:=1) Aa).trans (Zo _ (Zp _))) (Wz hd (Ar.mk ((Ap ys ha).fID) ((Ap ys ha).fTenant) ((Ap ys ha).fCause) ((Ap ys ha).fAt) ((Ap ys ha).fEffect)) id hs ht) Aa ?_)))))))))))));rintro _ _ ⟨rfl,rfl⟩;refine Au (cz hu Aa (λhw hx=>?_) (λhw hy=>?_))
   ·refine Al (wm Aa (wa Aa (Au (A0 (AD (Af (Af (Bg ?_))))))));have hz:=BG hx hg hh;refine AD (Af (BF (H2:=[.row hb 67 8 (Ax Ae ys),.blk hd [rS id] 9]) ((Ak (i:=1) Aa).trans (Zo _ (Zp _))) ?_));obtain rfl:=A1 hz;exact Az (BW Tryz.results68 (AI Aa)) (sC (sC sN)) ⟨Aa,Aa⟩
   ·refine A3 (AH (AT (At (ck hy λh0 h1=>wv (BJ Aa Aa h0) (wm Aa (Av (BF (H2:=[.row hb 67 8 (Ax Ae ys),.blk hd [rS id] 9]) ((Ak (i:=1) Aa).trans (Zo _ (Zp _))) ?_)))))));have h2:=B8 h1 hg;exact A5 (AK (hm,ha+1,()) ⟨h2,Z3 _⟩ (AL.c Aa (AL.c Aa (AL.c Aa (AL.c Aa AL.nil)))) (sC (sC sN)))
  ·refine BB (A9 ?_);have h3:=Cv hq hg hh;exact A9 (Bh (AK ((),()) h3 AL.nil (sC (sC sN))))
 ·rintro⟨⟨⟩,⟨⟩⟩ hf;refine CJ (l':=[]) (H':=[.row hb 67 8 (Ax Ae ys),.blk hd [rS id] 9]) Aa Aa ?_;replace hf:Jl =some r:=hf;unfold Jl at hf;refine Bf (AT (Al (wv (r:=As (-1)) (A7 Aa) (Au (A0 ?_)))));obtain rfl:=A1 hf;exact Az (BW Tryz.results68 (AI Aa)) (sC (sC sN)) ⟨Aa,Aa⟩
theorem Tu (ha:Value)(ys:(List Ar))(i:Int)(j:Int)(r:(List Ar))(h:Pd ys i j=some r):Fn Tryz.prog GE 70 [rv ha,As i,As j] [.row ha 67 8 (Ax Ae ys)] (λR H=>∃u0:Value,R=rv u0∧H=[.row u0 67 8 (Ax Ae r)]):=by
 refine enter (n:=33) Tryz.func70 Aa Tryz.ntmps70 Aa (λw Z=>?_);unfold Pd at h;refine Al (wa Aa (Bk (wm Aa (wm Aa (wm Aa (wm Aa (wv (BP (ys:=ys) (enc:=Ae) (i:=0) DK Aa Aa) (ck h λg1 h2=>ck h2 λg3 h4=>ck h4 λg5 h6=>wv (r:=Ye) (OI (i:=0) DK H4 Aa Aa Aa Aa Aa g1 g3 g5) (Au (Aq (Al (wm Aa (wm Aa (wv (BN Aa Aa) (Au (cz h6 Aa (λc7 h8=>?_) (λc7 h9=>?_)))))))))))))))))
 ·refine Al (wm Aa (wa Aa (Au (A0 (Af ?_)))));obtain rfl:=A1 h8;exact Az (BW Tryz.results70 (AI Aa)) (sC sN) ⟨ha,Aa,Aa⟩
 ·refine A3 (AT (Al (wm Aa (wv (BP (ys:=ys) (enc:=Ae) (i:=0) DK Aa Aa) (wa Aa (Au (Aq (ck h9 λhd he=>CL 6 [0,1,2,7] [⟨[],rv ha,none,none,none⟩,⟨[],As i,none,none,none⟩,⟨[0,1],rv (HB ha (Bi i)),none,none,none⟩,⟨[],rv ha,none,none,none⟩,⟨[],As j,none,none,none⟩,⟨[3,4],rv (Hl 8 ha (Bi j)),none,none,none⟩] ?_ (λβ=>?_)))))))))
  ·refine CN (Aw Aa) (CN (Aw Aa) (Gi (Xz (i:=0) DK H4 Aa Aa Aa hd) (CN (Aw Aa) (CN (Aw Aa) (Gi (Xx (i:=0) DK H4 Aa Aa Aa g3) ?_)))));exact OH
  refine CK (H1:=[.row ha 67 8 (Ax Ae ys)]) [20,21,22,23,24,25,0,1,2,7] ?_;obtain⟨_,hinf12⟩:=MY;refine VV (ys:=ys) (enc:=Ae) (i:=0) (a0:=i) (b0:=j) DK hinf12.1 hinf12.2.2.1 Aa Aa Aa Aa Cb Dd g1 g3 Aa (wa Aa (Bk (wm Aa (wm Aa (wv (r:=As ((Bi i+(ys.length-Bi j):Nat):Int)) (UB (i:=0) (k:=Bi i+(ys.length-Bi j)) (ys:=List.take (Bi i) ys++List.drop (Bi j) ys++List.drop (Bi i+(ys.length-Bi j)) ys) (enc:=Ae) DK Aa (PE g1 g3) Aa) (wm Aa (ck he λhb hf=>wv (r:=rv (Hl 8 ha (Bi ((Bi i+(ys.length-Bi j):Nat):Int)))) (UD (i:=0) (k:=Bi i+(ys.length-Bi j)) (ys:=List.take (Bi i) ys++List.drop (Bi j) ys++List.drop (Bi i+(ys.length-Bi j)) ys) (enc:=Ae) DK H4 Aa Aa Aa Aa (Wb g1 g3) hb) (O1 (ys:=List.take (Bi i) ys++List.drop (Bi j) ys++List.drop (Bi i+(ys.length-Bi j)) ys) (enc:=Ae) (i:=0) (z0:=Ar.mk ([]:An) ([]:An) ([]:An) 0 (Am.mk 0 ([]:An) ([]:(List Ac)) 0)) DK S0 Aa Aa Aa (by decide) (λZ=>⟨Aa,Aa,Aa,Aa,Aa,Aa,Pr.nil _ _,Aa,trivial⟩) Aa Aa Aa (Wc g1 g3 hb) (H':=[.row ha 67 8 (Ax Ae (List.take (Bi ((Bi i+(ys.length-Bi j):Nat):Int)) (List.take (Bi i) ys++List.drop (Bi j) ys++List.drop (Bi i+(ys.length-Bi j)) ys)++List.replicate ((List.take (Bi i) ys++List.drop (Bi j) ys++List.drop (Bi i+(ys.length-Bi j)) ys).length-Bi ((Bi i+(ys.length-Bi j):Nat):Int)) (Ar.mk ([]:An) ([]:An) ([]:An) 0 (Am.mk 0 ([]:An) ([]:(List Ac)) 0))))]) Aa (Bk (wm Aa (wa Aa (Au (A0 (WK.cut (ys:=List.take (Bi ((Bi i+(ys.length-Bi j):Nat):Int)) (List.take (Bi i) ys++List.drop (Bi j) ys++List.drop (Bi i+(ys.length-Bi j)) ys)++List.replicate ((List.take (Bi i) ys++List.drop (Bi j) ys++List.drop (Bi i+(ys.length-Bi j)) ys).length-Bi ((Bi i+(ys.length-Bi j):Nat):Int)) (Ar.mk ([]:An) ([]:An) ([]:An) 0 (Am.mk 0 ([]:An) ([]:(List Ac)) 0))) (enc:=Ae) 0 (Bi i+(ys.length-Bi j)) Aa (XL (PE g1 g3)) ?_))))))))))))));obtain rfl:=A1 hf;exact Az (BW Tryz.results70 (AI Aa)) (sC sN) ⟨(HB ha (Bi i+(ys.length-Bi j))),Aa,Aa⟩
theorem SW (hf:Nat)(ha:Value)(hb:Nat)(hd:Nat)(he:Value)(o:AG)(event:An)(r:(List Ac)×Bool)(h:OM o event=some r):Fn Tryz.prog GE 13 [rP hf 0,rS event] [.blk hf [rB o.fMade,rv ha,rv (.map (some hb)),rv (.map (some hd)),rv he] 59,.row ha 9 1 (Ax eS o.fEvents),.map hb (A8 Aj o.fResults),.map hd (A8 Ad o.fKeys),.row he 67 8 (Ax Ae o.fPending)] (λR H=>R=Cn [AU 4 (Ax Ab r.1),rB r.2]∧H=[.blk hf [rB o.fMade,rv ha,rv (.map (some hb)),rv (.map (some hd)),rv he] 59,.row ha 9 1 (Ax eS o.fEvents),.map hb (A8 Aj o.fResults),.map hd (A8 Ad o.fKeys),.row he 67 8 (Ax Ae o.fPending)]):=by
 refine enter (n:=23) Tryz.func13 Aa Tryz.ntmps13 Aa (λw Z=>?_);unfold OM at h;refine Al (wa Aa (wa Aa (Au (Aq (Al (wm Aa (ob h λr1 e3 h2=>CV (Hr:=[.row ha 9 1 (Ax eS o.fEvents),.map hb (A8 Aj o.fResults),.map hd (A8 Ad o.fKeys),.row he 67 8 (Ax Ae o.fPending)]) Gn (EJ hf ha hb hd he o r1 e3) Aa (Zp _) Aa ?_)))))));rintro _ _ ⟨rfl,rfl⟩;refine wv (B7 Aa) (Au (cz h2 Aa (λc4 h5=>?_) (λc4 h6=>?_)))
 ·refine Al (wa Aa (wa Aa (Au (A0 (Af (WK.up (d:=4) (r:=AU 4 (Ax Ab ([]:List Ac))) Aa (Up.le (HZ.nil _)) ?_))))));obtain rfl:=A1 h5;exact Az (Dq VP (AI Aa) (AI Aa)) (sC (sC (sC (sC (sC sN))))) ⟨Aa,Aa⟩
 ·refine A3 (AT (Al (wm Aa (wv (A2 Aa) (vF E2 Aa TH (vL 0 TS Aa (wm Aa (wv (r:=Cn [AU 4 (Ax Ab (B3 o.fResults event ([]:(List Ac)))),rB (E3 o.fResults event)]) (OJ (enc:=Aj) (xs:=o.fResults) (z:=([]:(List Ac))) (i:=2) TF C4 Xh EC Aa Aa Aa) (wm Aa (wv (A4 Aa Aa) (wv (A4 Aa Aa) (wa Aa (wa Aa (Bk (wm Aa (ob h6 λr7 e9 h8=>Di Q9 (G1 (B3 o.fResults event ([]:(List Ac))) r7 e9) Aa (wm Aa (wa Aa (wa Aa (Au (A0 ?_)))))))))))))))))))));obtain rfl:=A1 h8;exact Az (Dq VP (AI Aa) (AI Aa)) (sC (sC (sC (sC (sC sN))))) ⟨Aa,Aa⟩
theorem JO (F:Nat)(hh:Nat)(hd:Value)(he:Nat)(hf:Nat)(hb:Value)(o:AG)(r:(List Ar))(h:IA F o=some r):Fn Tryz.prog GE 20 [rP hh 0] [.blk hh [rB o.fMade,rv hd,rv (.map (some he)),rv (.map (some hf)),rv hb] 59,.row hd 9 1 (Ax eS o.fEvents),.map he (A8 Aj o.fResults),.map hf (A8 Ad o.fKeys),.row hb 67 8 (Ax Ae o.fPending)] (λR H=>R=AU 8 (Ax Ae r)∧H=[.blk hh [rB o.fMade,rv hd,rv (.map (some he)),rv (.map (some hf)),rv hb] 59,.row hd 9 1 (Ax eS o.fEvents),.map he (A8 Aj o.fResults),.map hf (A8 Ad o.fKeys),.row hb 67 8 (Ax Ae o.fPending)]):=by
 refine enter (n:=28) Tryz.func20 Aa Tryz.ntmps20 Aa (λw Z=>?_);unfold IA at h;refine Al (wa Aa (Au (Aq (Al (wm Aa (ob h λr1 e3 h2=>CV (Hr:=[.row hd 9 1 (Ax eS o.fEvents),.map he (A8 Aj o.fResults),.map hf (A8 Ad o.fKeys),.row hb 67 8 (Ax Ae o.fPending)]) Gn (EJ hh hd he hf hb o r1 e3) Aa (Zp _) Aa ?_))))));rintro _ _ ⟨rfl,rfl⟩;refine wv (B7 Aa) (Au (cz h2 Aa (λc4 h5=>?_) (λc4 h6=>?_)))
 ·refine Al (wa Aa (Au (A0 (Af (WK.up (d:=2) (r:=AU 8 (Ax Ae ([]:List Ar))) Aa (Up.le (HZ.nil _)) ?_)))));obtain rfl:=A1 h5;exact Az (BW VN (AI Aa)) (sC (sC (sC (sC (sC sN))))) ⟨Aa,Aa⟩
 ·refine A3 (AT (Al (wa Aa (Au (Aq (Al (wm Aa (wv (A2 Aa) (vF E2 Aa Ml (vL 0 QC Aa (wv (BP (ys:=o.fPending) (enc:=Ae) (i:=4) DK Aa Aa) (wv (r:=As 0) (Aw Aa) (Au (AO (WC.nilrow (e:=67) (sz:=8) (G5 (H2:=[.blk hh [rB o.fMade,rv hd,rv (.map (some he)),rv (.map (some hf)),rv hb] 59,.row hd 9 1 (Ax eS o.fEvents),.map he (A8 Aj o.fResults),.map hf (A8 Ad o.fKeys),.row hb 67 8 (Ax Ae o.fPending),.row (.slice none 0 0                                                                   ) 67 8 (Ax Ae ([]:List Ar))]) ((Ak (i:=1) Aa).trans (Zo _ ((Ak (i:=1) Aa).trans (Zo _ ((Ak (i:=1) Aa).trans (Zo _ ((Ak (i:=1) Aa).trans (Zo _ ((Ak (i:=1) Aa).trans (Zo _ (Zp _))))))))))) (ob h6 λhr hs ht=>B4 (S:=Nat×((List Ar)×Int)×(Value)) (V:=((List Ar))×(Value)) 0 (λσ=>Cz (λσ=>GA o σ.1 σ.2) σ.1 σ.2.1=some hr) (λσ=>[(3,rv σ.2.2),(12,rv hb),(13,As (o.fPending.length:Int)),(14,As σ.2.1.2)]) (λσ=>[.blk hh [rB o.fMade,rv hd,rv (.map (some he)),rv (.map (some hf)),rv hb] 59,.row hd 9 1 (Ax eS o.fEvents),.map he (A8 Aj o.fResults),.map hf (A8 Ad o.fKeys),.row hb 67 8 (Ax Ae o.fPending),.row σ.2.2 67 8 (Ax Ae σ.2.1.1)]) (λσ=>σ.1) (F,(([]:List Ar),0),(.slice none 0 0                                                                   )) hs (AL.c Aa (AL.c Aa (AL.c Aa (AL.c Aa AL.nil)))) (sC (sC (sC (sC (sC (sC sN)))))) (λσ=>G9 σ.1=some r) (λσ=>[(3,rv σ.2)]) (λσ=>[.blk hh [rB o.fMade,rv hd,rv (.map (some he)),rv (.map (some hf)),rv hb] 59,.row hd 9 1 (Ax eS o.fEvents),.map he (A8 Aj o.fResults),.map hf (A8 Ad o.fKeys),.row hb 67 8 (Ax Ae o.fPending),.row σ.2 67 8 (Ax Ae σ.1)]) ?_ ?_)))))))))))))))))
  ·rintro⟨hE,⟨hi,ha⟩,hj⟩ hu;refine Cf (l':=[(3,rv hj),(12,rv hb),(13,As (o.fPending.length:Int)),(14,As ha)]) (H':=[.blk hh [rB o.fMade,rv hd,rv (.map (some he)),rv (.map (some hf)),rv hb] 59,.row hd 9 1 (Ax eS o.fEvents),.map he (A8 Aj o.fResults),.map hf (A8 Ad o.fKeys),.row hb 67 8 (Ax Ae o.fPending),.row hj 67 8 (Ax Ae hi)]) Aa Aa ?_;obtain⟨hw,rfl,hx,hk,ho⟩:=CO hu;replace hk:GA o hi ha=some hx:=hk;unfold GA at hk;refine Al (wv (CZ Aa Aa) (Au (Aq (cz hk Aa (λhy hz=>?_) (λhy h0=>?_)))))
   ·refine A3 (AT (Aq (AO (Al (ck hz λhp h1=>wv (r:=rv (DN 8 hb (Bi ha) 0)) (DC (i:=4) DK H4 Aa Aa Aa (B6 hp)) (wv (r:=B9 [rS ((Ap o.fPending ha).fID),rS ((Ap o.fPending ha).fTenant),rS ((Ap o.fPending ha).fCause),As ((Ap o.fPending ha).fAt),As (((Ap o.fPending ha).fEffect).fKind),rS (((Ap o.fPending ha).fEffect).fKey),AU 4 (Ax Ab (((Ap o.fPending ha).fEffect).fValue)),As (((Ap o.fPending ha).fEffect).fDelay)]) (IZ (enc:=Ae) (ys:=o.fPending) (i:=4) (j:=ha) Tryz.isAgg67 H4 Aa Aa hp Aa Aa) (BR (cs:=[rS ([]:An),rS ([]:An),rS ([]:An),As 0,As 0,rS ([]:An),rv (.slice none 0 0),As 0]) S0 Aa Aa (λhm=>?_))))))));refine Bj (i:=0) H4 Aa Aa Aa (Cj.c Aa) Aa Aa (cs':=[rS ((Ap o.fPending ha).fID),rS ((Ap o.fPending ha).fTenant),rS ((Ap o.fPending ha).fCause),As ((Ap o.fPending ha).fAt),As (((Ap o.fPending ha).fEffect).fKind),rS (((Ap o.fPending ha).fEffect).fKey),AU 4 (Ax Ab (((Ap o.fPending ha).fEffect).fValue)),As (((Ap o.fPending ha).fEffect).fDelay)]) Aa (H':=[.blk hm [rS ((Ap o.fPending ha).fID),rS ((Ap o.fPending ha).fTenant),rS ((Ap o.fPending ha).fCause),As ((Ap o.fPending ha).fAt),As (((Ap o.fPending ha).fEffect).fKind),rS (((Ap o.fPending ha).fEffect).fKey),AU 4 (Ax Ab (((Ap o.fPending ha).fEffect).fValue)),As (((Ap o.fPending ha).fEffect).fDelay)] 67,.blk hh [rB o.fMade,rv hd,rv (.map (some he)),rv (.map (some hf)),rv hb] 59,.row hd 9 1 (Ax eS o.fEvents),.map he (A8 Aj o.fResults),.map hf (A8 Ad o.fKeys),.row hb 67 8 (Ax Ae o.fPending),.row hj 67 8 (Ax Ae hi)]) Aa (Bk (vF Pv Aa CY (wv (AZ (i:=0) Hf CY Aa Aa Aa Aa) (ob h1 λhg h3 h4=>Di Tryz.call44 (QT ((Ap o.fPending ha).fEffect) hg h3) Aa (vF Pv Aa CY (Bj (i:=0) CY Aa Aa Aa (Cj.c Aa) Aa Aa (cs':=[rS ((Ap o.fPending ha).fID),rS ((Ap o.fPending ha).fTenant),rS ((Ap o.fPending ha).fCause),As ((Ap o.fPending ha).fAt),As hg.fKind,rS hg.fKey,AU 4 (Ax Ab hg.fValue),As hg.fDelay]) Aa (H':=[.blk hm [rS ((Ap o.fPending ha).fID),rS ((Ap o.fPending ha).fTenant),rS ((Ap o.fPending ha).fCause),As ((Ap o.fPending ha).fAt),As hg.fKind,rS hg.fKey,AU 4 (Ax Ab hg.fValue),As hg.fDelay] 67,.blk hh [rB o.fMade,rv hd,rv (.map (some he)),rv (.map (some hf)),rv hb] 59,.row hd 9 1 (Ax eS o.fEvents),.map he (A8 Aj o.fResults),.map hf (A8 Ad o.fKeys),.row hb 67 8 (Ax Ae o.fPending),.row hj 67 8 (Ax Ae hi)]) Aa (Au (At (wm Aa (wv (AZ (i:=0) Tryz.isAgg67 H4 Aa Aa Aa Aa) (Ba (ys:=([(Ar.mk ((Ap o.fPending ha).fID) ((Ap o.fPending ha).fTenant) ((Ap o.fPending ha).fCause) ((Ap o.fPending ha).fAt) hg)]:List Ar)) (enc:=Ae) (css:=[[rS ((Ap o.fPending ha).fID),rS ((Ap o.fPending ha).fTenant),rS ((Ap o.fPending ha).fCause),As ((Ap o.fPending ha).fAt),As hg.fKind,rS hg.fKey,AU 4 (Ax Ab hg.fValue),As hg.fDelay]]) (xs:=[.tmp 23]) DK H4 S0 Aa Aa Aa ⟨DH.agg ⟨Up.refl _,Up.refl _,Up.refl _,Up.refl _,Up.refl _,Up.refl _,Up.refl _,Up.refl _,trivial⟩,trivial⟩ Aa Cb Aa Aa Aa (λh7=>?_))))))))))));refine ck h4 λh8 h9=>Exists.elim MY λinf hinf=>BQ (xs:=hi) (ys:=([(Ar.mk ((Ap o.fPending ha).fID) ((Ap o.fPending ha).fTenant) ((Ap o.fPending ha).fCause) ((Ap o.fPending ha).fAt) hg)]:List Ar)) (enc:=Ae) (i:=7) DK hinf.1 hinf.2.1 hinf.2.2.1 hinf.2.2.2 Aa Aa Aa Aa Aa (HY.w (i:=0) Aa Aa) Cb Dd h8 Aa (λv76=>?_);refine wa Aa (Av (AH (AT (At (ck h9 λhA hB=>wv (BJ Aa Aa hA) (wm Aa (Av (BF (H2:=[.blk hh [rB o.fMade,rv hd,rv (.map (some he)),rv (.map (some hf)),rv hb] 59,.row hd 9 1 (Ax eS o.fEvents),.map he (A8 Aj o.fResults),.map hf (A8 Ad o.fKeys),.row hb 67 8 (Ax Ae o.fPending),.row v76 67 8 (Ax Ae (hi++([(Ar.mk ((Ap o.fPending ha).fID) ((Ap o.fPending ha).fTenant) ((Ap o.fPending ha).fCause) ((Ap o.fPending ha).fAt) hg)]:List Ar))),.row (.slice (some ⟨h7,0,none⟩) 1 1) 67 8 (Ax Ae ([(Ar.mk ((Ap o.fPending ha).fID) ((Ap o.fPending ha).fTenant) ((Ap o.fPending ha).fCause) ((Ap o.fPending ha).fAt) hg)]:List Ar)),.blk hm [rS ((Ap o.fPending ha).fID),rS ((Ap o.fPending ha).fTenant),rS ((Ap o.fPending ha).fCause),As ((Ap o.fPending ha).fAt),As hg.fKind,rS hg.fKey,AU 4 (Ax Ab hg.fValue),As hg.fDelay] 67]) ((Ak (i:=3) Aa).trans (Zo _ ((Ak (i:=3) Aa).trans (Zo _ ((Ak (i:=3) Aa).trans (Zo _ ((Ak (i:=3) Aa).trans (Zo _ ((Ak (i:=3) Aa).trans (Zo _ (Zp _))))))))))) ?_))))))));have hC:=B8 hB ho;exact A5 (AK (hw,(hi++([(Ar.mk ((Ap o.fPending ha).fID) ((Ap o.fPending ha).fTenant) ((Ap o.fPending ha).fCause) ((Ap o.fPending ha).fAt) hg)]:List Ar),ha+1),v76) ⟨hC,Z3 _⟩ (AL.c Aa (AL.c Aa (AL.c Aa (AL.c Aa AL.nil)))) (sC (sC (sC (sC (sC (sC (sS (sS sN)))))))))
   ·refine BB (A9 ?_);have hD:=Cv h0 ho ht;exact A9 (Bh (AK (hi,hj) hD (AL.c Aa AL.nil) (sC (sC (sC (sC (sC (sC sN))))))))
  ·rintro⟨hn,hq⟩ hl;refine CJ (l':=[(3,rv hq)]) (H':=[.blk hh [rB o.fMade,rv hd,rv (.map (some he)),rv (.map (some hf)),rv hb] 59,.row hd 9 1 (Ax eS o.fEvents),.map he (A8 Aj o.fResults),.map hf (A8 Ad o.fKeys),.row hb 67 8 (Ax Ae o.fPending),.row hq 67 8 (Ax Ae hn)]) Aa Aa ?_;replace hl:G9 hn=some r:=hl;unfold G9 at hl;refine Bf (AT (Al (wm Aa (wa Aa (Au (A0 (WK.freeze (i:=5) Aa (WK.up (d:=2) (r:=AU 8 (Ax Ae hn)) Aa (Up.fact (i:=0) Aa) ?_))))))));obtain rfl:=A1 hl;exact Az (BW VN (AI Aa)) (sS (sC (sC (sC (sC (sC sN)))))) ⟨Aa,Aa⟩
theorem SY (hf:Nat)(ha:Value)(hb:Nat)(hd:Nat)(he:Value)(o:AG)(r:(List An))(h:OS o=some r):Fn Tryz.prog GE 17 [rP hf 0] [.blk hf [rB o.fMade,rv ha,rv (.map (some hb)),rv (.map (some hd)),rv he] 59,.row ha 9 1 (Ax eS o.fEvents),.map hb (A8 Aj o.fResults),.map hd (A8 Ad o.fKeys),.row he 67 8 (Ax Ae o.fPending)] (λR H=>R=AU 1 (Ax eS r)∧H=[.blk hf [rB o.fMade,rv ha,rv (.map (some hb)),rv (.map (some hd)),rv he] 59,.row ha 9 1 (Ax eS o.fEvents),.map hb (A8 Aj o.fResults),.map hd (A8 Ad o.fKeys),.row he 67 8 (Ax Ae o.fPending)]):=by
 refine enter (n:=11) Tryz.func17 Aa Tryz.ntmps17 Aa (λw Z=>?_);unfold OS at h;refine Al (wa Aa (Au (Aq (Al (wm Aa (ob h λr1 e3 h2=>CV (Hr:=[.row ha 9 1 (Ax eS o.fEvents),.map hb (A8 Aj o.fResults),.map hd (A8 Ad o.fKeys),.row he 67 8 (Ax Ae o.fPending)]) Gn (EJ hf ha hb hd he o r1 e3) Aa (Zp _) Aa ?_))))));rintro _ _ ⟨rfl,rfl⟩;refine wv (B7 Aa) (Au (cz h2 Aa (λc4 h5=>?_) (λc4 h6=>?_)))
 ·refine Al (wa Aa (Au (A0 (Af (WK.up (d:=2) (r:=AU 1 (Ax eS ([]:List An))) Aa (Up.le (HZ.nil _)) ?_)))));obtain rfl:=A1 h5;exact Az (BW VO (AI Aa)) (sC (sC (sC (sC (sC sN))))) ⟨Aa,Aa⟩
 ·refine A3 (AT (Al (wm Aa (wv (A2 Aa) (vF E2 Aa Hd (vL 0 LE Aa (ob h6 λr7 e9 h8=>CV (Hr:=[.blk hf [rB o.fMade,rv ha,rv (.map (some hb)),rv (.map (some hd)),rv he] 59,.map hb (A8 Aj o.fResults),.map hd (A8 Ad o.fKeys),.row he 67 8 (Ax Ae o.fPending)]) Tryz.call43 (Ty ha o.fEvents r7 e9) Aa ((Ak (i:=1) Aa).trans (Zo _ (Zp _))) Aa ?_)))))));rintro _ _ ⟨hg,rfl,rfl⟩;refine wa Aa (Au (A0 (WK.freeze (i:=0) Aa (WK.up (d:=2) (r:=AU 1 (Ax eS r7)) Aa (Up.fact (i:=0) Aa) (BF (H2:=[.blk hf [rB o.fMade,rv ha,rv (.map (some hb)),rv (.map (some hd)),rv he] 59,.row ha 9 1 (Ax eS o.fEvents),.map hb (A8 Aj o.fResults),.map hd (A8 Ad o.fKeys),.row he 67 8 (Ax Ae o.fPending),.fact hg (AU 1 (Ax eS r7))]) ((Ak (i:=2) Aa).trans (Zo _ ((Ak (i:=1) Aa).trans (Zo _ ((Ak (i:=1) Aa).trans (Zo _ ((Ak (i:=1) Aa).trans (Zo _ ((Ak (i:=1) Aa).trans (Zo _ (Zp _))))))))))) ?_)))));obtain rfl:=A1 h8;exact Az (BW VO (AI Aa)) (sC (sC (sC (sC (sC (sS sN)))))) ⟨Aa,Aa⟩
theorem QY (F:Nat)(hf:Nat)(ha:Value)(hb:Nat)(hd:Nat)(he:Value)(o:AG)(id:An)(r:Int×AG)(h:UK F o id=some r):Fn Tryz.prog GE 36 [rP hf 0,rS id] [.blk hf [rB o.fMade,rv ha,rv (.map (some hb)),rv (.map (some hd)),rv he] 59,.row ha 9 1 (Ax eS o.fEvents),.map hb (A8 Aj o.fResults),.map hd (A8 Ad o.fKeys),.row he 67 8 (Ax Ae o.fPending)] (λR H=>∃w0_1:Value,∃w0_4:Value,R=As r.1∧H=[.blk hf [rB r.2.fMade,rv w0_1,rv (.map (some hb)),rv (.map (some hd)),rv w0_4] 59,.row w0_1 9 1 (Ax eS r.2.fEvents),.map hb (A8 Aj r.2.fResults),.map hd (A8 Ad r.2.fKeys),.row w0_4 67 8 (Ax Ae r.2.fPending)]):=by
 refine enter (n:=29) Tryz.func36 Aa Tryz.ntmps36 Aa (λw Z=>?_);unfold UK at h;refine Al (P5 Aa (Bw Aa) Aa (λb1=>?_));refine wa Aa (Au (Aq (Al (wm Aa (ob h λr2 e4 h3=>CV (Hr:=[.blk b1 [rS id] 9,.row ha 9 1 (Ax eS o.fEvents),.map hb (A8 Aj o.fResults),.map hd (A8 Ad o.fKeys),.row he 67 8 (Ax Ae o.fPending)]) Gn (EJ hf ha hb hd he o r2 e4) Aa ((Ak (i:=1) Aa).trans (Zo _ (Zp _))) Aa ?_)))));rintro _ _ ⟨rfl,rfl⟩;refine wv (B7 Aa) (Au (cz h3 Aa (λc5 h6=>?_) (λc5 h7=>?_)))
 ·refine Al (wa Aa (Au (A0 (Af ?_))));obtain rfl:=A1 h6;exact Az (BW TK (AI Aa)) (sC (sS (sC (sC (sC (sC sN)))))) ⟨ha,he,Aa,Aa⟩
 ·refine A3 (AT (Al (wm Aa (wv (A2 Aa) (vF E2 Aa Ml (vL 0 QC Aa (wv (r:=rv (.func (.func 69) #[] #[(.pointer (some ⟨b1,0,none⟩))])) (JN Aa) (ob h7 λr8 hj h9=>CV (Hr:=[.blk hf [rB o.fMade,rv ha,rv (.map (some hb)),rv (.map (some hd)),rv he] 59,.row ha 9 1 (Ax eS o.fEvents),.map hb (A8 Aj o.fResults),.map hd (A8 Ad o.fKeys)]) Tryz.call68 (Vd F he b1 o.fPending id r8 hj) Aa ((Ak (i:=5) Aa).trans (Zo _ ((Ak (i:=1) Aa).trans (Zo _ (Zp _))))) Aa ?_))))))));rintro _ _ ⟨rfl,rfl⟩;refine wa Aa (Au (Aq (Al (wm Aa (wv (CZ Aa Aa) (Au (cz h9 Aa (λhk hl=>?_) (λhk hm=>?_))))))))
  ·refine Al (wa Aa (Au (A0 (Af (BF (H2:=[.blk hf [rB o.fMade,rv ha,rv (.map (some hb)),rv (.map (some hd)),rv he] 59,.row ha 9 1 (Ax eS o.fEvents),.map hb (A8 Aj o.fResults),.map hd (A8 Ad o.fKeys),.row he 67 8 (Ax Ae o.fPending),.blk b1 [rS id] 9]) ((Ak (i:=2) Aa).trans (Zo _ ((Ak (i:=2) Aa).trans (Zo _ ((Ak (i:=2) Aa).trans (Zo _ ((Ak (i:=2) Aa).trans (Zo _ (Zp _))))))))) ?_)))));obtain rfl:=A1 hl;exact Az (BW TK (AI Aa)) (sC (sC (sC (sC (sC (sS sN)))))) ⟨ha,he,Aa,Aa⟩
  ·refine A3 (AT (Al (wm Aa (wm Aa (wv (A2 Aa) (vF E2 Aa Ml (vL 2 QC Aa (ob hm λhi hn ho=>CV (Hr:=[.blk b1 [rS id] 9,.blk hf [rB o.fMade,rv ha,rv (.map (some hb)),rv (.map (some hd)),rv he] 59,.row ha 9 1 (Ax eS o.fEvents),.map hb (A8 Aj o.fResults),.map hd (A8 Ad o.fKeys)]) Tryz.call71 (Tz he o.fPending hi hn) Aa (Zp _) Aa ?_))))))));rintro _ _ ⟨hp,rfl,rfl⟩;refine wm Aa (wm Aa (ck ho λg18 hq=>wv (BJ Aa Aa g18) (ob hq λhh hr hs=>CV (Hr:=[.row he 67 8 (Ax Ae o.fPending),.blk b1 [rS id] 9,.blk hf [rB o.fMade,rv ha,rv (.map (some hb)),rv (.map (some hd)),rv he] 59,.row ha 9 1 (Ax eS o.fEvents),.map hb (A8 Aj o.fResults),.map hd (A8 Ad o.fKeys)]) Tryz.call70 (Tu hp hi r8 (r8+1) hh hr) Aa (Zp _) Aa ?_)));rintro _ _ ⟨hg,rfl,rfl⟩;refine wv (A2 Aa) (vF E2 Aa Ml (Bv (i:=3) Ml Aa Aa (Cl (i:=0) Aa) Aa Aa (cs':=[rB o.fMade,rv ha,rv (.map (some hb)),rv (.map (some hd)),rv hg]) Aa (H':=[.row hg 67 8 (Ax Ae hh),.row he 67 8 (Ax Ae o.fPending),.blk b1 [rS id] 9,.blk hf [rB o.fMade,rv ha,rv (.map (some hb)),rv (.map (some hd)),rv hg] 59,.row ha 9 1 (Ax eS o.fEvents),.map hb (A8 Aj o.fResults),.map hd (A8 Ad o.fKeys)]) Aa (Bk (wa Aa (Au (A0 (BF (H2:=[.blk hf [rB o.fMade,rv ha,rv (.map (some hb)),rv (.map (some hd)),rv hg] 59,.row ha 9 1 (Ax eS o.fEvents),.map hb (A8 Aj o.fResults),.map hd (A8 Ad o.fKeys),.row hg 67 8 (Ax Ae hh),.row he 67 8 (Ax Ae o.fPending),.blk b1 [rS id] 9]) ((Ak (i:=3) Aa).trans (Zo _ ((Ak (i:=3) Aa).trans (Zo _ ((Ak (i:=3) Aa).trans (Zo _ ((Ak (i:=3) Aa).trans (Zo _ (Zp _))))))))) ?_)))))));obtain rfl:=A1 hs;exact Az (BW TK (AI Aa)) (sC (sC (sC (sC (sC (sS (sS sN))))))) ⟨ha,hg,Aa,Aa⟩
theorem MN (F:Nat)(hh:Nat)(hb:Value)(hd:Nat)(he:Nat)(hf:Value)(o:AG)(tenant:An)(r:(List Bn))(h:MO F o tenant=some r):Fn Tryz.prog GE 23 [rP hh 0,rS tenant] [.blk hh [rB o.fMade,rv hb,rv (.map (some hd)),rv (.map (some he)),rv hf] 59,.row hb 9 1 (Ax eS o.fEvents),.map hd (A8 Aj o.fResults),.map he (A8 Ad o.fKeys),.row hf 67 8 (Ax Ae o.fPending)] (λR H=>R=AU 3 (Ax BE r)∧H=[.blk hh [rB o.fMade,rv hb,rv (.map (some hd)),rv (.map (some he)),rv hf] 59,.row hb 9 1 (Ax eS o.fEvents),.map hd (A8 Aj o.fResults),.map he (A8 Ad o.fKeys),.row hf 67 8 (Ax Ae o.fPending)]):=by
 refine enter (n:=56) Tryz.func23 Aa Tryz.ntmps23 Aa (λw Z=>?_);unfold MO at h;refine Al (wa Aa (Au (Aq (Al (wm Aa (ob h λr1 e3 h2=>CV (Hr:=[.row hb 9 1 (Ax eS o.fEvents),.map hd (A8 Aj o.fResults),.map he (A8 Ad o.fKeys),.row hf 67 8 (Ax Ae o.fPending)]) Gn (EJ hh hb hd he hf o r1 e3) Aa (Zp _) Aa ?_))))));rintro _ _ ⟨rfl,rfl⟩;refine wv (B7 Aa) (Au (cz h2 Aa (λc4 h5=>?_) (λc4 h6=>?_)))
 ·refine Al (wa Aa (Au (A0 (Af (WK.up (d:=4) (r:=AU 3 (Ax BE ([]:List Bn))) Aa (Up.le (HZ.nil _)) ?_)))));obtain rfl:=A1 h5;exact Az (BW VM (AI Aa)) (sC (sC (sC (sC (sC sN))))) ⟨Aa,Aa⟩
 ·refine A3 (AT (Al (wa Aa (Au (Aq (Al (wm Aa (wv (A2 Aa) (vF E2 Aa S4 (vL 0 S9 Aa (wm Aa (wv (r:=KI (A8 Ao (B3 o.fKeys tenant ([]:(List (An×Ah)))))) (KV (enc:=Ad) (xs:=o.fKeys) (z:=([]:(List (An×Ah)))) (i:=3) S3 C4 VG CA Aa Aa Aa) (Mu JZ Aa Aa (λb7=>?_))))))))))))));refine Au (AO (WC.nilrow (e:=9) (sz:=1) (G5 (H2:=[.itz b7 (A8 Ao (B3 o.fKeys tenant ([]:(List (An×Ah))))) (A8 Ao (B3 o.fKeys tenant ([]:(List (An×Ah))))) none,.blk hh [rB o.fMade,rv hb,rv (.map (some hd)),rv (.map (some he)),rv hf] 59,.row hb 9 1 (Ax eS o.fEvents),.map hd (A8 Aj o.fResults),.map he (A8 Ad o.fKeys),.row hf 67 8 (Ax Ae o.fPending),.row (.slice none 0 0         ) 9 1 (Ax eS ([]:List An))]) ((Ak (i:=1) Aa).trans (Zo _ ((Ak (i:=1) Aa).trans (Zo _ ((Ak (i:=1) Aa).trans (Zo _ ((Ak (i:=1) Aa).trans (Zo _ ((Ak (i:=1) Aa).trans (Zo _ ((Ak (i:=1) Aa).trans (Zo _ (Zp _))))))))))))) ?_)));have hB:=Ra h6;refine B4 (S:=(List (An×Ah))×((List An))×(Value)) (V:=((List An))×(Value)) 0 (λσ=>∀qo:List (An×Ah),qo.Perm σ.1→Bq (Rc (λpe τ=>Jc pe.1 pe.2 τ) qo σ.2.1) (Ch λν=>Gj F o tenant ν)=some r) (λσ=>[(0,rP hh 0),(1,rS tenant),(4,rv (.slice none 0 0)),(5,rv σ.2.2),(20,rP b7 0)]) (λσ=>[.itz b7 (A8 Ao (B3 o.fKeys tenant ([]:(List (An×Ah))))) (A8 Ao σ.1) none,.blk hh [rB o.fMade,rv hb,rv (.map (some hd)),rv (.map (some he)),rv hf] 59,.row hb 9 1 (Ax eS o.fEvents),.map hd (A8 Aj o.fResults),.map he (A8 Ad o.fKeys),.row hf 67 8 (Ax Ae o.fPending),.row σ.2.2 9 1 (Ax eS σ.2.1)]) (λσ=>σ.1.length) (B3 o.fKeys tenant ([]:(List (An×Ah))),([]:List An),(.slice none 0 0         )) hB (AL.c5 Aa Aa Aa Aa Aa AL.nil) (sC (sC (sC (sC (sC (sC (sC sN))))))) (λσ=>Gj F o tenant σ.1=some r) (λσ=>[(0,rP hh 0),(1,rS tenant),(4,rv (.slice none 0 0)),(5,rv σ.2)]) (λσ=>[.blk hh [rB o.fMade,rv hb,rv (.map (some hd)),rv (.map (some he)),rv hf] 59,.row hb 9 1 (Ax eS o.fEvents),.map hd (A8 Aj o.fResults),.map he (A8 Ad o.fKeys),.row hf 67 8 (Ax Ae o.fPending),.row σ.2 9 1 (Ax eS σ.1)]) ?_ ?_
  ·rintro⟨h0,hl,hq⟩ h1;refine Cf (l':=[(0,rP hh 0),(1,rS tenant),(4,rv (.slice none 0 0)),(5,rv hq),(20,rP b7 0)]) (H':=[.itz b7 (A8 Ao (B3 o.fKeys tenant ([]:(List (An×Ah))))) (A8 Ao h0) none,.blk hh [rB o.fMade,rv hb,rv (.map (some hd)),rv (.map (some he)),rv hf] 59,.row hb 9 1 (Ax eS o.fEvents),.map hd (A8 Aj o.fResults),.map he (A8 Ad o.fKeys),.row hf 67 8 (Ax Ae o.fPending),.row hq 9 1 (Ax eS hl)]) Aa Aa (Al (Oy (enc:=Ao) (ys:=h0) (i:=0) Aa Aa Aa (λhy=>?_) (λp hw h3=>?_)))
   ·have hC:Gj F o tenant hl=some r:=OX h1 hy;exact wv (A4 Aa Aa) (Au (Aq (Db Aa Aa (BB (A9 (A9 (Bh (AK (hl,hq) hC (AL.c Aa (AL.c Aa (AL.c Aa (AL.c Aa AL.nil)))) (sS (sC (sC (sC (sC (sC (sC sN)))))))))))))))
   ·obtain⟨hi,hx⟩:=p;obtain⟨hD,hr,hE⟩:=UX h1 h3;replace hr:Jc hi hx hl=some hD:=hr;unfold Jc at hr;refine QD (H':=[.itz b7 (A8 Ao (B3 o.fKeys tenant ([]:(List (An×Ah))))) (A8 Ao hw) (some (hi,Ao hx)),.blk hh [rB o.fMade,rv hb,rv (.map (some hd)),rv (.map (some he)),rv hf] 59,.row hb 9 1 (Ax eS o.fEvents),.map hd (A8 Aj o.fResults),.map he (A8 Ad o.fKeys),.row hf 67 8 (Ax Ae o.fPending),.row hq 9 1 (Ax eS hl)]) Aa (wv (A4 Aa Aa) (Au (Aq (BK Aa Aa (A3 (AT (AO (Al (wv (r:=Cn [rS hi,B9 (BM hx)]) (MK (i:=0) Aa Aa) (wv (A4 Aa Aa) (wa Aa (Au (At (wm Aa (wm Aa (Ba (ys:=([hi]:List An)) (enc:=eS) (css:=[[rS hi]]) (xs:=[.tmp 26]) Ct Cs R2 Aa Aa Aa ⟨DH.one Aa (Up.refl _),trivial⟩ Aa Dg Aa Aa Aa (λhG=>?_)))))))))))))))));refine ck hr λhH hI=>Exists.elim MX λinf hinf=>BQ (xs:=hl) (ys:=([hi]:List An)) (enc:=eS) (i:=7) Ct hinf.1 hinf.2.1 hinf.2.2.1 hinf.2.2.2 Aa Aa Aa Aa Aa (HY.w (i:=0) Aa Aa) Dg JS hH Aa (λh4=>?_);refine wa Aa (Av (AH (WK.uncurz (i:=2) Aa (BF (H2:=[.itz b7 (A8 Ao (B3 o.fKeys tenant ([]:(List (An×Ah))))) (A8 Ao hw) none,.blk hh [rB o.fMade,rv hb,rv (.map (some hd)),rv (.map (some he)),rv hf] 59,.row hb 9 1 (Ax eS o.fEvents),.map hd (A8 Aj o.fResults),.map he (A8 Ad o.fKeys),.row hf 67 8 (Ax Ae o.fPending),.row h4 9 1 (Ax eS (hl++([hi]:List An))),.row (.slice (some ⟨hG,0,none⟩) 1 1) 9 1 (Ax eS ([hi]:List An))]) ((Ak (i:=2) Aa).trans (Zo _ ((Ak (i:=2) Aa).trans (Zo _ ((Ak (i:=2) Aa).trans (Zo _ ((Ak (i:=2) Aa).trans (Zo _ ((Ak (i:=2) Aa).trans (Zo _ ((Ak (i:=2) Aa).trans (Zo _ (Zp _))))))))))))) ?_))));have hJ:=La hI hE;exact A5 (AK (hw,hl++([hi]:List An),h4) ⟨hJ,OD h3⟩ (AL.c5 Aa Aa Aa Aa Aa AL.nil) (sC (sC (sC (sC (sC (sC (sC (sS sN)))))))))
  ·rintro⟨ha,hn⟩ hs;refine CJ (l':=[(0,rP hh 0),(1,rS tenant),(4,rv (.slice none 0 0)),(5,rv hn)]) (H':=[.blk hh [rB o.fMade,rv hb,rv (.map (some hd)),rv (.map (some he)),rv hf] 59,.row hb 9 1 (Ax eS o.fEvents),.map hd (A8 Aj o.fResults),.map he (A8 Ad o.fKeys),.row hf 67 8 (Ax Ae o.fPending),.row hn 9 1 (Ax eS ha)]) Aa Aa ?_;replace hs:Gj F o tenant ha=some r:=hs;unfold Gj at hs;refine Bf (AT (Al (wa Aa (Au (Aq (Al (wm Aa (ck hs λhK hL=>Cu (rs:=[rv hn]) (Hin:=[.row hn 9 1 (Ax eS ha)]) (Hr:=[.blk hh [rB o.fMade,rv hb,rv (.map (some hd)),rv (.map (some he)),rv hf] 59,.row hb 9 1 (Ax eS o.fEvents),.map hd (A8 Aj o.fResults),.map he (A8 Ad o.fKeys),.row hf 67 8 (Ax Ae o.fPending)]) Tryz.call45 Aa ((Ak (i:=5) Aa).trans (Zo _ (Zp _))) (Tm hn ha hK) Aa ?_))))))));rintro _ _ ⟨hj,rfl,rfl⟩;refine wv (BP (ys:=Bz ha) (enc:=eS) (i:=0) Ct Aa Aa) (wv (r:=As 0) (Aw Aa) (Au (AO (WC.nilrow (e:=75) (sz:=3) (G5 (H2:=[.row hj 9 1 (Ax eS (Bz ha)),.blk hh [rB o.fMade,rv hb,rv (.map (some hd)),rv (.map (some he)),rv hf] 59,.row hb 9 1 (Ax eS o.fEvents),.map hd (A8 Aj o.fResults),.map he (A8 Ad o.fKeys),.row hf 67 8 (Ax Ae o.fPending),.row (.slice none 0 0                                                                           ) 75 3 (Ax BE ([]:List Bn)),.row hn 9 1 (Ax eS ha)]) ((Ak (i:=1) Aa).trans (Zo _ ((Ak (i:=2) Aa).trans (Zo _ ((Ak (i:=2) Aa).trans (Zo _ ((Ak (i:=2) Aa).trans (Zo _ ((Ak (i:=2) Aa).trans (Zo _ ((Ak (i:=2) Aa).trans (Zo _ (Zp _))))))))))))) (ob hL λhN hO hP=>B4 (S:=Nat×((List Bn)×Int)×(Value)) (V:=((List Bn))×(Value)) 2 (λσ=>Cz (λσ=>Jb o tenant ha σ.1 σ.2) σ.1 σ.2.1=some hN) (λσ=>[(0,rP hh 0),(1,rS tenant),(7,rv σ.2.2),(30,rv hj),(31,As ((Bz ha).length:Int)),(32,As σ.2.1.2)]) (λσ=>[.row hj 9 1 (Ax eS (Bz ha)),.blk hh [rB o.fMade,rv hb,rv (.map (some hd)),rv (.map (some he)),rv hf] 59,.row hb 9 1 (Ax eS o.fEvents),.map hd (A8 Aj o.fResults),.map he (A8 Ad o.fKeys),.row hf 67 8 (Ax Ae o.fPending),.row σ.2.2 75 3 (Ax BE σ.2.1.1)]) (λσ=>σ.1) (F,(([]:List Bn),0),(.slice none 0 0                                                                           )) hO (AL.c Aa (AL.c5 Aa Aa Aa Aa Aa AL.nil)) (sC (sC (sC (sC (sC (sC (sC (sS sN)))))))) (λσ=>Ja σ.1=some r) (λσ=>[(7,rv σ.2)]) (λσ=>[.blk hh [rB o.fMade,rv hb,rv (.map (some hd)),rv (.map (some he)),rv hf] 59,.row hb 9 1 (Ax eS o.fEvents),.map hd (A8 Aj o.fResults),.map he (A8 Ad o.fKeys),.row hf 67 8 (Ax Ae o.fPending),.row σ.2 75 3 (Ax BE σ.1)]) ?_ ?_))))))
   ·rintro⟨gf,⟨hm,hg⟩,ho⟩ hQ;refine Cf (l':=[(0,rP hh 0),(1,rS tenant),(7,rv ho),(30,rv hj),(31,As ((Bz ha).length:Int)),(32,As hg)]) (H':=[.row hj 9 1 (Ax eS (Bz ha)),.blk hh [rB o.fMade,rv hb,rv (.map (some hd)),rv (.map (some he)),rv hf] 59,.row hb 9 1 (Ax eS o.fEvents),.map hd (A8 Aj o.fResults),.map he (A8 Ad o.fKeys),.row hf 67 8 (Ax Ae o.fPending),.row ho 75 3 (Ax BE hm)]) Aa Aa ?_;obtain⟨hR,rfl,hS,ht,h7⟩:=CO hQ;replace ht:Jb o tenant ha hm hg=some hS:=ht;unfold Jb at ht;refine Al (wv (CZ Aa Aa) (Au (Aq (cz ht Aa (λhT hU=>?_) (λhT hV=>?_)))))
    ·refine A3 (AT (Aq (AO (Al (ck hU λh8 hW=>wv (r:=rv (DN 1 hj (Bi hg) 0)) (DC (i:=0) Ct Cs Aa Aa Aa (B6 h8)) (wv (r:=rS (Ap (Bz ha) hg)) (EP (enc:=eS) (ys:=Bz ha) (i:=0) (j:=hg) C7 Aa Aa h8 Aa) (wa Aa (Bk (wm Aa (wv (A2 Aa) (vF E2 Aa S4 (vL 1 S9 Aa (wm Aa (wv (r:=KI (A8 Ao (B3 o.fKeys tenant ([]:(List (An×Ah)))))) (KV (enc:=Ad) (xs:=o.fKeys) (z:=([]:(List (An×Ah)))) (i:=4) S3 C4 VG CA Aa Aa Aa) (wm Aa (wv (r:=B9 (BM (B3 (B3 o.fKeys tenant ([]:(List (An×Ah)))) (Ap (Bz ha) hg) (Ah.mk ([]:(List Ac)) 0)))) (U9 (enc:=Ao) (xs:=B3 o.fKeys tenant ([]:(List (An×Ah)))) (z:=Ah.mk ([]:(List Ac)) 0) JZ C4 Sz Ev Aa Aa) (BR (cs:=[rv (.slice none 0 0),As 0]) Sz Aa Aa (λhp=>?_))))))))))))))))));refine Bj (i:=0) TG Aa Aa Aa (Cj.c Aa) Aa Aa (cs':=[AU 4 (Ax Ab ((B3 (B3 o.fKeys tenant ([]:(List (An×Ah)))) (Ap (Bz ha) hg) (Ah.mk ([]:(List Ac)) 0)).fValue)),As ((B3 (B3 o.fKeys tenant ([]:(List (An×Ah)))) (Ap (Bz ha) hg) (Ah.mk ([]:(List Ac)) 0)).fVersion)]) Aa (H':=[.blk hp (BM (B3 (B3 o.fKeys tenant ([]:(List (An×Ah)))) (Ap (Bz ha) hg) (Ah.mk ([]:(List Ac)) 0))) 90,.row hj 9 1 (Ax eS (Bz ha)),.blk hh [rB o.fMade,rv hb,rv (.map (some hd)),rv (.map (some he)),rv hf] 59,.row hb 9 1 (Ax eS o.fEvents),.map hd (A8 Aj o.fResults),.map he (A8 Ad o.fKeys),.row hf 67 8 (Ax Ae o.fPending),.row ho 75 3 (Ax BE hm)]) Aa (Au (ob hW λhk hX hY=>CL 9 [0,1,7,9,10,30,31,32] [⟨[],rv ho,none,none,none⟩,⟨[],rS (Ap (Bz ha) hg),none,none,none⟩,⟨[],rP hp 0,none,none,none⟩,⟨[2],AU 4 (Ax Ab ((B3 (B3 o.fKeys tenant ([]:(List (An×Ah)))) (Ap (Bz ha) hg) (Ah.mk ([]:(List Ac)) 0)).fValue)),none,none,none⟩,⟨[3],AU 4 (Ax Ab hk),none,none,none⟩,⟨[],rP hp 1,none,none,none⟩,⟨[5],As ((B3 (B3 o.fKeys tenant ([]:(List (An×Ah)))) (Ap (Bz ha) hg) (Ah.mk ([]:(List Ac)) 0)).fVersion),none,none,none⟩,⟨[1,4,6],B9 [rS (Ap (Bz ha) hg),AU 4 (Ax Ab hk),As ((B3 (B3 o.fKeys tenant ([]:(List (An×Ah)))) (Ap (Bz ha) hg) (Ah.mk ([]:(List Ac)) 0)).fVersion)],none,none,none⟩,⟨[7],AU 3 (Ax BE ([(Bn.mk (Ap (Bz ha) hg) hk ((B3 (B3 o.fKeys tenant ([]:(List (An×Ah)))) (Ap (Bz ha) hg) (Ah.mk ([]:(List Ac)) 0)).fVersion))]:List Bn)),none,none,none⟩] ?_ (λβ=>?_)))
     ·refine CN (Aw Aa) (CN (Aw Aa) (CN (Ay VI Aa CD Aa Aa) (Gi (AQ (i:=0) Es Aa Aa Aa) (KU (Et Q9 (G1 ((B3 (B3 o.fKeys tenant ([]:(List (An×Ah)))) (Ap (Bz ha) hg) (Ah.mk ([]:(List Ac)) 0)).fValue) hk hX) Aa) (CN (Ay VI Aa C2 Aa Aa) (Gi (AQ (i:=0) CQ Aa Aa Aa) (CN (LH Aa Aa Aa Aa Aa Aa) (KU (Cq (ys:=([(Bn.mk (Ap (Bz ha) hg) hk ((B3 (B3 o.fKeys tenant ([]:(List (An×Ah)))) (Ap (Bz ha) hg) (Ah.mk ([]:(List Ac)) 0)).fVersion))]:List Bn)) (enc:=BE) (css:=[[rS (Ap (Bz ha) hg),AU 4 (Ax Ab hk),As ((B3 (B3 o.fKeys tenant ([]:(List (An×Ah)))) (Ap (Bz ha) hg) (Ah.mk ([]:(List Ac)) 0)).fVersion)]]) (xs:=[.tmp 51]) Ow Tryz.sizeOf75 Tryz.zeroValue75 Aa Aa Aa ⟨DH.agg ⟨Up.refl _,Up.refl _,Up.refl _,trivial⟩,trivial⟩ Aa JB Aa Aa) ?_))))))));exact OH
     refine CK (H1:=[.blk hp (BM (B3 (B3 o.fKeys tenant ([]:(List (An×Ah)))) (Ap (Bz ha) hg) (Ah.mk ([]:(List Ac)) 0))) 90,.row hj 9 1 (Ax eS (Bz ha)),.blk hh [rB o.fMade,rv hb,rv (.map (some hd)),rv (.map (some he)),rv hf] 59,.row hb 9 1 (Ax eS o.fEvents),.map hd (A8 Aj o.fResults),.map he (A8 Ad o.fKeys),.row hf 67 8 (Ax Ae o.fPending),.row ho 75 3 (Ax BE hm)]) [44,45,46,47,48,49,50,51,52,0,1,7,9,10,30,31,32] ?_;refine ck hY λhZ ga=>Exists.elim XB λinf hinf=>BQ (xs:=hm) (ys:=([(Bn.mk (Ap (Bz ha) hg) hk ((B3 (B3 o.fKeys tenant ([]:(List (An×Ah)))) (Ap (Bz ha) hg) (Ah.mk ([]:(List Ac)) 0)).fVersion))]:List Bn)) (enc:=BE) (i:=7) Ow hinf.1 hinf.2.1 hinf.2.2.1 hinf.2.2.2 Aa Aa Aa Aa Aa (HY.z Aa Aa) JB NA hZ Aa (λh9=>?_);refine wa Aa (Av (AH (AT (At (ck ga λgb gc=>wv (BJ Aa Aa gb) (wm Aa (Av (BF (H2:=[.row hj 9 1 (Ax eS (Bz ha)),.blk hh [rB o.fMade,rv hb,rv (.map (some hd)),rv (.map (some he)),rv hf] 59,.row hb 9 1 (Ax eS o.fEvents),.map hd (A8 Aj o.fResults),.map he (A8 Ad o.fKeys),.row hf 67 8 (Ax Ae o.fPending),.row h9 75 3 (Ax BE (hm++([(Bn.mk (Ap (Bz ha) hg) hk ((B3 (B3 o.fKeys tenant ([]:(List (An×Ah)))) (Ap (Bz ha) hg) (Ah.mk ([]:(List Ac)) 0)).fVersion))]:List Bn))),.blk hp (BM (B3 (B3 o.fKeys tenant ([]:(List (An×Ah)))) (Ap (Bz ha) hg) (Ah.mk ([]:(List Ac)) 0))) 90]) ((Ak (i:=2) Aa).trans (Zo _ ((Ak (i:=2) Aa).trans (Zo _ ((Ak (i:=2) Aa).trans (Zo _ ((Ak (i:=2) Aa).trans (Zo _ ((Ak (i:=2) Aa).trans (Zo _ ((Ak (i:=2) Aa).trans (Zo _ (Zp _))))))))))))) ?_))))))));have gd:=B8 gc h7;exact A5 (AK (hR,(hm++([(Bn.mk (Ap (Bz ha) hg) hk ((B3 (B3 o.fKeys tenant ([]:(List (An×Ah)))) (Ap (Bz ha) hg) (Ah.mk ([]:(List Ac)) 0)).fVersion))]:List Bn),hg+1),h9) ⟨gd,Z3 _⟩ (AL.c Aa (AL.c5 Aa Aa Aa Aa Aa AL.nil)) (sC (sC (sC (sC (sC (sC (sC (sS sN)))))))))
    ·refine BB (A9 ?_);have ge:=Cv hV h7 hP;exact A9 (Bh (AK (hm,ho) ge (AL.c Aa AL.nil) (sS (sC (sC (sC (sC (sC (sC sN)))))))))
   ·rintro⟨hz,hA⟩ hu;refine CJ (l':=[(7,rv hA)]) (H':=[.blk hh [rB o.fMade,rv hb,rv (.map (some hd)),rv (.map (some he)),rv hf] 59,.row hb 9 1 (Ax eS o.fEvents),.map hd (A8 Aj o.fResults),.map he (A8 Ad o.fKeys),.row hf 67 8 (Ax Ae o.fPending),.row hA 75 3 (Ax BE hz)]) Aa Aa ?_;replace hu:Ja hz=some r:=hu;unfold Ja at hu;refine Bf (AT (Al (wm Aa (wa Aa (Au (A0 (WK.freeze (i:=5) Aa (WK.up (d:=4) (r:=AU 3 (Ax BE hz)) Aa (Up.fact (i:=0) Aa) ?_))))))));obtain rfl:=A1 hu;exact Az (BW VM (AI Aa)) (sS (sC (sC (sC (sC (sC sN)))))) ⟨Aa,Aa⟩
theorem Ta (F:Nat)(hd:Nat)(hg:Value)(ha:Nat)(hb:Nat)(he:Value)(o:AG)(c:AP)(r:Bool×Int×AG)(h:OV F o c=some r):Fn Tryz.prog GE 35 [rP hd 0,B9 (AW c)] [.blk hd [rB o.fMade,rv hg,rv (.map (some ha)),rv (.map (some hb)),rv he] 59,.row hg 9 1 (Ax eS o.fEvents),.map ha (A8 Aj o.fResults),.map hb (A8 Ad o.fKeys),.row he 67 8 (Ax Ae o.fPending)] (λR H=>∃w0_1:Value,∃w0_4:Value,R=Cn [rB r.1,As r.2.1]∧H=[.blk hd [rB r.2.2.fMade,rv w0_1,rv (.map (some ha)),rv (.map (some hb)),rv w0_4] 59,.row w0_1 9 1 (Ax eS r.2.2.fEvents),.map ha (A8 Aj r.2.2.fResults),.map hb (A8 Ad r.2.2.fKeys),.row w0_4 67 8 (Ax Ae r.2.2.fPending)]):=by
 refine enter (n:=131) TR Aa TL Aa (λw Z=>?_);unfold OV at h;refine Al (BX Aa Aa (λb1=>?_));refine wa Aa (wa Aa (Au (Aq (Al (wm Aa (ob h λr2 e4 h3=>CV (Hr:=[.blk b1 (AW c) 34,.row hg 9 1 (Ax eS o.fEvents),.map ha (A8 Aj o.fResults),.map hb (A8 Ad o.fKeys),.row he 67 8 (Ax Ae o.fPending)]) Gn (EJ hd hg ha hb he o r2 e4) Aa ((Ak (i:=1) Aa).trans (Zo _ (Zp _))) Aa ?_))))));rintro _ _ ⟨rfl,rfl⟩;refine wv (B7 Aa) (Au (cz h3 Aa (λc5 h6=>?_) (λc5 h7=>?_)))
 ·refine Al (wa Aa (wa Aa (Au (A0 (Af ?_)))));obtain rfl:=A1 h6;exact Az (Dq JE (AI Aa) (AI Aa)) (sC (sS (sC (sC (sC (sC sN)))))) ⟨hg,he,Aa,Aa⟩
 ·refine A3 (AT (Aq (Al (wv (AZ (i:=1) E5 Dl Aa Aa Aa Aa) (ob h7 λr8 hI h9=>Di TP (PU F c r8 hI) Aa (wa Aa (Bk (wm Aa (wv (Cr Aa Aa) (Au (cz h9 Aa (λhJ hK=>?_) (λhJ hL=>?_))))))))))))
  ·refine Al (wm Aa (wa Aa (wa Aa (Au (A0 (Af ?_))))));obtain rfl:=A1 hK;exact Az (Dq JE (AI Aa) (AI Aa)) (sC (sS (sC (sC (sC (sC sN)))))) ⟨hg,he,Aa,Aa⟩
  ·refine A3 (AT (Aq (Aq (Dm [0,3] [⟨[],rP hd 0,0⟩,⟨[0],rP hd 0,0⟩,⟨[1],rP hd 2,0⟩,⟨[2],rv (.map (some ha)),1⟩,⟨[],rP b1 0,0⟩,⟨[4],rS c.fEvent,1⟩,⟨[3,5],Cn [AU 4 (Ax Ab (B3 o.fResults c.fEvent ([]:(List Ac)))),rB (E3 o.fResults c.fEvent)],1⟩,⟨[6],Cn [AU 4 (Ax Ab (B3 o.fResults c.fEvent ([]:(List Ac)))),rB (E3 o.fResults c.fEvent)],0⟩,⟨[7],AU 4 (Ax Ab (B3 o.fResults c.fEvent ([]:(List Ac)))),0⟩,⟨[7],rB (E3 o.fResults c.fEvent),0⟩,⟨[8],AU 4 (Ax Ab (B3 o.fResults c.fEvent ([]:(List Ac)))),0⟩,⟨[9],rB (E3 o.fResults c.fEvent),0⟩] [8,0,3] ?_ ?_))))
   ·refine oq (Aw Aa) (oq (A2 Aa) (oq (Ay E2 Aa TH Aa Aa) (of (AQ (i:=0) TS Aa Aa Aa) (oq (Ay Cm Aa Cs Aa Aa) (of (AQ (i:=1) C7 Aa Aa Aa) (of (OJ (enc:=Aj) (xs:=o.fResults) (z:=([]:(List Ac))) (i:=3) TF C4 Xh EC Aa Aa Aa) (oq (Aw Aa) (oq (A4 Aa Aa) (oq (A4 Aa Aa) (oq (A7 Aa) (oq (A7 Aa) ?_)))))))))));exact C9
   refine AT (Al (wm Aa (Au (cz hL Aa (λhN hO=>?_) (λhN hP=>?_)))))
   ·refine Al (wa Aa (wa Aa (Au (A0 (Af ?_)))));obtain rfl:=A1 hO;exact Az (Dq JE (AI Aa) (AI Aa)) (sC (sS (sC (sC (sC (sC sN)))))) ⟨hg,he,Aa,Aa⟩
   ·refine A3 (AT (Aq (Al (wm Aa (wv (A2 Aa) (vF E2 Aa Hd (vL 0 LE Aa (wv (BP (ys:=o.fEvents) (enc:=eS) (i:=2) Ct Aa Aa) (wv (Iq Aa Aa) (Au (cz hP Aa (λhQ hR=>?_) (λhQ hS=>?_))))))))))))
    ·refine Al (wa Aa (wa Aa (Au (A0 (Af ?_)))));obtain rfl:=A1 hR;exact Az (Dq JE (AI Aa) (AI Aa)) (sC (sS (sC (sC (sC (sC sN)))))) ⟨hg,he,Aa,Aa⟩
    ·refine A3 (AT (Al (IU Aa (λhj=>?_))));refine wa Aa (Au (Aq (Aq (CL 7 [0,3,9] [⟨[],rP hd 0,none,none,none⟩,⟨[0],rP hd 0,none,none,none⟩,⟨[1],rP hd 3,none,none,none⟩,⟨[2],rv (.map (some hb)),none,none,none⟩,⟨[],rP b1 1,none,none,none⟩,⟨[4],rS c.fTenant,none,none,none⟩,⟨[3,5],KI (A8 Ao (B3 o.fKeys c.fTenant ([]:(List (An×Ah))))),none,none,none⟩] ?_ (λβ=>?_)))))
     ·refine CN (Aw Aa) (CN (A2 Aa) (CN (Ay E2 Aa S4 Aa Aa) (Gi (AQ (i:=1) S9 Aa Aa Aa) (CN (Ay Cm Aa Cs Aa Aa) (Gi (AQ (i:=2) C7 Aa Aa Aa) (Gi (KV (enc:=Ad) (xs:=o.fKeys) (z:=([]:(List (An×Ah)))) (i:=5) S3 C4 VG CA Aa Aa Aa) ?_))))));exact OH
     refine CK (H1:=[.map hj (A8 Ao ([]:List (An×Ah))),.blk hd [rB o.fMade,rv hg,rv (.map (some ha)),rv (.map (some hb)),rv he] 59,.blk b1 (AW c) 34,.row hg 9 1 (Ax eS o.fEvents),.map ha (A8 Aj o.fResults),.map hb (A8 Ad o.fKeys),.row he 67 8 (Ax Ae o.fPending)]) [43,44,45,46,47,48,49,0,3,9] ?_;refine Mu JZ Aa Aa (λhr=>?_);refine Au (AO ?_);have hT:=Ra hS;refine B4 (S:=(List (An×Ah))×((List (An×Ah)))×(Unit)) (V:=((List (An×Ah)))×(Unit)) 0 (λσ=>∀qo:List (An×Ah),qo.Perm σ.1→Bq (Rc (λpe τ=>HN pe.1 pe.2 τ) qo σ.2.1) (Ch λν=>EA F o c ν)=some r) (λσ=>[(0,rP hd 0),(3,rP b1 0),(9,rv (.map (some hj))),(50,rP hr 0)]) (λσ=>[.itz hr (A8 Ao (B3 o.fKeys c.fTenant ([]:(List (An×Ah))))) (A8 Ao σ.1) none,.map hj (A8 Ao σ.2.1),.blk hd [rB o.fMade,rv hg,rv (.map (some ha)),rv (.map (some hb)),rv he] 59,.blk b1 (AW c) 34,.row hg 9 1 (Ax eS o.fEvents),.map ha (A8 Aj o.fResults),.map hb (A8 Ad o.fKeys),.row he 67 8 (Ax Ae o.fPending)]) (λσ=>σ.1.length) (B3 o.fKeys c.fTenant ([]:(List (An×Ah))),([]:List (An×Ah)),()) hT (AL.c Aa (AL.c Aa (AL.c Aa (AL.c Aa AL.nil)))) (sC (sC (sC (sC (sC (sC (sC (sC sN)))))))) (λσ=>EA F o c σ.1=some r) (λσ=>[(0,rP hd 0),(3,rP b1 0),(9,rv (.map (some hj)))]) (λσ=>[.map hj (A8 Ao σ.1),.blk hd [rB o.fMade,rv hg,rv (.map (some ha)),rv (.map (some hb)),rv he] 59,.blk b1 (AW c) 34,.row hg 9 1 (Ax eS o.fEvents),.map ha (A8 Aj o.fResults),.map hb (A8 Ad o.fKeys),.row he 67 8 (Ax Ae o.fPending)]) ?_ ?_
     ·rintro⟨hC,hp,⟨⟩⟩ hD;refine Cf (l':=[(0,rP hd 0),(3,rP b1 0),(9,rv (.map (some hj))),(50,rP hr 0)]) (H':=[.itz hr (A8 Ao (B3 o.fKeys c.fTenant ([]:(List (An×Ah))))) (A8 Ao hC) none,.map hj (A8 Ao hp),.blk hd [rB o.fMade,rv hg,rv (.map (some ha)),rv (.map (some hb)),rv he] 59,.blk b1 (AW c) 34,.row hg 9 1 (Ax eS o.fEvents),.map ha (A8 Aj o.fResults),.map hb (A8 Ad o.fKeys),.row he 67 8 (Ax Ae o.fPending)]) Aa Aa (Al (Oy (enc:=Ao) (ys:=hC) (i:=0) Aa Aa Aa (λhy=>?_) (λp hw hE=>?_)))
      ·have hU:EA F o c hp=some r:=OX hD hy;exact wv (A4 Aa Aa) (Au (Aq (Db Aa Aa (BB (A9 (A9 (Bh (AK (hp,()) hU (AL.c Aa (AL.c Aa (AL.c Aa AL.nil))) (sS (sC (sC (sC (sC (sC (sC (sC sN))))))))))))))))
      ·obtain⟨hs,hn⟩:=p;obtain⟨hV,hx,hW⟩:=UX hD hE;replace hx:HN hs hn hp=some hV:=hx;unfold HN at hx;refine QD (H':=[.itz hr (A8 Ao (B3 o.fKeys c.fTenant ([]:(List (An×Ah))))) (A8 Ao hw) (some (hs,Ao hn)),.map hj (A8 Ao hp),.blk hd [rB o.fMade,rv hg,rv (.map (some ha)),rv (.map (some hb)),rv he] 59,.blk b1 (AW c) 34,.row hg 9 1 (Ax eS o.fEvents),.map ha (A8 Aj o.fResults),.map hb (A8 Ad o.fKeys),.row he 67 8 (Ax Ae o.fPending)]) Aa (wv (A4 Aa Aa) (Au (Aq (BK Aa Aa (A3 (AT (AO (Al (wv (r:=Cn [rS hs,B9 (BM hn)]) (MK (i:=0) Aa Aa) (wv (A4 Aa Aa) (wv (A4 Aa Aa) (BR (cs:=[rv (.slice none 0 0),As 0]) Sz Aa Aa (λhG=>?_)))))))))))));refine wa Aa (Bj (i:=0) TG Aa Aa Aa (Cj.c Aa) Aa Aa (cs':=[AU 4 (Ax Ab hn.fValue),As hn.fVersion]) Aa (H':=[.blk hG (BM hn) 90,.itz hr (A8 Ao (B3 o.fKeys c.fTenant ([]:(List (An×Ah))))) (A8 Ao hw) (some (hs,Ao hn)),.map hj (A8 Ao hp),.blk hd [rB o.fMade,rv hg,rv (.map (some ha)),rv (.map (some hb)),rv he] 59,.blk b1 (AW c) 34,.row hg 9 1 (Ax eS o.fEvents),.map ha (A8 Aj o.fResults),.map hb (A8 Ad o.fKeys),.row he 67 8 (Ax Ae o.fPending)]) Aa (Au (At (wm Aa (wm Aa (wv (AZ (i:=0) Tryz.isAgg90 TG Aa Aa Aa Aa) (G6 (enc:=Ao) (xs:=hp) (v:=hn) (i:=2) JZ C4 Aa Aa Aa Aa (H':=[.blk hG (BM hn) 90,.itz hr (A8 Ao (B3 o.fKeys c.fTenant ([]:(List (An×Ah))))) (A8 Ao hw) (some (hs,Ao hn)),.map hj (A8 Ao (mset hp hs hn)),.blk hd [rB o.fMade,rv hg,rv (.map (some ha)),rv (.map (some hb)),rv he] 59,.blk b1 (AW c) 34,.row hg 9 1 (Ax eS o.fEvents),.map ha (A8 Aj o.fResults),.map hb (A8 Ad o.fKeys),.row he 67 8 (Ax Ae o.fPending)]) Aa (Av (AH (WK.uncurz (i:=1) Aa ?_))))))))));have hX:=La hx hW;exact A5 (AK (hw,mset hp hs hn,()) ⟨hX,OD hE⟩ (AL.c Aa (AL.c Aa (AL.c Aa (AL.c Aa AL.nil)))) (sS (sC (sC (sC (sC (sC (sC (sC (sC sN))))))))))
     ·rintro⟨h4,⟨⟩⟩ hz;refine CJ (l':=[(0,rP hd 0),(3,rP b1 0),(9,rv (.map (some hj)))]) (H':=[.map hj (A8 Ao h4),.blk hd [rB o.fMade,rv hg,rv (.map (some ha)),rv (.map (some hb)),rv he] 59,.blk b1 (AW c) 34,.row hg 9 1 (Ax eS o.fEvents),.map ha (A8 Aj o.fResults),.map hb (A8 Ad o.fKeys),.row he 67 8 (Ax Ae o.fPending)]) Aa Aa ?_;replace hz:EA F o c h4=some r:=hz;unfold EA at hz;refine Bf (AT (Aq (Al (wm Aa (vF Cm Aa Iw (vL 2 KL Aa (ob hz λhi hY hZ=>CV (Hr:=[.blk hd [rB o.fMade,rv hg,rv (.map (some ha)),rv (.map (some hb)),rv he] 59,.blk b1 (AW c) 34,.row hg 9 1 (Ax eS o.fEvents),.map ha (A8 Aj o.fResults),.map hb (A8 Ad o.fKeys),.row he 67 8 (Ax Ae o.fPending)]) Tryz.call65 (UI F hj h4 c.fEffects hi hY) Aa (Zp _) Aa ?_)))))));rintro _ _ ⟨rfl,rfl⟩;refine wa Aa (Bk (wm Aa (wv (Cr Aa Aa) (Au (cz hZ Aa (λga gb=>?_) (λga gc=>?_))))))
      ·refine Al (wm Aa (wa Aa (wa Aa (Au (A0 (Af ?_))))));obtain rfl:=A1 gb;exact Az (Dq JE (AI Aa) (AI Aa)) (sS (sC (sS (sC (sC (sC (sC sN))))))) ⟨hg,he,Aa,Aa⟩
      ·refine A3 (AT (Aq (CL 7 [0,3,9] [⟨[],rP hd 0,none,none,none⟩,⟨[0],rP hd 0,none,none,none⟩,⟨[1],rP hd 3,none,none,none⟩,⟨[2],rv (.map (some hb)),none,none,none⟩,⟨[],rP b1 1,none,none,none⟩,⟨[4],rS c.fTenant,none,none,none⟩,⟨[],rv (.map (some hj)),none,none,none⟩] ?_ (λβ=>?_))))
       ·refine CN (Aw Aa) (CN (A2 Aa) (CN (Ay E2 Aa S4 Aa Aa) (Gi (AQ (i:=1) S9 Aa Aa Aa) (CN (Ay Cm Aa Cs Aa Aa) (Gi (AQ (i:=2) C7 Aa Aa Aa) (CN (Aw Aa) ?_))))));exact OH
       refine CK (H1:=[.map hj (A8 Ao hi.2),.blk hd [rB o.fMade,rv hg,rv (.map (some ha)),rv (.map (some hb)),rv he] 59,.blk b1 (AW c) 34,.row hg 9 1 (Ax eS o.fEvents),.map ha (A8 Aj o.fResults),.map hb (A8 Ad o.fKeys),.row he 67 8 (Ax Ae o.fPending)]) [66,67,68,69,70,71,72,0,3,9] ?_;refine WL.freezeM (i:=0) Aa (WL.up (d:=72) (r:=KI (A8 Ao hi.2)) Aa (Up.fact (i:=0) Aa) (G6 (enc:=Ad) (xs:=o.fKeys) (v:=hi.2) (i:=5) S3 C4 Aa Aa Aa Aa (H':=[.fact (.map (some hj)) (KI (A8 Ao hi.2)),.blk hd [rB o.fMade,rv hg,rv (.map (some ha)),rv (.map (some hb)),rv he] 59,.blk b1 (AW c) 34,.row hg 9 1 (Ax eS o.fEvents),.map ha (A8 Aj o.fResults),.map hb (A8 Ad (mset o.fKeys c.fTenant hi.2)),.row he 67 8 (Ax Ae o.fPending)]) Aa (Au (Aq (ck gc λgd ge=>Exists.elim MX λinf hinf=>Mr 9 8 [0,3] [] [{ deps:=[],r:=λ_=>rP hd 0 },{ deps:=[],r:=λ_=>rP hd 0 },{ deps:=[1],r:=λ_=>rP hd 0 },{ deps:=[2],r:=λ_=>rP hd 1 },{ deps:=[3],r:=λ_=>rv hg },{ deps:=[],r:=λ_=>rP b1 0 },{ deps:=[5],r:=λ_=>rS c.fEvent },{ deps:=[6],r:=λ_=>AU 1 (Ax eS ([c.fEvent]:List An)) },{ deps:=[4,7],r:=λhf=>rv hf,dyn:=true }] (λhf=>[.row hf 9 1 (Ax eS (o.fEvents++([c.fEvent]:List An))),.fact (.map (some hj)) (KI (A8 Ao hi.2)),.blk hd [rB o.fMade,rv hg,rv (.map (some ha)),rv (.map (some hb)),rv he] 59,.blk b1 (AW c) 34,.map ha (A8 Aj o.fResults),.map hb (A8 Ad (mset o.fKeys c.fTenant hi.2)),.row he 67 8 (Ax Ae o.fPending)]) ?_ (λhf=>?_))))))
       ·refine Is (Aw Aa) (Is (Aw Aa) (Is (A2 Aa) (Is (Ay E2 Aa Hd Aa Aa) (RN (fun {hf}=>DM (AQ (i:=1) LE Aa Aa Aa)) (fun {hf}=>DM (AQ (i:=2) LE Aa Aa Aa)) (Is (Ay Cm Aa Cs Aa Aa) (RN (fun {hf}=>DM (AQ (i:=2) C7 Aa Aa Aa)) (fun {hf}=>DM (AQ (i:=3) C7 Aa Aa Aa)) (Xr (Cq (ys:=([c.fEvent]:List An)) (enc:=eS) (css:=[[rS c.fEvent]]) (xs:=[.tmp 79]) Ct Cs R2 Aa Aa Aa ⟨DH.one Aa (Up.refl _),trivial⟩ Aa Dg Aa Aa) (Yg (Iy (xs:=o.fEvents) (ys:=([c.fEvent]:List An)) (enc:=eS) (i:=3) Ct hinf.1 hinf.2.1 hinf.2.2.1 hinf.2.2.2 Aa Aa Aa Aa Aa (HY.z Aa Aa) Dg JS gd) ?_))))))));exact Yh
       refine CK (H1:=[.row hf 9 1 (Ax eS (o.fEvents++([c.fEvent]:List An))),.fact (.map (some hj)) (KI (A8 Ao hi.2)),.blk hd [rB o.fMade,rv hg,rv (.map (some ha)),rv (.map (some hb)),rv he] 59,.blk b1 (AW c) 34,.map ha (A8 Aj o.fResults),.map hb (A8 Ad (mset o.fKeys c.fTenant hi.2)),.row he 67 8 (Ax Ae o.fPending)]) [73,74,75,76,77,78,79,80,81,0,3] ?_;refine wv (A2 Aa) (vF E2 Aa Hd (Bv (i:=2) Hd Aa Aa (Cl (i:=0) Aa) Aa Aa (cs':=[rB o.fMade,rv hf,rv (.map (some ha)),rv (.map (some hb)),rv he]) Aa (H':=[.row hf 9 1 (Ax eS (o.fEvents++([c.fEvent]:List An))),.fact (.map (some hj)) (KI (A8 Ao hi.2)),.blk hd [rB o.fMade,rv hf,rv (.map (some ha)),rv (.map (some hb)),rv he] 59,.blk b1 (AW c) 34,.map ha (A8 Aj o.fResults),.map hb (A8 Ad (mset o.fKeys c.fTenant hi.2)),.row he 67 8 (Ax Ae o.fPending)]) Aa (Au (Aq (ob ge λhl gf gg=>CL 9 [0,3] [⟨[],rP hd 0,none,none,none⟩,⟨[0],rP hd 0,none,none,none⟩,⟨[1],rP hd 2,none,none,none⟩,⟨[2],rv (.map (some ha)),none,none,none⟩,⟨[],rP b1 0,none,none,none⟩,⟨[4],rS c.fEvent,none,none,none⟩,⟨[],rP b1 3,none,none,none⟩,⟨[6],AU 4 (Ax Ab c.fResult),none,none,none⟩,⟨[7],AU 4 (Ax Ab hl),none,none,none⟩] ?_ (λβ=>?_))))))
       ·refine CN (Aw Aa) (CN (A2 Aa) (CN (Ay E2 Aa TH Aa Aa) (Gi (AQ (i:=2) TS Aa Aa Aa) (CN (Ay Cm Aa Cs Aa Aa) (Gi (AQ (i:=3) C7 Aa Aa Aa) (CN (Ay Cm Aa CD Aa Aa) (Gi (AQ (i:=3) Es Aa Aa Aa) (KU (Et Q9 (G1 c.fResult hl gf) Aa) ?_))))))));exact OH
       refine CK (H1:=[.row hf 9 1 (Ax eS (o.fEvents++([c.fEvent]:List An))),.fact (.map (some hj)) (KI (A8 Ao hi.2)),.blk hd [rB o.fMade,rv hf,rv (.map (some ha)),rv (.map (some hb)),rv he] 59,.blk b1 (AW c) 34,.map ha (A8 Aj o.fResults),.map hb (A8 Ad (mset o.fKeys c.fTenant hi.2)),.row he 67 8 (Ax Ae o.fPending)]) [84,85,86,87,88,89,90,91,92,0,3] ?_;refine G6 (enc:=Aj) (xs:=o.fResults) (v:=hl) (i:=4) TF C4 Aa Aa Aa Aa (H':=[.row hf 9 1 (Ax eS (o.fEvents++([c.fEvent]:List An))),.fact (.map (some hj)) (KI (A8 Ao hi.2)),.blk hd [rB o.fMade,rv hf,rv (.map (some ha)),rv (.map (some hb)),rv he] 59,.blk b1 (AW c) 34,.map ha (A8 Aj (mset o.fResults c.fEvent hl)),.map hb (A8 Ad (mset o.fKeys c.fTenant hi.2)),.row he 67 8 (Ax Ae o.fPending)]) Aa (Au (Aq (Al (vF Cm Aa Iw (vL 3 KL Aa (wv (Bt (ys:=c.fEffects) (enc:=Ai) EY Aa) (wv (r:=As 0) (Aw Aa) (Au (AO (ob gg λgh gi gj=>B4 (S:=Nat×(Int×(List Ar))×(Value)) (V:=((List Ar))×(Value)) 2 (λσ=>Cz (λσ=>HM c σ.1 σ.2) σ.1 σ.2.1=some gh) (λσ=>[(0,rP hd 0),(3,rP b1 0),(94,AU 4 (Ax Ai c.fEffects)),(95,As (c.fEffects.length:Int)),(96,As σ.2.1.1)]) (λσ=>[.row hf 9 1 (Ax eS (o.fEvents++([c.fEvent]:List An))),.blk hd [rB o.fMade,rv hf,rv (.map (some ha)),rv (.map (some hb)),rv σ.2.2] 59,.blk b1 (AW c) 34,.map ha (A8 Aj (mset o.fResults c.fEvent hl)),.map hb (A8 Ad (mset o.fKeys c.fTenant hi.2)),.row σ.2.2 67 8 (Ax Ae σ.2.1.2)]) (λσ=>σ.1) (F,(0,o.fPending),he) gi (AL.c5 Aa Aa Aa Aa Aa AL.nil) (sC (sS (sC (sC (sC (sC (sC sN))))))) (λσ=>HL o c hi hl σ.1=some r) (λσ=>[]) (λσ=>[.row hf 9 1 (Ax eS (o.fEvents++([c.fEvent]:List An))),.blk hd [rB o.fMade,rv hf,rv (.map (some ha)),rv (.map (some hb)),rv σ.2] 59,.map ha (A8 Aj (mset o.fResults c.fEvent hl)),.map hb (A8 Ad (mset o.fKeys c.fTenant hi.2)),.row σ.2 67 8 (Ax Ae σ.1)]) ?_ ?_))))))))))
       ·rintro⟨gC,⟨hh,ho⟩,hq⟩ gl;refine Cf (l':=[(0,rP hd 0),(3,rP b1 0),(94,AU 4 (Ax Ai c.fEffects)),(95,As (c.fEffects.length:Int)),(96,As hh)]) (H':=[.row hf 9 1 (Ax eS (o.fEvents++([c.fEvent]:List An))),.blk hd [rB o.fMade,rv hf,rv (.map (some ha)),rv (.map (some hb)),rv hq] 59,.blk b1 (AW c) 34,.map ha (A8 Aj (mset o.fResults c.fEvent hl)),.map hb (A8 Ad (mset o.fKeys c.fTenant hi.2)),.row hq 67 8 (Ax Ae ho)]) Aa Aa ?_;obtain⟨gm,rfl,h5,h0,hH⟩:=CO gl;replace h0:HM c hh ho=some h5:=h0;unfold HM at h0;refine Al (wv (CZ Aa Aa) (Au (Aq (cz h0 Aa (λgp gq=>?_) (λgp gr=>?_)))))
        ·refine A3 (AT (C8 (S:=((List Ar))×(Value)) (λσ=>Gx hh σ.1=some h5) (λσ=>[(0,rP hd 0),(3,rP b1 0),(94,AU 4 (Ax Ai c.fEffects)),(95,As (c.fEffects.length:Int)),(96,As hh)]) (λσ=>[.row hf 9 1 (Ax eS (o.fEvents++([c.fEvent]:List An))),.blk hd [rB o.fMade,rv hf,rv (.map (some ha)),rv (.map (some hb)),rv σ.2] 59,.blk b1 (AW c) 34,.map ha (A8 Aj (mset o.fResults c.fEvent hl)),.map hb (A8 Ad (mset o.fKeys c.fTenant hi.2)),.row σ.2 67 8 (Ax Ae σ.1)]) ?_ ?_))
         ·refine AO (Al (wm Aa (ck gq λgs gt=>wv (BT (enc:=Ai) (ys:=c.fEffects) EY CY Aa Aa gs) (wv (Eh Hf CY Aa Aa Aa) (BR (cs:=[As 0,rS ([]:An),rv (.slice none 0 0),As 0]) KK Aa Aa (λht=>?_))))));refine wa Aa (Bj (i:=0) CY Aa Aa Aa (Cj.c Aa) Aa Aa (cs':=[As ((Ap c.fEffects hh).fKind),rS ((Ap c.fEffects hh).fKey),AU 4 (Ax Ab ((Ap c.fEffects hh).fValue)),As ((Ap c.fEffects hh).fDelay)]) Aa (H':=[.blk ht (Ai (Ap c.fEffects hh)) 65,.row hf 9 1 (Ax eS (o.fEvents++([c.fEvent]:List An))),.blk hd [rB o.fMade,rv hf,rv (.map (some ha)),rv (.map (some hb)),rv hq] 59,.blk b1 (AW c) 34,.map ha (A8 Aj (mset o.fResults c.fEvent hl)),.map hb (A8 Ad (mset o.fKeys c.fTenant hi.2)),.row hq 67 8 (Ax Ae ho)]) Aa (Bk (vF CI Aa Iv (vL 0 Ix Aa (ob gt λgu gv gw=>Di Tryz.call66 (GB ((Ap c.fEffects hh).fKind) gu gv) Aa (Au (cz gw Aa (λgx gy=>?_) (λgx gz=>?_))))))))
          ·refine Al (vF Cm Aa Cs (vL 3 C7 Aa (wm Aa (ck gy λg0 g1=>ck g1 λg2 g3=>CM (rs:=[rS c.fEvent,As hh]) (r:=Cn [rS (BZ c.fEvent hh),As (Da c.fEvent hh)]) Tryz.call67 Aa (Mf c.fEvent hh g0 g2) Aa Aa (wm Aa (wv (A4 Aa Aa) (wv (A4 Aa Aa) (wa Aa (wa Aa (Au (ob g3 λhm g4 g5=>ck g5 λg6 g7=>Exists.elim MY λinf hinf=>Mr 17 16 [0,3,14,15,94,95,96] [] [{ deps:=[],r:=λ_=>rP hd 0 },{ deps:=[],r:=λ_=>rP hd 0 },{ deps:=[1],r:=λ_=>rP hd 0 },{ deps:=[2],r:=λ_=>rP hd 4 },{ deps:=[3],r:=λ_=>rv hq },{ deps:=[],r:=λ_=>rS (BZ c.fEvent hh) },{ deps:=[],r:=λ_=>rP b1 1 },{ deps:=[6],r:=λ_=>rS c.fTenant },{ deps:=[],r:=λ_=>rP b1 0 },{ deps:=[8],r:=λ_=>rS c.fEvent },{ deps:=[],r:=λ_=>rP b1 5 },{ deps:=[10],r:=λ_=>As c.fAt },{ deps:=[],r:=λ_=>B9 (Ai (Ap c.fEffects hh)) },{ deps:=[12],r:=λ_=>B9 (Ai hm) },{ deps:=[5,7,9,11,13],r:=λ_=>B9 [rS (BZ c.fEvent hh),rS c.fTenant,rS c.fEvent,As c.fAt,As hm.fKind,rS hm.fKey,AU 4 (Ax Ab hm.fValue),As hm.fDelay] },{ deps:=[14],r:=λ_=>AU 8 (Ax Ae ([(Ar.mk (BZ c.fEvent hh) c.fTenant c.fEvent c.fAt hm)]:List Ar)) },{ deps:=[4,15],r:=λhk=>rv hk,dyn:=true }] (λhk=>[.row hk 67 8 (Ax Ae (ho++([(Ar.mk (BZ c.fEvent hh) c.fTenant c.fEvent c.fAt hm)]:List Ar))),.blk ht (Ai (Ap c.fEffects hh)) 65,.row hf 9 1 (Ax eS (o.fEvents++([c.fEvent]:List An))),.blk hd [rB o.fMade,rv hf,rv (.map (some ha)),rv (.map (some hb)),rv hq] 59,.blk b1 (AW c) 34,.map ha (A8 Aj (mset o.fResults c.fEvent hl)),.map hb (A8 Ad (mset o.fKeys c.fTenant hi.2))]) ?_ (λhk=>?_))))))))))))
           ·refine Is (Aw Aa) (Is (Aw Aa) (Is (A2 Aa) (Is (Ay E2 Aa Ml Aa Aa) (RN (fun {hk}=>DM (AQ (i:=2) QC Aa Aa Aa)) (fun {hk}=>DM (AQ (i:=3) QC Aa Aa Aa)) (Is (Aw Aa) (Is (Ay Cm Aa Cs Aa Aa) (RN (fun {hk}=>DM (AQ (i:=3) C7 Aa Aa Aa)) (fun {hk}=>DM (AQ (i:=4) C7 Aa Aa Aa)) (Is (Ay Cm Aa Cs Aa Aa) (RN (fun {hk}=>DM (AQ (i:=3) C7 Aa Aa Aa)) (fun {hk}=>DM (AQ (i:=4) C7 Aa Aa Aa)) (Is (Ay Cm Aa C2 Aa Aa) (RN (fun {hk}=>DM (AQ (i:=3) CQ Aa Aa Aa)) (fun {hk}=>DM (AQ (i:=4) CQ Aa Aa Aa)) (RN (fun {hk}=>DM (AZ (i:=0) Hf CY Aa Aa Aa Aa)) (fun {hk}=>DM (AZ (i:=1) Hf CY Aa Aa Aa Aa)) (Xr (Et Tryz.call44 (QT (Ap c.fEffects hh) hm g4) Aa) (Is (ET Aa Aa Aa Aa Aa Aa Aa Aa Aa) (Xr (Cq (ys:=([(Ar.mk (BZ c.fEvent hh) c.fTenant c.fEvent c.fAt hm)]:List Ar)) (enc:=Ae) (css:=[[rS (BZ c.fEvent hh),rS c.fTenant,rS c.fEvent,As c.fAt,As hm.fKind,rS hm.fKey,AU 4 (Ax Ab hm.fValue),As hm.fDelay]]) (xs:=[.tmp 125]) DK H4 S0 Aa Aa Aa ⟨DH.agg ⟨Up.refl _,Up.refl _,Up.refl _,Up.refl _,Up.refl _,Up.refl _,Up.refl _,Up.refl _,trivial⟩,trivial⟩ Aa Cb Aa Aa) (Yg (Iy (xs:=ho) (ys:=([(Ar.mk (BZ c.fEvent hh) c.fTenant c.fEvent c.fAt hm)]:List Ar)) (enc:=Ae) (i:=6) DK hinf.1 hinf.2.1 hinf.2.2.1 hinf.2.2.2 Aa Aa Aa Aa Aa (HY.z Aa Aa) Cb Dd g6) ?_))))))))))))))));exact Yh
           refine CK (H1:=[.row hk 67 8 (Ax Ae (ho++([(Ar.mk (BZ c.fEvent hh) c.fTenant c.fEvent c.fAt hm)]:List Ar))),.blk ht (Ai (Ap c.fEffects hh)) 65,.row hf 9 1 (Ax eS (o.fEvents++([c.fEvent]:List An))),.blk hd [rB o.fMade,rv hf,rv (.map (some ha)),rv (.map (some hb)),rv hq] 59,.blk b1 (AW c) 34,.map ha (A8 Aj (mset o.fResults c.fEvent hl)),.map hb (A8 Ad (mset o.fKeys c.fTenant hi.2))]) [111,112,113,114,115,116,117,118,119,120,121,122,123,124,125,126,127,0,3,14,15,94,95,96] ?_;exact wv (A2 Aa) (vF E2 Aa Ml (Bv (i:=3) Ml Aa Aa (Cl (i:=0) Aa) Aa Aa (cs':=[rB o.fMade,rv hf,rv (.map (some ha)),rv (.map (some hb)),rv hk]) Aa (H':=[.row hk 67 8 (Ax Ae (ho++([(Ar.mk (BZ c.fEvent hh) c.fTenant c.fEvent c.fAt hm)]:List Ar))),.blk ht (Ai (Ap c.fEffects hh)) 65,.row hf 9 1 (Ax eS (o.fEvents++([c.fEvent]:List An))),.blk hd [rB o.fMade,rv hf,rv (.map (some ha)),rv (.map (some hb)),rv hk] 59,.blk b1 (AW c) 34,.map ha (A8 Aj (mset o.fResults c.fEvent hl)),.map hb (A8 Ad (mset o.fKeys c.fTenant hi.2))]) Aa (Av (AH (BF (H2:=[.row hf 9 1 (Ax eS (o.fEvents++([c.fEvent]:List An))),.blk hd [rB o.fMade,rv hf,rv (.map (some ha)),rv (.map (some hb)),rv hk] 59,.blk b1 (AW c) 34,.map ha (A8 Aj (mset o.fResults c.fEvent hl)),.map hb (A8 Ad (mset o.fKeys c.fTenant hi.2)),.row hk 67 8 (Ax Ae (ho++([(Ar.mk (BZ c.fEvent hh) c.fTenant c.fEvent c.fAt hm)]:List Ar))),.blk ht (Ai (Ap c.fEffects hh)) 65]) ((Ak (i:=2) Aa).trans (Zo _ ((Ak (i:=2) Aa).trans (Zo _ ((Ak (i:=2) Aa).trans (Zo _ ((Ak (i:=2) Aa).trans (Zo _ ((Ak (i:=2) Aa).trans (Zo _ (Zp _))))))))))) (A5 (AK (ho++([(Ar.mk (BZ c.fEvent hh) c.fTenant c.fEvent c.fAt hm)]:List Ar),hk) g7 (AL.c5 Aa Aa Aa Aa Aa AL.nil) (sC (sC (sC (sC (sC (sC (sS sN))))))))))))))
          ·exact A3 (AH (A5 (AK (ho,hq) gz (AL.c5 Aa Aa Aa Aa Aa AL.nil) (sS (sC (sC (sC (sC (sC (sC sN))))))))))
         ·rintro⟨h8,hA⟩ h1;refine Cf (l':=[(0,rP hd 0),(3,rP b1 0),(94,AU 4 (Ax Ai c.fEffects)),(95,As (c.fEffects.length:Int)),(96,As hh)]) (H':=[.row hf 9 1 (Ax eS (o.fEvents++([c.fEvent]:List An))),.blk hd [rB o.fMade,rv hf,rv (.map (some ha)),rv (.map (some hb)),rv hA] 59,.blk b1 (AW c) 34,.map ha (A8 Aj (mset o.fResults c.fEvent hl)),.map hb (A8 Ad (mset o.fKeys c.fTenant hi.2)),.row hA 67 8 (Ax Ae h8)]) Aa Aa ?_;replace h1:Gx hh h8=some h5:=h1;unfold Gx at h1;refine At (ck h1 λg8 g9=>wv (BJ Aa Aa g8) (wm Aa (Av ?_)));have gA:=B8 g9 hH;exact A5 (AK (gm,(hh+1,h8),hA) ⟨gA,Z3 _⟩ (AL.c5 Aa Aa Aa Aa Aa AL.nil) (sC (sC (sC (sC (sC (sC sN)))))))
        ·refine BB (A9 ?_);have gB:=Cv gr hH gj;exact A9 (Bh (AK (ho,hq) gB AL.nil (sC (sC (sS (sC (sC (sC sN))))))))
       ·rintro⟨hB,hu⟩ h2;refine CJ (l':=[]) (H':=[.row hf 9 1 (Ax eS (o.fEvents++([c.fEvent]:List An))),.blk hd [rB o.fMade,rv hf,rv (.map (some ha)),rv (.map (some hb)),rv hu] 59,.map ha (A8 Aj (mset o.fResults c.fEvent hl)),.map hb (A8 Ad (mset o.fKeys c.fTenant hi.2)),.row hu 67 8 (Ax Ae hB)]) Aa Aa ?_;replace h2:HL o c hi hl hB=some r:=h2;unfold HL at h2;refine Bf (AT (Al (wa Aa (wa Aa (Au (A0 (BF (H2:=[.blk hd [rB o.fMade,rv hf,rv (.map (some ha)),rv (.map (some hb)),rv hu] 59,.row hf 9 1 (Ax eS (o.fEvents++([c.fEvent]:List An))),.map ha (A8 Aj (mset o.fResults c.fEvent hl)),.map hb (A8 Ad (mset o.fKeys c.fTenant hi.2)),.row hu 67 8 (Ax Ae hB)]) ((Ak (i:=1) Aa).trans (Zo _ (Zp _))) ?_)))))));obtain rfl:=A1 h2;exact Az (Dq JE (AI Aa) (AI Aa)) (sC (sC (sC (sC (sC sN))))) ⟨hf,hu,Aa,Aa⟩
theorem LZ (F:Nat)(hf:Nat)(ha:Value)(hd:Nat)(he:Nat)(hb:Value)(o:AG)(rc:An)(r:Int×AG)(h:NU F o rc=some r):Fn Tryz.prog GE 33 [rP hf 0,rS rc] [.blk hf [rB o.fMade,rv ha,rv (.map (some hd)),rv (.map (some he)),rv hb] 59,.row ha 9 1 (Ax eS o.fEvents),.map hd (A8 Aj o.fResults),.map he (A8 Ad o.fKeys),.row hb 67 8 (Ax Ae o.fPending)] (λR H=>∃w0_1:Value,∃w0_4:Value,R=As r.1∧H=[.blk hf [rB r.2.fMade,rv w0_1,rv (.map (some hd)),rv (.map (some he)),rv w0_4] 59,.row w0_1 9 1 (Ax eS r.2.fEvents),.map hd (A8 Aj r.2.fResults),.map he (A8 Ad r.2.fKeys),.row w0_4 67 8 (Ax Ae r.2.fPending)]):=by
 refine enter (n:=107) Tryz.func33 Aa Tryz.ntmps33 Aa (λw Z=>?_);unfold NU at h;refine Al (wa Aa (Au (Aq (Al (wm Aa (ob h λr1 e3 h2=>CV (Hr:=[.row ha 9 1 (Ax eS o.fEvents),.map hd (A8 Aj o.fResults),.map he (A8 Ad o.fKeys),.row hb 67 8 (Ax Ae o.fPending)]) Gn (EJ hf ha hd he hb o r1 e3) Aa (Zp _) Aa ?_))))));rintro _ _ ⟨rfl,rfl⟩;refine wv (B7 Aa) (Au (cz h2 Aa (λc4 h5=>?_) (λc4 h6=>?_)))
 ·refine Al (wa Aa (Au (A0 (Af ?_))));obtain rfl:=A1 h5;exact Az (BW Pz (AI Aa)) (sC (sC (sC (sC (sC sN))))) ⟨ha,hb,Aa,Aa⟩
 ·refine A3 (AT (Al (wm Aa (ob h6 λr7 e9 h8=>Di Tryz.call62 (Vn F rc r7 e9) Aa (wm Aa (wv (A4 Aa Aa) (wv (A4 Aa Aa) (wa Aa (wa Aa (Bk (wa Aa (Au (Aq (Al (wm Aa (wv (Bt (ys:=r7.1) (enc:=eS) Ct Aa) (wv (r:=As 0) (Aw Aa) (Au (AO (WC.nilrow (e:=42) (sz:=1) (G5 (H2:=[.blk hf [rB o.fMade,rv ha,rv (.map (some hd)),rv (.map (some he)),rv hb] 59,.row ha 9 1 (Ax eS o.fEvents),.map hd (A8 Aj o.fResults),.map he (A8 Ad o.fKeys),.row hb 67 8 (Ax Ae o.fPending),.row (.slice none 0 0                                          ) 42 1 (Ax Bs ([]:List (List An)))]) ((Ak (i:=1) Aa).trans (Zo _ ((Ak (i:=1) Aa).trans (Zo _ ((Ak (i:=1) Aa).trans (Zo _ ((Ak (i:=1) Aa).trans (Zo _ ((Ak (i:=1) Aa).trans (Zo _ (Zp _))))))))))) (ob h8 λh1 h3 hx=>?_))))))))))))))))))))));refine B4 (S:=Nat×((List (List An))×Int)×(Value)) (V:=((List (List An)))×(Value)) 0 (λσ=>Cz (λσ=>Ky F o r7 σ.1 σ.2) σ.1 σ.2.1=some h1) (λσ=>[(0,rP hf 0),(1,rS rc),(7,rv σ.2.2),(28,AU 1 (Ax eS r7.1)),(29,As (r7.1.length:Int)),(30,As σ.2.1.2)]) (λσ=>[.blk hf [rB o.fMade,rv ha,rv (.map (some hd)),rv (.map (some he)),rv hb] 59,.row ha 9 1 (Ax eS o.fEvents),.map hd (A8 Aj o.fResults),.map he (A8 Ad o.fKeys),.row hb 67 8 (Ax Ae o.fPending),.row σ.2.2 42 1 (Ax Bs σ.2.1.1)]) (λσ=>σ.1) (F,(([]:List (List An)),0),(.slice none 0 0                                          )) h3 (AL.c Aa (AL.c5 Aa Aa Aa Aa Aa AL.nil)) (sC (sC (sC (sC (sC (sC sN)))))) (λσ=>Kx F o rc σ.1=some r) (λσ=>[(0,rP hf 0),(1,rS rc),(7,rv σ.2)]) (λσ=>[.blk hf [rB o.fMade,rv ha,rv (.map (some hd)),rv (.map (some he)),rv hb] 59,.row ha 9 1 (Ax eS o.fEvents),.map hd (A8 Aj o.fResults),.map he (A8 Ad o.fKeys),.row hb 67 8 (Ax Ae o.fPending),.row σ.2 42 1 (Ax Bs σ.1)]) ?_ ?_
  ·rintro⟨gx,⟨hn,ho⟩,v46⟩ h4;refine Cf (l':=[(0,rP hf 0),(1,rS rc),(7,rv v46),(28,AU 1 (Ax eS r7.1)),(29,As (r7.1.length:Int)),(30,As ho)]) (H':=[.blk hf [rB o.fMade,rv ha,rv (.map (some hd)),rv (.map (some he)),rv hb] 59,.row ha 9 1 (Ax eS o.fEvents),.map hd (A8 Aj o.fResults),.map he (A8 Ad o.fKeys),.row hb 67 8 (Ax Ae o.fPending),.row v46 42 1 (Ax Bs hn)]) Aa Aa ?_;obtain⟨h7,rfl,t70,hp,hw⟩:=CO h4;replace hp:Ky F o r7 hn ho=some t70:=hp;unfold Ky at hp;refine Al (wv (CZ Aa Aa) (Au (Aq (cz hp Aa (λc76 h9=>?_) (λc76 hA=>?_)))))
   ·refine A3 (AT (Aq (AO (Al (ck h9 λhB hC=>wv (BT (enc:=eS) (ys:=r7.1) Ct Cs Aa Aa hB) (wv (BD C7 Aa Aa) (wa Aa (Bk (wm Aa (ob hC λhm hD hE=>Di Tryz.call63 (Ts F (Ap r7.1 ho) hm hD) Aa (wm Aa (wv (A4 Aa Aa) (wv (A4 Aa Aa) (wa Aa (wa Aa (Au (Aq (Al (wm Aa (wv (Cr Aa Aa) (Au ?_)))))))))))))))))))));refine cz hE Aa (λhG hH=>?_) (λhG hI=>?_)
    ·refine Al (wa Aa (Au (A0 (Af (AD (Af (Af (Bg ?_))))))));have hJ:=BG hH hw hx;refine AD (Af ?_);obtain rfl:=A1 hJ;exact Az (BW Pz (AI Aa)) (sC (sC (sC (sC (sC (sS sN)))))) ⟨ha,hb,Aa,Aa⟩
    ·refine A3 (AT (At (wm Aa (wm Aa (Ba (ys:=([hm.1]:List (List An))) (enc:=Bs) (css:=[[AU 1 (Ax eS hm.1)]]) (xs:=[.tmp 42]) Iu Hd S2 Aa Aa Aa ⟨DH.one Aa (Up.refl _),trivial⟩ Aa D0 Aa Aa Aa (λhK=>?_))))));refine ck hI λhL hN=>Exists.elim Rh λinf hinf=>BQ (xs:=hn) (ys:=([hm.1]:List (List An))) (enc:=Bs) (i:=6) Iu hinf.1 hinf.2.1 hinf.2.2.1 hinf.2.2.2 Aa Aa Aa Aa Aa (HY.w (i:=0) Aa Aa) D0 JT hL Aa (λhy=>?_);refine wa Aa (Av (AH (AT (At (ck hN λhO hP=>wv (BJ Aa Aa hO) (wm Aa (Av (BF (H2:=[.blk hf [rB o.fMade,rv ha,rv (.map (some hd)),rv (.map (some he)),rv hb] 59,.row ha 9 1 (Ax eS o.fEvents),.map hd (A8 Aj o.fResults),.map he (A8 Ad o.fKeys),.row hb 67 8 (Ax Ae o.fPending),.row hy 42 1 (Ax Bs (hn++([hm.1]:List (List An)))),.row (.slice (some ⟨hK,0,none⟩) 1 1) 42 1 (Ax Bs ([hm.1]:List (List An)))]) ((Ak (i:=2) Aa).trans (Zo _ ((Ak (i:=2) Aa).trans (Zo _ ((Ak (i:=2) Aa).trans (Zo _ ((Ak (i:=2) Aa).trans (Zo _ ((Ak (i:=2) Aa).trans (Zo _ (Zp _))))))))))) ?_))))))));have hQ:=B8 hP hw;exact A5 (AK (h7,(hn++([hm.1]:List (List An)),ho+1),hy) ⟨hQ,Z3 _⟩ (AL.c Aa (AL.c5 Aa Aa Aa Aa Aa AL.nil)) (sC (sC (sC (sC (sC (sC (sS sN))))))))
   ·refine BB (A9 ?_);have hR:=Cv hA hw hx;exact A9 (Bh (AK (hn,v46) hR (AL.c Aa (AL.c Aa (AL.c Aa AL.nil))) (sC (sC (sC (sC (sC (sC sN))))))))
  ·rintro⟨hg,hj⟩ hq;refine CJ (l':=[(0,rP hf 0),(1,rS rc),(7,rv hj)]) (H':=[.blk hf [rB o.fMade,rv ha,rv (.map (some hd)),rv (.map (some he)),rv hb] 59,.row ha 9 1 (Ax eS o.fEvents),.map hd (A8 Aj o.fResults),.map he (A8 Ad o.fKeys),.row hb 67 8 (Ax Ae o.fPending),.row hj 42 1 (Ax Bs hg)]) Aa Aa ?_;replace hq:Kx F o rc hg=some r:=hq;unfold Kx at hq;refine Bf (AT (Aq (ck hq λhz hS=>AR [(0,rP hf 0),(1,rS rc),(7,rv hj),(55,rB ((decide ((hg.length:Int)=1))&&(decide (((Ap hg 0).length:Int)=2))))] [.blk hf [rB o.fMade,rv ha,rv (.map (some hd)),rv (.map (some he)),rv hb] 59,.row ha 9 1 (Ax eS o.fEvents),.map hd (A8 Aj o.fResults),.map he (A8 Ad o.fKeys),.row hb 67 8 (Ax Ae o.fPending),.row hj 42 1 (Ax Bs hg)] ?_ ?_)))
   ·refine At (wm Aa (wv (BP (ys:=hg) (enc:=Bs) (i:=5) Iu Aa Aa) (wv (BN Aa Aa) (wm Aa (AX (decide ((hg.length:Int)=1)) (λhh=>?_) (λhh=>?_))))))
    ·refine wo hh (wm Aa (wo hh (wv (r:=rv (DN 1 hj (Bi 0) 0)) (DC (i:=5) Iu Hd Aa Aa Aa (B6 (Em hz hh))) (wo hh (wv (r:=AU 1 (Ax eS (Ap hg 0))) (EP (enc:=Bs) (ys:=hg) (i:=5) (j:=0) LE Aa Aa (Em hz hh) Aa) (wo hh (wv (Bt (ys:=Ap hg 0) (enc:=eS) Ct Aa) (wo hh (wv (BN Aa Aa) (JF Aa hh Aa (Av ?_)))))))))));exact CF hh
    ·refine wf hh (wf hh (wf hh (wf hh (wf hh (wv (r:=rB false) (AF Aa hh Aa) (Av ?_))))));exact CF hh
   refine cz hS Aa (λhT hU=>?_) (λhT hV=>?_)
   ·refine Aq (Al (wm Aa (ck hU λhr hW=>wv (r:=rv (DN 1 hj (Bi 0) 0)) (DC (i:=5) Iu Hd Aa Aa Aa (B6 hr)) (wv (r:=AU 1 (Ax eS (Ap hg 0))) (EP (enc:=Bs) (ys:=hg) (i:=5) (j:=0) LE Aa Aa hr Aa) (ck hW λh0 hX=>wv (BT (enc:=eS) (ys:=Ap hg 0) Ct Cs Aa Aa h0) (wv (BD C7 Aa Aa) (ob hX λhs hY hZ=>Di Tryz.call29 (Gc F (Ap (Ap hg 0) 1) hs hY) Aa (wm Aa (wv (A4 Aa Aa) (wv (A4 Aa Aa) (wa Aa (wa Aa (Au (AR [(0,rP hf 0),(7,rv hj),(71,rB ((!decide (hs.2=0))||(!decide (hs.1=rc))))] [.blk hf [rB o.fMade,rv ha,rv (.map (some hd)),rv (.map (some he)),rv hb] 59,.row ha 9 1 (Ax eS o.fEvents),.map hd (A8 Aj o.fResults),.map he (A8 Ad o.fKeys),.row hb 67 8 (Ax Ae o.fPending),.row hj 42 1 (Ax Bs hg)] ?_ ?_))))))))))))))
    ·refine At (wm Aa (wv (Cr Aa Aa) (wm Aa (AX (!decide (hs.2=0)) (λhk=>?_) (λhk=>?_)))))
     ·refine wf hk (wf hk (wf hk (wv (r:=rB true) (AA Aa hk Aa) (Av ?_))));exact CF hk
     ·refine wo hk (wm Aa (wo hk (wm Aa (wo hk (wv (I7 Aa Aa) (Hc Aa hk Aa (Av ?_)))))));exact CF hk
    refine cz hZ Aa (λga gb=>?_) (λga gc=>?_)
    ·refine Al (wa Aa (Au (A0 (Af (Af ?_)))));obtain rfl:=A1 gb;exact Az (BW Pz (AI Aa)) (sC (sC (sC (sC (sC (sS sN)))))) ⟨ha,hb,Aa,Aa⟩
    ·refine A3 (AT (Al (wm Aa (wm Aa (wv (r:=rv (DN 1 hj (Bi 0) 0)) (DC (i:=5) Iu Hd Aa Aa Aa (B6 hr)) (wv (r:=AU 1 (Ax eS (Ap hg 0))) (EP (enc:=Bs) (ys:=hg) (i:=5) (j:=0) LE Aa Aa hr Aa) (wv (BT (enc:=eS) (ys:=Ap hg 0) Ct Cs Aa Aa h0) (wv (BD C7 Aa Aa) (ob gc λgd ge gf=>CV (Hr:=[.row hj 42 1 (Ax Bs hg)]) QA (QY F hf ha hd he hb o (Ap (Ap hg 0) 1) gd ge) Aa (Zp _) Aa ?_)))))))));rintro _ _ ⟨gg,gh,rfl,rfl⟩;refine Bk (wa Aa (Au (A0 (Af ?_))));obtain rfl:=A1 gf;exact Az (BW Pz (AI Aa)) (sC (sC (sC (sC (sC (sS sN)))))) ⟨gg,gh,Aa,Aa⟩
   ·refine A3 (AT (Al (wm Aa (WL.freeze (i:=5) Aa (WL.up (d:=80) (r:=AU 1 (Ax Bs hg)) Aa (Up.fact (i:=0) Aa) (ob hV λhi gi gj=>Di Tryz.call64 (SZ F hg hi gi) Aa (wm Aa (wv (A4 Aa Aa) (wv (A4 Aa Aa) (BR (cs:=[rS ([]:An),rS ([]:An),As 0,rv (.slice none 0 0),rv (.slice none 0 0),As 0]) VH Aa Aa (λht=>?_)))))))))));refine Bj (i:=0) Dl Aa Aa Aa (Cj.c Aa) Aa Aa (cs':=[rS hi.1.fEvent,rS hi.1.fTenant,As hi.1.fAttempt,AU 4 (Ax Ab hi.1.fResult),AU 4 (Ax Ai hi.1.fEffects),As hi.1.fAt]) Aa (H':=[.blk ht (AW hi.1) 34,.fact hj (AU 1 (Ax Bs hg)),.blk hf [rB o.fMade,rv ha,rv (.map (some hd)),rv (.map (some he)),rv hb] 59,.row ha 9 1 (Ax eS o.fEvents),.map hd (A8 Aj o.fResults),.map he (A8 Ad o.fKeys),.row hb 67 8 (Ax Ae o.fPending)]) Aa (wa Aa (Au (Aq (Al (wv (AZ (i:=0) E5 Dl Aa Aa Aa Aa) (ob gj λhu gl gm=>Di Tryz.call25 (KX F hi.1 hu gl) Aa (wm Aa (wv (A4 Aa Aa) (wv (A4 Aa Aa) (wa Aa (wa Aa (Au (AR [(0,rP hf 0),(14,rP ht 0),(99,rB ((!hi.2)||((!decide (hu.2=0))||(!decide (hu.1=rc)))))] [.blk ht (AW hi.1) 34,.blk hf [rB o.fMade,rv ha,rv (.map (some hd)),rv (.map (some he)),rv hb] 59,.row ha 9 1 (Ax eS o.fEvents),.map hd (A8 Aj o.fResults),.map he (A8 Ad o.fKeys),.row hb 67 8 (Ax Ae o.fPending)] ?_ ?_)))))))))))))
    ·refine At (wm Aa (wv (B7 Aa) (wm Aa (AX (!hi.2) (λhl=>?_) (λhl=>?_)))))
     ·refine wf hl (wf hl (wv (r:=rB true) (AA Aa hl Aa) (wm Aa (wz Aa Aa (wz Aa Aa (wz Aa Aa (wv (r:=rB true) (AA (b:=true) Aa Aa Aa) (Av ?_))))))));exact CF hl
     ·refine wo hl (wm Aa (wo hl (wv (Cr Aa Aa) (Hc Aa hl Aa (wm Aa (AX (!decide (hu.2=0)) (λc127=>?_) (λc127=>?_)))))))
      ·refine wf c127 (wf c127 (wf c127 (wv (r:=rB true) (AA Aa c127 Aa) (Av ?_))));exact CF (And.intro hl c127)
      ·refine wo c127 (wm Aa (wo c127 (wm Aa (wo c127 (wv (I7 Aa Aa) (Hc Aa c127 Aa (Av ?_)))))));exact CF (And.intro hl c127)
    refine cz gm Aa (λgp gq=>?_) (λgp gr=>?_)
    ·refine Al (wa Aa (Au (A0 (Af ?_))));obtain rfl:=A1 gq;exact Az (BW Pz (AI Aa)) (sS (sC (sC (sC (sC (sC sN)))))) ⟨ha,hb,Aa,Aa⟩
    ·refine A3 (AT (Al (wm Aa (wv (AZ (i:=0) E5 Dl Aa Aa Aa Aa) (ob gr λgs gt gu=>CV (Hr:=[.blk ht (AW hi.1) 34]) S7 (Ta F hf ha hd he hb o hi.1 gs gt) Aa ((Ak (i:=1) Aa).trans (Zo _ ((Ak (i:=1) Aa).trans (Zo _ ((Ak (i:=1) Aa).trans (Zo _ ((Ak (i:=1) Aa).trans (Zo _ ((Ak (i:=1) Aa).trans (Zo _ (Zp _))))))))))) Aa ?_)))));rintro _ _ ⟨gv,gw,rfl,rfl⟩;refine wm Aa (wv (A4 Aa Aa) (wv (A4 Aa Aa) (wa Aa (wa Aa (Bk (wm Aa (wa Aa (Au (A0 ?_)))))))));obtain rfl:=A1 gu;exact Az (BW Pz (AI Aa)) (sC (sC (sC (sC (sC (sS sN)))))) ⟨gv,gw,Aa,Aa⟩
end Go.Proofs.YtfobhhegpkinaaaGreatDoor.Q
namespace Go.Proofs.YtfobhhegpkinaaaGreatDoor
open Go
set_option linter.unusedVariables false
def HO (c:AP):Option (Bool×Int):=
 some (false,10)
def HG (event:An):Option ((List Ac)×Bool):=
 some (([]:List Ac),false)
def Ei :Option ((List Ar)):=
 some ([]:List Ar)
def K4 (id:An):Option (Int):=
 some 10
def Jd (tenant:An):Option ((List Bn)):=
 some ([]:List Bn)
def HI :Option ((List An)):=
 some ([]:List An)
def Ht (rc:An):Option (Int):=
 some 10
def IF (F:Nat)(x:Cd):Option (Bool×Int):=
 B0 (decide (x.fKind=0)) (Bq (HO x.fC) λr4=>some (r4.1,r4.2)) (B0 (decide (x.fKind=1)) (Bq (K4 x.fS) λha=>some (false,ha)) (B0 (decide (x.fKind=2)) (Bq (Ei) λhb=>Bq (Lc hb x.fN) λhd=>Bq (K4 hd) λhe=>some (false,he)) (B0 (decide (x.fKind=3)) (Bq (Ht x.fS) λhf=>some (false,hf)) (B0 (decide (x.fKind=4)) (Bq (GG F x.fC) λhg=>Bq (Ht hg.1) λhh=>some (false,hh)) (Bq (DE F x.fS) λhi=>Bq (Ht hi.1) λhj=>some (false,hj))))))
def IC (c:AP):Option (Bool×Int):=
 some (false,10)
def G8 (event:An):Option ((List Ac)×Bool):=
 some (([]:List Ac),false)
def Eu :Option ((List Ar)):=
 some ([]:List Ar)
def K3 (id:An):Option (Int):=
 some 10
def HH (tenant:An):Option ((List Bn)):=
 some ([]:List Bn)
def GC :Option ((List An)):=
 some ([]:List An)
def Hq (rc:An):Option (Int):=
 some 10
def Jj (F:Nat)(x:Cd):Option (Bool×Int):=
 B0 (decide (x.fKind=0)) (Bq (IC x.fC) λr4=>some (r4.1,r4.2)) (B0 (decide (x.fKind=1)) (Bq (K3 x.fS) λha=>some (false,ha)) (B0 (decide (x.fKind=2)) (Bq (Eu) λhb=>Bq (Lc hb x.fN) λhd=>Bq (K3 hd) λhe=>some (false,he)) (B0 (decide (x.fKind=3)) (Bq (Hq x.fS) λhf=>some (false,hf)) (B0 (decide (x.fKind=4)) (Bq (GG F x.fC) λhg=>Bq (Hq hg.1) λhh=>some (false,hh)) (Bq (DE F x.fS) λhi=>Bq (Hq hi.1) λhj=>some (false,hj))))))
def HQ (F:Nat)(c:AP)(ha:Int):Option (Stp (Int) (Out (Int) (Unit))):=
 B0 (decide (ha<(c.fEffects.length:Int))) (Bc (CR ha (c.fEffects.length:Int))<|Bq (Je F c.fEvent (Ap c.fEffects ha) ha) λhb=>B0 (!decide (hb=0)) (some (.out (.ret hb))) (Bc (BS .i64 (ha+1))<|some (.next (ha+1)))) (some (.out (.go ())))
def HP :Option (Int):=
 some 0
def K2 (F:Nat)(c:AP):Option (Int):=
 B0 (((!(LK c.fEvent))||(!(EM c.fTenant)))) (some 4) (Bc (imp (!(decide (c.fAttempt<1))) (imp (!(decide (1073741824<c.fAttempt))) ((BC c.fAt).isSome)))<|B0 (((decide (c.fAttempt<1))||((decide (1073741824<c.fAttempt))||(!(ov (BC c.fAt)))))) (some 2) (Bq (H9 F c.fResult) λha=>B0 (!decide (ha=0)) (some ha) (B0 (decide (32<(c.fEffects.length:Int))) (some 3) (Bq (Cz (λσ=>HQ F c σ) F 0) (Ch λν=>HP )))))
def GF (F:Nat)(c:AP)(hb:(List (List An)))(ha:Int):Option (Stp ((List (List An))×Int) (Out (An×Int) ((List (List An))))):=
 B0 (decide (ha<(c.fEffects.length:Int))) (Bc (CR ha (c.fEffects.length:Int))<|Bc (BS .i64 ((Ap c.fEffects ha).fKind))<|Bc (BS .i64 ((Ap c.fEffects ha).fDelay))<|Bq (Lz F ((Ap c.fEffects ha).fValue)) λhd=>Bc (Dp 24 (hb.length+([([Lib.itoa ((Ap c.fEffects ha).fKind),(Ap c.fEffects ha).fKey,Lib.itoa ((Ap c.fEffects ha).fDelay),hd]:List An)]:List (List An)).length))<|Bc (BS .i64 (ha+1))<|some (.next (hb++([([Lib.itoa ((Ap c.fEffects ha).fKind),(Ap c.fEffects ha).fKey,Lib.itoa ((Ap c.fEffects ha).fDelay),hd]:List An)]:List (List An)),ha+1))) (some (.out (.go hb)))
def GD (F:Nat)(hb:(List (List An))):Option (An×Int):=
 Bq (MM F hb) λha=>some (ha.1,ha.2)
def MP (F:Nat)(c:AP):Option (An×Int):=
 Bq (K2 F c) λr2=>B0 (!decide (r2=0)) (some (([]:An),r2)) (Bc (BS .i64 c.fAttempt)<|Bc (BS .i64 c.fAt)<|Bq (Lz F c.fResult) λha=>Bq (Cz (λσ=>GF F c σ.1 σ.2) F (([([([99,111,109,109,105,116]:An),c.fEvent,c.fTenant,Lib.itoa c.fAttempt,Lib.itoa c.fAt,ha]:List An)]:List (List An)),0)) (Ch λν=>GD F ν))
def EB (ha:Int)(hb:(List (An×Ah))):Option (Stp (Int×(List (An×Ah))) (Out (Int×(List (An×Ah))) ((List (An×Ah))))):=
 Bc (BS .i64 (ha+1))<|some (.next (ha+1,hb))
def HS (l:(List Am))(ha:Int)(hb:(List (An×Ah))):Option (Stp (Int×(List (An×Ah))) (Out (Int×(List (An×Ah))) ((List (An×Ah))))):=
 B0 (decide (ha<(l.length:Int))) (Bc (CR ha (l.length:Int))<|B0 (decide (((Ap l ha).fKind)=1)) (Bq (HW ((Ap l ha).fValue)) λhd=>Bc (BS .i64 (((B3 hb ((Ap l ha).fKey) (Ah.mk ([]:(List Ac)) 0)).fVersion)+1))<|B0 (decide (256<((mset hb ((Ap l ha).fKey) (Ah.mk hd (((B3 hb ((Ap l ha).fKey) (Ah.mk ([]:(List Ac)) 0)).fVersion)+1))).length:Int))) (some (.out (.ret (3,mset hb ((Ap l ha).fKey) (Ah.mk hd (((B3 hb ((Ap l ha).fKey) (Ah.mk ([]:(List Ac)) 0)).fVersion)+1)))))) (EB ha (mset hb ((Ap l ha).fKey) (Ah.mk hd (((B3 hb ((Ap l ha).fKey) (Ah.mk ([]:(List Ac)) 0)).fVersion)+1))))) (B0 (decide (((Ap l ha).fKind)=2)) (EB ha (mdel hb ((Ap l ha).fKey))) (EB ha hb))) (some (.out (.go hb)))
def HR (ha:(List (An×Ah))):Option (Int×(List (An×Ah))):=
 some (0,ha)
def OW (F:Nat)(keys:(List (An×Ah)))(l:(List Am)):Option (Int×(List (An×Ah))):=
 Bq (Cz (λσ=>HS l σ.1 σ.2) F (0,keys)) (Ch λν=>HR ν)
def EL (ha:Int)(hb:(List Ar)):Option (Stp (Int×(List Ar)) (Out (Bool×Int×AG) ((List Ar)))):=
 Bc (BS .i64 (ha+1))<|some (.next (ha+1,hb))
def GI (c:AP)(ha:Int)(hb:(List Ar)):Option (Stp (Int×(List Ar)) (Out (Bool×Int×AG) ((List Ar)))):=
 B0 (decide (ha<(c.fEffects.length:Int))) (Bc (CR ha (c.fEffects.length:Int))<|Bq (Ej ((Ap c.fEffects ha).fKind)) λhe=>B0 (he) (Bc (Dp 1 c.fEvent.length)<|Bc (BS .i64 ha)<|Bq (UF (Ap c.fEffects ha)) λhd=>Bc (Dp 112 (hb.length+([(Ar.mk (BZ c.fEvent ha) c.fTenant c.fEvent c.fAt hd)]:List Ar).length))<|EL ha (hb++([(Ar.mk (BZ c.fEvent ha) c.fTenant c.fEvent c.fAt hd)]:List Ar))) (EL ha hb)) (some (.out (.go hb)))
def GH (o:AG)(c:AP)(ha:Int×(List (An×Ah)))(hb:(List Ac))(hd:(List Ar)):Option (Bool×Int×AG):=
 some (true,0,(AG.mk o.fMade (o.fEvents++([c.fEvent]:List An)) (mset o.fResults c.fEvent hb) (mset o.fKeys c.fTenant ha.2) hd))
def GJ (ha:An)(hb:Ah)(hd:(List (An×Ah))):Option (Stp ((List (An×Ah))) (Out (Bool×Int×AG) ((List (An×Ah))))):=
 some (.next (mset hd ha hb))
def Ek (F:Nat)(o:AG)(c:AP)(hb:(List (An×Ah))):Option (Bool×Int×AG):=
 Bq (OW F hb c.fEffects) λha=>B0 (!decide (ha.1=0)) (some (false,ha.1,o)) (Bc (Dp 16 (o.fEvents.length+([c.fEvent]:List An).length))<|Bq (HW c.fResult) λhd=>Bq (Cz (λσ=>GI c σ.1 σ.2) F (0,o.fPending)) (Ch λν=>GH o c ha hd ν))
def K1 (F:Nat)(o:AG)(c:AP):Option (Bool×Int×AG):=
 Bq (GW o) λr2=>B0 (!r2) (some (false,10,o)) (Bq (K2 F c) λr8=>B0 (!decide (r8=0)) (some (false,r8,o)) (B0 (E3 o.fResults c.fEvent) (some (false,0,o)) (B0 (decide (4000≤(o.fEvents.length:Int))) (some (false,3,o)) (UP (B3 o.fKeys c.fTenant ([]:(List (An×Ah)))) λord=>Bq (Rc (λpe τ=>GJ pe.1 pe.2 τ) ord ([]:List (An×Ah))) (Ch λν=>Ek F o c ν)))))
def ID (c:AP):Option (Bool×Int):=
 some (false,10)
def KA (F:Nat) :Option (Bool):=
 Bq (Gl 7) λr1=>Bq (Gl 1) λr4=>Bq (Gl 2) λr7=>Bq (Wy) λhp=>Bq (K1 F hp (AP.mk ([101,49]:An) ([116]:An) 1 r1 ([(Am.mk 1 ([107]:An) r4 0),(Am.mk 3 ([115]:An) r7 0)]:List Am) 5)) λhf=>Bq (K1 F hf.2.2 (AP.mk ([101,49]:An) ([116]:An) 1 r1 ([(Am.mk 1 ([107]:An) r4 0),(Am.mk 3 ([115]:An) r7 0)]:List Am) 5)) λha=>Bq (MO F ha.2.2 ([116]:An)) λhd=>Bq (IA F ha.2.2) λhb=>Bc (!(!decide (hf.2.1=0)))<|Bc (!(!decide (ha.2.1=0)))<|Bc (!(!hf.1))<|Bc (!ha.1)<|Bc (!(!decide ((hd.length:Int)=1)))<|Bc (CR 0 (hd.length:Int))<|Bc (!(!decide (((Ap hd 0).fKey)=([107]:An))))<|Bc (!(!decide (((Ap hd 0).fVersion)=1)))<|Bc (!(!decide ((hb.length:Int)=1)))<|Bc (CR 0 (hb.length:Int))<|Bc (!(!decide (((Ap hb 0).fID)=([101,49,46,49]:An))))<|Bc (!(!decide (((Ap hb 0).fCause)=([101,49]:An))))<|Bc (!(!decide (((Ap hb 0).fAt)=5)))<|Bc (!(!decide ((((Ap hb 0).fEffect).fKey)=([115]:An))))<|Bq (OM ha.2.2 ([101,49]:An)) λhi=>Bc (!(!hi.2))<|Bq (Gl 7) λhq=>Bq (Un F hi.1 hq) λhr=>Bc (!(!hr))<|Bq (UK F ha.2.2 ([101,49,46,49]:An)) λhj=>Bc (!(!decide (hj.1=0)))<|Bq (UK F hj.2 ([101,49,46,49]:An)) λhe=>Bc (!(!decide (he.1=5)))<|Bq (IA F he.2) λhs=>Bc (!(!decide ((hs.length:Int)=0)))<|Bq (OS he.2) λht=>Bq (Rk F ht ([([101,49]:An)]:List An)) λhu=>Bc (!(!hu))<|Bq (MP F (AP.mk ([101,49]:An) ([116]:An) 1 r1 ([(Am.mk 1 ([107]:An) r4 0),(Am.mk 3 ([115]:An) r7 0)]:List Am) 5)) λhg=>Bq (DE F ([101,49,46,49]:An)) λhk=>Bq (Wy) λhw=>Bc (!(!decide (hg.2=0)))<|Bc (!(!decide (hk.2=0)))<|Bq (NU F hw hg.1) λhl=>Bc (!(!decide (hl.1=0)))<|Bq (NU F hl.2 hk.1) λhm=>Bc (!(!decide (hm.1=0)))<|Bq (NU F hm.2 hg.1) λhn=>Bc (!(!decide (hn.1=0)))<|Bq (NU F hn.2 ([120]:An)) λhh=>Bc (!(!decide (hh.1=13)))<|Bq (IA F hh.2) λhx=>Bc (!(!decide ((hx.length:Int)=0)))<|Bq (MO F hh.2 ([116]:An)) λhy=>Bc (!(!decide ((hy.length:Int)=1)))<|Bc (CR 1 (([(Am.mk 1 ([107]:An) r4 0),(Am.mk 3 ([115]:An) r7 0)]:List Am).length:Int))<|JX (List.set ([(Am.mk 1 ([107]:An) r4 0),(Am.mk 3 ([115]:An) r7 0)]:List Am) (Int.toNat 1) (Am.mk ((Ap ([(Am.mk 1 ([107]:An) r4 0),(Am.mk 3 ([115]:An) r7 0)]:List Am) 1).fKind) ([83]:An) ((Ap ([(Am.mk 1 ([107]:An) r4 0),(Am.mk 3 ([115]:An) r7 0)]:List Am) 1).fValue) ((Ap ([(Am.mk 1 ([107]:An) r4 0),(Am.mk 3 ([115]:An) r7 0)]:List Am) 1).fDelay))) λho=>Bq (ID (AP.mk ([101,49]:An) ([116]:An) 1 r1 ho 5)) λhz=>Bc (decide (hz.2=10))<|Bq (K2 F (AP.mk ([101,49]:An) ([116]:An) 1 r1 ho 5)) λh0=>Bc (decide (h0=4))<|Bq (MO F he.2 ([117]:An)) λh1=>some (decide ((h1.length:Int)=0))
def Hv (ha:Bool):Option (Bool):=
 some ha
def MV (F:Nat)(x:Cd)(tenant:An):Option (Bool):=
 Bq (IF F x) λr3=>Bq (Jj F x) λr6=>Bq (HG x.fC.fEvent) λr9=>Bq (G8 x.fC.fEvent) λhh=>B0 ((r3.1||(r6.1||(r9.2||(hh.2||((!decide (r3.2=10))||(!decide (r6.2=10)))))))) (some false) (Bq (Ei) λha=>Bq (Eu) λhb=>Bc (BS .i64 ((ha.length:Int)+(hb.length:Int)))<|Bq (HI) λhd=>Bc (BS .i64 (((ha.length:Int)+(hb.length:Int))+(hd.length:Int)))<|Bq (GC) λhe=>Bc (BS .i64 ((((ha.length:Int)+(hb.length:Int))+(hd.length:Int))+(he.length:Int)))<|Bq (Jd tenant) λhf=>Bc (BS .i64 (((((ha.length:Int)+(hb.length:Int))+(hd.length:Int))+(he.length:Int))+(hf.length:Int)))<|Bq (HH tenant) λhg=>Bc (BS .i64 ((((((ha.length:Int)+(hb.length:Int))+(hd.length:Int))+(he.length:Int))+(hf.length:Int))+(hg.length:Int)))<|B0 (decide (((((((ha.length:Int)+(hb.length:Int))+(hd.length:Int))+(he.length:Int))+(hf.length:Int))+(hg.length:Int))=0)) (Bq (KA F) λhi=>Hv hi) (Hv false))
end Go.Proofs.YtfobhhegpkinaaaGreatDoor
namespace Go.Proofs.YtfobhhegpkinaaaGreatDoor.Q
open Go Go.RowKit
set_option linter.unusedVariables false
set_option linter.unusedSimpArgs false
set_option maxRecDepth 100000
set_option maxHeartbeats 4000000
theorem Ir {n:Nat}{c:Cx}{l:Fr}{H:List Ent}{d:Option Nat}{ty:TypeId}{pos:String}{af:Array Edge}{g:Option (Nat×Bool)}{x0:Operand}{r0:Rp}(h0:ev l x0=some r0)(u0:r0.one=true){x1:Operand}{r1:Rp}(h1:ev l x1=some r1)(u1:r1.one=true){x2:Operand}{r2:Rp}(h2:ev l x2=some r2)(u2:r2.one=true){x3:Operand}{r3:Rp}(h3:ev l x3=some r3)(u3:r3.one=true){x4:Operand}{r4:Rp}(h4:ev l x4=some r4)(u4:r4.one=true){x5:Operand}{r5:Rp}(h5:ev l x5=some r5)(u5:r5.one=true):Be Tryz.prog n c l H { dst:=d,op:=.build 34 #[(0,x0),(1,x1),(2,x2),(3,x3),(4,x4),(5,x5)],type:=ty,pos:=pos,after:=af,guard:=g } (B9 [r0,r1,r2,r3,r4,r5]):=λa w Z ha _=>by
  have p0:=ha.ev h0;have c0:=Bl (r0.hone u0 Z _ p0);have p1:=ha.ev h1;have c1:=Bl (r1.hone u1 Z _ p1);have p2:=ha.ev h2;have c2:=Bl (r2.hone u2 Z _ p2);have p3:=ha.ev h3;have c3:=Bl (r3.hone u3 Z _ p3);have p4:=ha.ev h4;have c4:=Bl (r4.hone u4 Z _ p4);have p5:=ha.ev h5;have c5:=Bl (r5.hone u5 Z _ p5);have hb:Tryz.prog.built 34 [(0,a.eval x0),(1,a.eval x1),(2,a.eval x2),(3,a.eval x3),(4,a.eval x4),(5,a.eval x5)]=some #[a.eval x0,a.eval x1,a.eval x2,a.eval x3,a.eval x4,a.eval x5]:=by
    rw[WU];generalize a.eval x0=v0 at *;generalize a.eval x1=v1 at *;generalize a.eval x2=v2 at *;generalize a.eval x3=v3 at *;generalize a.eval x4=v4 at *;generalize a.eval x5=v5 at *;simp[Instr.fill,c0,c1,c2,c3,c4,c5]
  refine⟨.agg #[a.eval x0,a.eval x1,a.eval x2,a.eval x3,a.eval x4,a.eval x5],⟨[a.eval x0,a.eval x1,a.eval x2,a.eval x3,a.eval x4,a.eval x5],rfl,p0,p1,p2,p3,p4,p5,trivial⟩,?_⟩;have:=run_build w 34 #[(0,a.eval x0),(1,a.eval x1),(2,a.eval x2),(3,a.eval x3),(4,a.eval x4),(5,a.eval x5)] _ (by simpa using hb);simp[execOp,this]
theorem QR {n:Nat}{c:Cx}{l:Fr}{H:List Ent}{d:Option Nat}{ty:TypeId}{pos:String}{af:Array Edge}{g:Option (Nat×Bool)}:Be Tryz.prog n c l H { dst:=d,op:=.build 59 #[],type:=ty,pos:=pos,after:=af,guard:=g } (B9 [rB false,rv (.slice none 0 0),rv (.map none),rv (.map none),rv (.slice none 0 0)]):=λa w Z ha _=>by
  have hb:Tryz.prog.built 59 []=some #[(.bool false),((.slice none 0 0)),((.map none)),((.map none)),((.slice none 0 0))]:=by
    rw[Sq];simp[Instr.fill,Value.cells]
  refine⟨.agg #[(.bool false),((.slice none 0 0)),((.map none)),((.map none)),((.slice none 0 0))],⟨[(.bool false),((.slice none 0 0)),((.map none)),((.map none)),((.slice none 0 0))],rfl,rfl,rfl,rfl,rfl,rfl,trivial⟩,?_⟩;have:=run_build w 59 #[] _ (by simpa using hb);simp[execOp,this]
theorem Ig {n:Nat}{c:Cx}{l:Fr}{H:List Ent}{d:Option Nat}{ty:TypeId}{pos:String}{af:Array Edge}{g:Option (Nat×Bool)}{x0:Operand}{r0:Rp}(h0:ev l x0=some r0)(u0:r0.one=true){x1:Operand}{r1:Rp}(h1:ev l x1=some r1)(u1:r1.one=true){x2:Operand}{r2:Rp}(h2:ev l x2=some r2)(u2:r2.one=true):Be Tryz.prog n c l H { dst:=d,op:=.build 65 #[(0,x0),(1,x1),(2,x2)],type:=ty,pos:=pos,after:=af,guard:=g } (B9 [r0,r1,r2,As 0]):=λa w Z ha _=>by
  have p0:=ha.ev h0;have c0:=Bl (r0.hone u0 Z _ p0);have p1:=ha.ev h1;have c1:=Bl (r1.hone u1 Z _ p1);have p2:=ha.ev h2;have c2:=Bl (r2.hone u2 Z _ p2);have hb:Tryz.prog.built 65 [(0,a.eval x0),(1,a.eval x1),(2,a.eval x2)]=some #[a.eval x0,a.eval x1,a.eval x2,(.int .i64 0)]:=by
    rw[So];generalize a.eval x0=v0 at *;generalize a.eval x1=v1 at *;generalize a.eval x2=v2 at *;simp[Instr.fill,c0,c1,c2]
  refine⟨.agg #[a.eval x0,a.eval x1,a.eval x2,(.int .i64 0)],⟨[a.eval x0,a.eval x1,a.eval x2,(.int .i64 0)],rfl,p0,p1,p2,rfl,trivial⟩,?_⟩;have:=run_build w 65 #[(0,a.eval x0),(1,a.eval x1),(2,a.eval x2)] _ (by simpa using hb);simp[execOp,this]
theorem OU (c:AP)(r:Bool×Int)(h:HO c=some r):Fn Tryz.prog GE 35 [rv (.pointer none),B9 (AW c)] [] (λR H=>R=Cn [rB r.1,As r.2]∧H=[]):=by
 refine enter (n:=131) TR Aa TL Aa (λw Z=>?_);unfold HO at h;refine Al (BX Aa Aa (λb1=>?_));refine wa Aa (wa Aa (Au (Aq (Al (wm Aa (Di Gn (Dr false Aa) Aa (wv (B7 Aa) (Au (BK Aa (EU Aa) (Al (wa Aa (wa Aa (Au (A0 (Af ?_)))))))))))))));obtain rfl:=A1 h;exact Az (Dq JE (AI Aa) (AI Aa)) (sS sN) ⟨Aa,Aa⟩
theorem OL (event:An)(r:(List Ac)×Bool)(h:HG event=some r):Fn Tryz.prog GE 13 [rv (.pointer none),rS event] [] (λR H=>R=Cn [AU 4 (Ax Ab r.1),rB r.2]∧H=[]):=by
 refine enter (n:=23) Tryz.func13 Aa Tryz.ntmps13 Aa (λw Z=>?_);unfold HG at h;refine Al (wa Aa (wa Aa (Au (Aq (Al (wm Aa (Di Gn (Dr false Aa) Aa (wv (B7 Aa) (Au (BK Aa (EU Aa) (Al (wa Aa (wa Aa (Au (A0 (Af (WK.up (d:=4) (r:=AU 4 (Ax Ab ([]:List Ac))) Aa (Up.le (HZ.nil _)) ?_)))))))))))))))));obtain rfl:=A1 h;exact Az (Dq VP (AI Aa) (AI Aa)) sN ⟨Aa,Aa⟩
theorem J6  (r:(List Ar))(h:Ei=some r):Fn Tryz.prog GE 20 [rv (.pointer none)] [] (λR H=>R=AU 8 (Ax Ae r)∧H=[]):=by
 refine enter (n:=28) Tryz.func20 Aa Tryz.ntmps20 Aa (λw Z=>?_);unfold Ei at h;refine Al (wa Aa (Au (Aq (Al (wm Aa (Di Gn (Dr false Aa) Aa (wv (B7 Aa) (Au (BK Aa (EU Aa) (Al (wa Aa (Au (A0 (Af (WK.up (d:=2) (r:=AU 8 (Ax Ae ([]:List Ar))) Aa (Up.le (HZ.nil _)) ?_)))))))))))))));obtain rfl:=A1 h;exact Az (BW VN (AI Aa)) sN ⟨Aa,Aa⟩
theorem NW (id:An)(r:Int)(h:K4 id=some r):Fn Tryz.prog GE 36 [rv (.pointer none),rS id] [] (λR H=>R=As r∧H=[]):=by
 refine enter (n:=29) Tryz.func36 Aa Tryz.ntmps36 Aa (λw Z=>?_);unfold K4 at h;refine Al (P5 Aa (Bw Aa) Aa (λb1=>?_));refine wa Aa (Au (Aq (Al (wm Aa (Di Gn (Dr false Aa) Aa (wv (B7 Aa) (Au (BK Aa (EU Aa) (Al (wa Aa (Au (A0 (Af ?_)))))))))))));obtain rfl:=A1 h;exact Az (BW TK (AI Aa)) (sS sN) ⟨Aa,Aa⟩
theorem PT (tenant:An)(r:(List Bn))(h:Jd tenant=some r):Fn Tryz.prog GE 23 [rv (.pointer none),rS tenant] [] (λR H=>R=AU 3 (Ax BE r)∧H=[]):=by
 refine enter (n:=56) Tryz.func23 Aa Tryz.ntmps23 Aa (λw Z=>?_);unfold Jd at h;refine Al (wa Aa (Au (Aq (Al (wm Aa (Di Gn (Dr false Aa) Aa (wv (B7 Aa) (Au (BK Aa (EU Aa) (Al (wa Aa (Au (A0 (Af (WK.up (d:=4) (r:=AU 3 (Ax BE ([]:List Bn))) Aa (Up.le (HZ.nil _)) ?_)))))))))))))));obtain rfl:=A1 h;exact Az (BW VM (AI Aa)) sN ⟨Aa,Aa⟩
theorem OR  (r:(List An))(h:HI=some r):Fn Tryz.prog GE 17 [rv (.pointer none)] [] (λR H=>R=AU 1 (Ax eS r)∧H=[]):=by
 refine enter (n:=11) Tryz.func17 Aa Tryz.ntmps17 Aa (λw Z=>?_);unfold HI at h;refine Al (wa Aa (Au (Aq (Al (wm Aa (Di Gn (Dr false Aa) Aa (wv (B7 Aa) (Au (BK Aa (EU Aa) (Al (wa Aa (Au (A0 (Af (WK.up (d:=2) (r:=AU 1 (Ax eS ([]:List An))) Aa (Up.le (HZ.nil _)) ?_)))))))))))))));obtain rfl:=A1 h;exact Az (BW VO (AI Aa)) sN ⟨Aa,Aa⟩
theorem JP (rc:An)(r:Int)(h:Ht rc=some r):Fn Tryz.prog GE 33 [rv (.pointer none),rS rc] [] (λR H=>R=As r∧H=[]):=by
 refine enter (n:=107) Tryz.func33 Aa Tryz.ntmps33 Aa (λw Z=>?_);unfold Ht at h;refine Al (wa Aa (Au (Aq (Al (wm Aa (Di Gn (Dr false Aa) Aa (wv (B7 Aa) (Au (BK Aa (EU Aa) (Al (wa Aa (Au (A0 (Af ?_))))))))))))));obtain rfl:=A1 h;exact Az (BW Pz (AI Aa)) sN ⟨Aa,Aa⟩
theorem Re (F:Nat)(x:Cd)(r:Bool×Int)(h:IF F x=some r):Fn Tryz.prog GE 11 [rv (.pointer none),B9 (BO x)] [] (λR H=>R=Cn [rB r.1,As r.2]∧H=[]):=by
 refine enter (n:=58) Tryz.func11 Aa Tryz.ntmps11 Aa (λw Z=>?_);unfold IF at h;refine Al (BX Aa Aa (λb1=>?_));refine wa Aa (wa Aa (Au (Aq (Al (vF EX Aa C2 (vL 0 CQ Aa (wv (BN Aa Aa) (Au (cz h Aa (λc2 h3=>?_) (λc2 h7=>?_))))))))))
 ·refine Al (wm Aa (vF EX Aa Dl (wv (AZ (i:=0) E5 Dl Aa Aa Aa Aa) (ob h3 λr4 e6 h5=>Di S7 (OU x.fC r4 e6) Aa (wv (A4 Aa Aa) (wv (A4 Aa Aa) (wa Aa (wa Aa (Au (A0 (Af ?_)))))))))));obtain rfl:=A1 h5;exact Az (Dq LD (AI Aa) (AI Aa)) (sS sN) ⟨Aa,Aa⟩
 ·refine A3 (AT (Aq (Al (vF EX Aa C2 (vL 0 CQ Aa (wv (BN Aa Aa) (Au (cz h7 Aa (λc8 h9=>?_) (λc8 hf=>?_)))))))))
  ·refine Al (wm Aa (vF EX Aa Cs (vL 0 C7 Aa (ob h9 λhg hh hi=>Di QA (NW x.fS hg hh) Aa (wa Aa (wa Aa (Au (A0 (Af ?_)))))))));obtain rfl:=A1 hi;exact Az (Dq LD (AI Aa) (AI Aa)) (sS sN) ⟨Aa,Aa⟩
  ·refine A3 (AT (Aq (Al (vF EX Aa C2 (vL 0 CQ Aa (wv (BN Aa Aa) (Au (cz hf Aa (λhj hk=>?_) (λhj hl=>?_)))))))))
   ·refine Aq (ob hk λha hm hn=>ob hn λhb ho hp=>CL 6 [0,3,4,5] [⟨[],rv (.pointer none),none,none,none⟩,⟨[],rv (.pointer none),none,none,none⟩,⟨[1],AU 8 (Ax Ae ha),none,none,none⟩,⟨[],rP b1 8,none,none,none⟩,⟨[3],As x.fN,none,none,none⟩,⟨[2,4],rS hb,none,none,none⟩] ?_ (λβ=>?_))
    ·refine CN (Aw Aa) (CN (Aw Aa) (KU (Et QB (J6 ha hm) Aa) (CN (Ay EX Aa C2 Aa Aa) (Gi (AQ (i:=0) CQ Aa Aa Aa) (KU (Et Tryz.call32 (Qc ha x.fN hb ho) Aa) ?_)))));exact OH
    refine CK (H1:=[.blk b1 (BO x) 36]) [26,27,28,29,30,31,0,3,4,5] ?_;refine ob hp λhq hr hs=>Di QA (NW hb hq hr) Aa (wa Aa (wa Aa (Au (A0 (Af ?_)))));obtain rfl:=A1 hs;exact Az (Dq LD (AI Aa) (AI Aa)) (sS sN) ⟨Aa,Aa⟩
   ·refine A3 (AT (Aq (Al (vF EX Aa C2 (vL 0 CQ Aa (wv (BN Aa Aa) (Au (cz hl Aa (λht hu=>?_) (λht hw=>?_)))))))))
    ·refine Al (wm Aa (vF EX Aa Cs (vL 0 C7 Aa (ob hu λhx hy hz=>Di Nt (JP x.fS hx hy) Aa (wa Aa (wa Aa (Au (A0 (Af ?_)))))))));obtain rfl:=A1 hz;exact Az (Dq LD (AI Aa) (AI Aa)) (sS sN) ⟨Aa,Aa⟩
    ·refine A3 (AT (Al (wv (r:=rS ([]:An)) (A7 Aa) (Au (Aq (Al (vF EX Aa C2 (vL 0 CQ Aa (wv (BN Aa Aa) (Au (cz hw Aa (λh0 h1=>?_) (λh0 h2=>?_))))))))))))
     ·refine At (vF EX Aa Dl (wv (AZ (i:=0) E5 Dl Aa Aa Aa Aa) (ob h1 λhd h4 h6=>Di Tryz.call25 (KX F x.fC hd h4) Aa (wm Aa (wv (A4 Aa Aa) (wv (A4 Aa Aa) (wa Aa (Bk (wm Aa (wm Aa (ob h6 λh8 hA hB=>Di Nt (JP hd.1 h8 hA) Aa (wa Aa (wa Aa (Au (A0 ?_)))))))))))))));obtain rfl:=A1 hB;exact Az (Dq LD (AI Aa) (AI Aa)) (sS sN) ⟨Aa,Aa⟩
     ·refine At (vF EX Aa Cs (vL 0 C7 Aa (ob h2 λhe hC hD=>Di Tryz.call29 (Gc F x.fS he hC) Aa (wm Aa (wv (A4 Aa Aa) (wv (A4 Aa Aa) (wa Aa (Bk (wm Aa (wm Aa (ob hD λhE hG hH=>Di Nt (JP he.1 hE hG) Aa (wa Aa (wa Aa (Au (A0 ?_)))))))))))))));obtain rfl:=A1 hH;exact Az (Dq LD (AI Aa) (AI Aa)) (sS sN) ⟨Aa,Aa⟩
theorem N6 (ha:Nat)(c:AP)(r:Bool×Int)(h:IC c=some r):Fn Tryz.prog GE 35 [rP ha 0,B9 (AW c)] [.blk ha [rB false,rv (.slice none 0 0),rv (.map none),rv (.map none),rv (.slice none 0 0)] 59] (λR H=>R=Cn [rB r.1,As r.2]∧H=[.blk ha [rB false,rv (.slice none 0 0),rv (.map none),rv (.map none),rv (.slice none 0 0)] 59]):=by
 refine enter (n:=131) TR Aa TL Aa (λw Z=>?_);unfold IC at h;refine Al (BX Aa Aa (λb1=>?_));refine wa Aa (wa Aa (Au (Aq (Al (wm Aa (CV (Hr:=[.blk b1 (AW c) 34]) Gn (Dy ha false Aa) Aa ((Ak (i:=1) Aa).trans (Zo _ (Zp _))) Aa ?_))))));rintro _ _ ⟨rfl,rfl⟩;refine wv (B7 Aa) (Au (BK Aa (EU Aa) (Al (wa Aa (wa Aa (Au (A0 (Af ?_))))))));obtain rfl:=A1 h;exact Az (Dq JE (AI Aa) (AI Aa)) (sC (sS sN)) ⟨Aa,Aa⟩
theorem N2 (ha:Nat)(event:An)(r:(List Ac)×Bool)(h:G8 event=some r):Fn Tryz.prog GE 13 [rP ha 0,rS event] [.blk ha [rB false,rv (.slice none 0 0),rv (.map none),rv (.map none),rv (.slice none 0 0)] 59] (λR H=>R=Cn [AU 4 (Ax Ab r.1),rB r.2]∧H=[.blk ha [rB false,rv (.slice none 0 0),rv (.map none),rv (.map none),rv (.slice none 0 0)] 59]):=by
 refine enter (n:=23) Tryz.func13 Aa Tryz.ntmps13 Aa (λw Z=>?_);unfold G8 at h;refine Al (wa Aa (wa Aa (Au (Aq (Al (wm Aa (CV (Hr:=[]) Gn (Dy ha false Aa) Aa (Zp _) Aa ?_)))))));rintro _ _ ⟨rfl,rfl⟩;refine wv (B7 Aa) (Au (BK Aa (EU Aa) (Al (wa Aa (wa Aa (Au (A0 (Af (WK.up (d:=4) (r:=AU 4 (Ax Ab ([]:List Ac))) Aa (Up.le (HZ.nil _)) ?_)))))))));obtain rfl:=A1 h;exact Az (Dq VP (AI Aa) (AI Aa)) (sC sN) ⟨Aa,Aa⟩
theorem I9 (ha:Nat)  (r:(List Ar))(h:Eu=some r):Fn Tryz.prog GE 20 [rP ha 0] [.blk ha [rB false,rv (.slice none 0 0),rv (.map none),rv (.map none),rv (.slice none 0 0)] 59] (λR H=>R=AU 8 (Ax Ae r)∧H=[.blk ha [rB false,rv (.slice none 0 0),rv (.map none),rv (.map none),rv (.slice none 0 0)] 59]):=by
 refine enter (n:=28) Tryz.func20 Aa Tryz.ntmps20 Aa (λw Z=>?_);unfold Eu at h;refine Al (wa Aa (Au (Aq (Al (wm Aa (CV (Hr:=[]) Gn (Dy ha false Aa) Aa (Zp _) Aa ?_))))));rintro _ _ ⟨rfl,rfl⟩;refine wv (B7 Aa) (Au (BK Aa (EU Aa) (Al (wa Aa (Au (A0 (Af (WK.up (d:=2) (r:=AU 8 (Ax Ae ([]:List Ar))) Aa (Up.le (HZ.nil _)) ?_))))))));obtain rfl:=A1 h;exact Az (BW VN (AI Aa)) (sC sN) ⟨Aa,Aa⟩
theorem MR (ha:Nat)(id:An)(r:Int)(h:K3 id=some r):Fn Tryz.prog GE 36 [rP ha 0,rS id] [.blk ha [rB false,rv (.slice none 0 0),rv (.map none),rv (.map none),rv (.slice none 0 0)] 59] (λR H=>R=As r∧H=[.blk ha [rB false,rv (.slice none 0 0),rv (.map none),rv (.map none),rv (.slice none 0 0)] 59]):=by
 refine enter (n:=29) Tryz.func36 Aa Tryz.ntmps36 Aa (λw Z=>?_);unfold K3 at h;refine Al (P5 Aa (Bw Aa) Aa (λb1=>?_));refine wa Aa (Au (Aq (Al (wm Aa (CV (Hr:=[.blk b1 [rS id] 9]) Gn (Dy ha false Aa) Aa ((Ak (i:=1) Aa).trans (Zo _ (Zp _))) Aa ?_)))));rintro _ _ ⟨rfl,rfl⟩;refine wv (B7 Aa) (Au (BK Aa (EU Aa) (Al (wa Aa (Au (A0 (Af ?_)))))));obtain rfl:=A1 h;exact Az (BW TK (AI Aa)) (sC (sS sN)) ⟨Aa,Aa⟩
theorem OQ (ha:Nat)(tenant:An)(r:(List Bn))(h:HH tenant=some r):Fn Tryz.prog GE 23 [rP ha 0,rS tenant] [.blk ha [rB false,rv (.slice none 0 0),rv (.map none),rv (.map none),rv (.slice none 0 0)] 59] (λR H=>R=AU 3 (Ax BE r)∧H=[.blk ha [rB false,rv (.slice none 0 0),rv (.map none),rv (.map none),rv (.slice none 0 0)] 59]):=by
 refine enter (n:=56) Tryz.func23 Aa Tryz.ntmps23 Aa (λw Z=>?_);unfold HH at h;refine Al (wa Aa (Au (Aq (Al (wm Aa (CV (Hr:=[]) Gn (Dy ha false Aa) Aa (Zp _) Aa ?_))))));rintro _ _ ⟨rfl,rfl⟩;refine wv (B7 Aa) (Au (BK Aa (EU Aa) (Al (wa Aa (Au (A0 (Af (WK.up (d:=4) (r:=AU 3 (Ax BE ([]:List Bn))) Aa (Up.le (HZ.nil _)) ?_))))))));obtain rfl:=A1 h;exact Az (BW VM (AI Aa)) (sC sN) ⟨Aa,Aa⟩
theorem N4 (ha:Nat)  (r:(List An))(h:GC=some r):Fn Tryz.prog GE 17 [rP ha 0] [.blk ha [rB false,rv (.slice none 0 0),rv (.map none),rv (.map none),rv (.slice none 0 0)] 59] (λR H=>R=AU 1 (Ax eS r)∧H=[.blk ha [rB false,rv (.slice none 0 0),rv (.map none),rv (.map none),rv (.slice none 0 0)] 59]):=by
 refine enter (n:=11) Tryz.func17 Aa Tryz.ntmps17 Aa (λw Z=>?_);unfold GC at h;refine Al (wa Aa (Au (Aq (Al (wm Aa (CV (Hr:=[]) Gn (Dy ha false Aa) Aa (Zp _) Aa ?_))))));rintro _ _ ⟨rfl,rfl⟩;refine wv (B7 Aa) (Au (BK Aa (EU Aa) (Al (wa Aa (Au (A0 (Af (WK.up (d:=2) (r:=AU 1 (Ax eS ([]:List An))) Aa (Up.le (HZ.nil _)) ?_))))))));obtain rfl:=A1 h;exact Az (BW VO (AI Aa)) (sC sN) ⟨Aa,Aa⟩
theorem IB (ha:Nat)(rc:An)(r:Int)(h:Hq rc=some r):Fn Tryz.prog GE 33 [rP ha 0,rS rc] [.blk ha [rB false,rv (.slice none 0 0),rv (.map none),rv (.map none),rv (.slice none 0 0)] 59] (λR H=>R=As r∧H=[.blk ha [rB false,rv (.slice none 0 0),rv (.map none),rv (.map none),rv (.slice none 0 0)] 59]):=by
 refine enter (n:=107) Tryz.func33 Aa Tryz.ntmps33 Aa (λw Z=>?_);unfold Hq at h;refine Al (wa Aa (Au (Aq (Al (wm Aa (CV (Hr:=[]) Gn (Dy ha false Aa) Aa (Zp _) Aa ?_))))));rintro _ _ ⟨rfl,rfl⟩;refine wv (B7 Aa) (Au (BK Aa (EU Aa) (Al (wa Aa (Au (A0 (Af ?_)))))));obtain rfl:=A1 h;exact Az (BW Pz (AI Aa)) (sC sN) ⟨Aa,Aa⟩
theorem Qd (F:Nat)(ha:Nat)(x:Cd)(r:Bool×Int)(h:Jj F x=some r):Fn Tryz.prog GE 11 [rP ha 0,B9 (BO x)] [.blk ha [rB false,rv (.slice none 0 0),rv (.map none),rv (.map none),rv (.slice none 0 0)] 59] (λR H=>R=Cn [rB r.1,As r.2]∧H=[.blk ha [rB false,rv (.slice none 0 0),rv (.map none),rv (.map none),rv (.slice none 0 0)] 59]):=by
 refine enter (n:=58) Tryz.func11 Aa Tryz.ntmps11 Aa (λw Z=>?_);unfold Jj at h;refine Al (BX Aa Aa (λb1=>?_));refine wa Aa (wa Aa (Au (Aq (Al (vF EX Aa C2 (vL 0 CQ Aa (wv (BN Aa Aa) (Au (cz h Aa (λc2 h3=>?_) (λc2 h7=>?_))))))))))
 ·refine Al (wm Aa (vF EX Aa Dl (wv (AZ (i:=0) E5 Dl Aa Aa Aa Aa) (ob h3 λr4 e6 h5=>CV (Hr:=[.blk b1 (BO x) 36]) S7 (N6 ha x.fC r4 e6) Aa ((Ak (i:=1) Aa).trans (Zo _ (Zp _))) Aa ?_))));rintro _ _ ⟨rfl,rfl⟩;refine wv (A4 Aa Aa) (wv (A4 Aa Aa) (wa Aa (wa Aa (Au (A0 (Af ?_))))));obtain rfl:=A1 h5;exact Az (Dq LD (AI Aa) (AI Aa)) (sC (sS sN)) ⟨Aa,Aa⟩
 ·refine A3 (AT (Aq (Al (vF EX Aa C2 (vL 0 CQ Aa (wv (BN Aa Aa) (Au (cz h7 Aa (λc8 h9=>?_) (λc8 hg=>?_)))))))))
  ·refine Al (wm Aa (vF EX Aa Cs (vL 0 C7 Aa (ob h9 λhh hi hj=>CV (Hr:=[.blk b1 (BO x) 36]) QA (MR ha x.fS hh hi) Aa ((Ak (i:=1) Aa).trans (Zo _ (Zp _))) Aa ?_))));rintro _ _ ⟨rfl,rfl⟩;refine wa Aa (wa Aa (Au (A0 (Af ?_))));obtain rfl:=A1 hj;exact Az (Dq LD (AI Aa) (AI Aa)) (sC (sS sN)) ⟨Aa,Aa⟩
  ·refine A3 (AT (Aq (Al (vF EX Aa C2 (vL 0 CQ Aa (wv (BN Aa Aa) (Au (cz hg Aa (λhk hl=>?_) (λhk hm=>?_)))))))))
   ·refine Aq (ob hl λhb hn ho=>ob ho λhd hp hq=>CL 6 [0,3,4,5] [⟨[],rP ha 0,none,none,none⟩,⟨[],rP ha 0,none,none,none⟩,⟨[1],AU 8 (Ax Ae hb),none,none,none⟩,⟨[],rP b1 8,none,none,none⟩,⟨[3],As x.fN,none,none,none⟩,⟨[2,4],rS hd,none,none,none⟩] ?_ (λβ=>?_))
    ·refine CN (Aw Aa) (CN (Aw Aa) (KU (ST (Hin:=[.blk ha [rB false,rv (.slice none 0 0),rv (.map none),rv (.map none),rv (.slice none 0 0)] 59]) (Hr:=[.blk b1 (BO x) 36]) QB Aa ((Ak (i:=1) Aa).trans (Zo _ (Zp _))) (I9 ha hb hn)) (CN (Ay EX Aa C2 Aa Aa) (Gi (AQ (i:=0) CQ Aa Aa Aa) (KU (Et Tryz.call32 (Qc hb x.fN hd hp) Aa) ?_)))));exact OH
    refine CK (H1:=[.blk b1 (BO x) 36,.blk ha [rB false,rv (.slice none 0 0),rv (.map none),rv (.map none),rv (.slice none 0 0)] 59]) [26,27,28,29,30,31,0,3,4,5] ?_;refine ob hq λhr hs ht=>CV (Hr:=[.blk b1 (BO x) 36]) QA (MR ha hd hr hs) Aa ((Ak (i:=1) Aa).trans (Zo _ (Zp _))) Aa ?_;rintro _ _ ⟨rfl,rfl⟩;refine wa Aa (wa Aa (Au (A0 (Af ?_))));obtain rfl:=A1 ht;exact Az (Dq LD (AI Aa) (AI Aa)) (sC (sS sN)) ⟨Aa,Aa⟩
   ·refine A3 (AT (Aq (Al (vF EX Aa C2 (vL 0 CQ Aa (wv (BN Aa Aa) (Au (cz hm Aa (λhu hw=>?_) (λhu hx=>?_)))))))))
    ·refine Al (wm Aa (vF EX Aa Cs (vL 0 C7 Aa (ob hw λhy hz h0=>CV (Hr:=[.blk b1 (BO x) 36]) Nt (IB ha x.fS hy hz) Aa ((Ak (i:=1) Aa).trans (Zo _ (Zp _))) Aa ?_))));rintro _ _ ⟨rfl,rfl⟩;refine wa Aa (wa Aa (Au (A0 (Af ?_))));obtain rfl:=A1 h0;exact Az (Dq LD (AI Aa) (AI Aa)) (sC (sS sN)) ⟨Aa,Aa⟩
    ·refine A3 (AT (Al (wv (r:=rS ([]:An)) (A7 Aa) (Au (Aq (Al (vF EX Aa C2 (vL 0 CQ Aa (wv (BN Aa Aa) (Au (cz hx Aa (λh1 h2=>?_) (λh1 h4=>?_))))))))))))
     ·refine At (vF EX Aa Dl (wv (AZ (i:=0) E5 Dl Aa Aa Aa Aa) (ob h2 λhe h6 h8=>Di Tryz.call25 (KX F x.fC he h6) Aa (wm Aa (wv (A4 Aa Aa) (wv (A4 Aa Aa) (wa Aa (Bk (wm Aa (wm Aa (ob h8 λhA hB hC=>CV (Hr:=[.blk b1 (BO x) 36]) Nt (IB ha he.1 hA hB) Aa ((Ak (i:=1) Aa).trans (Zo _ (Zp _))) Aa ?_)))))))))));rintro _ _ ⟨rfl,rfl⟩;refine wa Aa (wa Aa (Au (A0 ?_)));obtain rfl:=A1 hC;exact Az (Dq LD (AI Aa) (AI Aa)) (sC (sS sN)) ⟨Aa,Aa⟩
     ·refine At (vF EX Aa Cs (vL 0 C7 Aa (ob h4 λhf hD hE=>Di Tryz.call29 (Gc F x.fS hf hD) Aa (wm Aa (wv (A4 Aa Aa) (wv (A4 Aa Aa) (wa Aa (Bk (wm Aa (wm Aa (ob hE λhG hH hI=>CV (Hr:=[.blk b1 (BO x) 36]) Nt (IB ha hf.1 hG hH) Aa ((Ak (i:=1) Aa).trans (Zo _ (Zp _))) Aa ?_)))))))))));rintro _ _ ⟨rfl,rfl⟩;refine wa Aa (wa Aa (Au (A0 ?_)));obtain rfl:=A1 hI;exact Az (Dq LD (AI Aa) (AI Aa)) (sC (sS sN)) ⟨Aa,Aa⟩
theorem KY (F:Nat)(ha:Value)(c:AP)(r:Int)(h:K2 F c=some r):Fn Tryz.prog GE 27 [B9 [rS c.fEvent,rS c.fTenant,As c.fAttempt,AU 4 (Ax Ab c.fResult),rv ha,As c.fAt]] [.row ha 65 4 (Ax Ai c.fEffects)] (λR H=>R=As r∧H=[.row ha 65 4 (Ax Ai c.fEffects)]):=by
 refine enter (n:=58) Tryz.func27 Aa Tryz.ntmps27 Aa (λw Z=>?_);unfold K2 at h;refine Al (BX Aa Aa (λb1=>?_));refine wa Aa (Au (Aq (AR [(1,rP b1 0),(16,rB ((!(LK c.fEvent))||(!(EM c.fTenant))))] [.blk b1 [rS c.fEvent,rS c.fTenant,As c.fAttempt,AU 4 (Ax Ab c.fResult),rv ha,As c.fAt] 34,.row ha 65 4 (Ax Ai c.fEffects)] ?_ ?_)))
 ·refine At (vF Cm Aa Cs (vL 0 C7 Aa (CM (rs:=[rS c.fEvent]) (r:=rB (LK c.fEvent)) TO Aa (WA c.fEvent) Aa Aa (wv (B7 Aa) (wm Aa (AX (!(LK c.fEvent)) (λc2=>?_) (λc2=>?_)))))))
  ·refine wf c2 (wf c2 (wf c2 (wf c2 (wv (r:=rB true) (AA Aa c2 Aa) (Av ?_)))));exact CF c2
  ·refine wo c2 (vF Cm Aa Cs (wo c2 (vL 0 C7 Aa (wo c2 (CM (rs:=[rS c.fTenant]) (r:=rB (EM c.fTenant)) Tryz.call53 Aa (QZ c.fTenant) Aa Aa (wo c2 (wv (B7 Aa) (Hc Aa c2 Aa (Av ?_)))))))));exact CF c2
 refine cz h Aa (λc3 h4=>?_) (λc3 h5=>?_)
 ·refine Al (wa Aa (Au (A0 (Af ?_))));obtain rfl:=A1 h4;exact Az (BW LC (AI Aa)) (sS (sC sN)) ⟨Aa,Aa⟩
 ·refine A3 (AT (Aq (ck h5 λg6 h7=>AR [(1,rP b1 0),(30,rB ((decide (c.fAttempt<1))||((decide (1073741824<c.fAttempt))||(!(ov (BC c.fAt))))))] [.blk b1 [rS c.fEvent,rS c.fTenant,As c.fAttempt,AU 4 (Ax Ab c.fResult),rv ha,As c.fAt] 34,.row ha 65 4 (Ax Ai c.fEffects)] ?_ ?_)))
  ·refine At (vF Cm Aa C2 (vL 0 CQ Aa (wv (CZ Aa Aa) (wm Aa (AX (decide (c.fAttempt<1)) (λc8=>?_) (λc8=>?_))))))
   ·refine wf c8 (wf c8 (wf c8 (wv (r:=rB true) (AA Aa c8 Aa) (wm Aa (wz Aa Aa (wz Aa Aa (wz Aa Aa (wz Aa Aa (wv (r:=rB true) (AA (b:=true) Aa Aa Aa) (Av ?_))))))))));exact CF c8
   ·refine wo c8 (vF Cm Aa C2 (wo c8 (vL 0 CQ Aa (wo c8 (wv (D4 Aa Aa) (Hc Aa c8 Aa (wm Aa (AX (decide (1073741824<c.fAttempt)) (λc9=>?_) (λc9=>?_)))))))))
    ·refine wf c9 (wf c9 (wf c9 (wf c9 (wv (r:=rB true) (AA Aa c9 Aa) (Av ?_)))));exact CF (And.intro c8 c9)
    ·refine wo c9 (vF Cm Aa C2 (wo c9 (vL 0 CQ Aa (wo c9 (Di S6 (E8 c.fAt (ov (BC c.fAt)) (Nz (Hw (Hw g6 c8) c9))) Aa (wo c9 (wv (B7 Aa) (Hc Aa c9 Aa (Av ?_)))))))));exact CF (And.intro c8 c9)
  refine cz h7 Aa (λhi hj=>?_) (λhi hk=>?_)
  ·refine Al (wa Aa (Au (A0 (Af ?_))));obtain rfl:=A1 hj;exact Az (BW LC (AI Aa)) (sS (sC sN)) ⟨Aa,Aa⟩
  ·refine A3 (AT (Aq (Al (vF Cm Aa CD (vL 0 Es Aa (ob hk λhl hm hn=>Di TN (I2 F c.fResult hl hm) Aa (wa Aa (Bk (wm Aa (wv (Cr Aa Aa) (Au (cz hn Aa (λho hp=>?_) (λho hq=>?_)))))))))))))
   ·refine Al (wm Aa (wa Aa (Au (A0 (Af ?_)))));obtain rfl:=A1 hp;exact Az (BW LC (AI Aa)) (sS (sC sN)) ⟨Aa,Aa⟩
   ·refine A3 (AT (Aq (Al (vF Cm Aa Iw (vL 0 KL Aa (wv (BP (ys:=c.fEffects) (enc:=Ai) (i:=1) EY Aa Aa) (wv (D4 Aa Aa) (Au (cz hq Aa (λhr hs=>?_) (λhr ht=>?_))))))))))
    ·refine Al (wa Aa (Au (A0 (Af ?_))));obtain rfl:=A1 hs;exact Az (BW LC (AI Aa)) (sS (sC sN)) ⟨Aa,Aa⟩
    ·refine A3 (AT (Aq (Al (vF Cm Aa Iw (vL 0 KL Aa (wv (BP (ys:=c.fEffects) (enc:=Ai) (i:=1) EY Aa Aa) (wv (r:=As 0) (Aw Aa) (Au (AO (ob ht λhu hw hg=>B4 (S:=Nat×(Int)×(Unit)) (V:=(Unit)×(Unit)) 0 (λσ=>Cz (λσ=>HQ F c σ) σ.1 σ.2.1=some hu) (λσ=>[(1,rP b1 0),(42,rv ha),(43,As (c.fEffects.length:Int)),(44,As σ.2.1)]) (λσ=>[.blk b1 [rS c.fEvent,rS c.fTenant,As c.fAttempt,AU 4 (Ax Ab c.fResult),rv ha,As c.fAt] 34,.row ha 65 4 (Ax Ai c.fEffects)]) (λσ=>σ.1) (F,0,()) hw (AL.c Aa (AL.c Aa (AL.c Aa (AL.c Aa AL.nil)))) (sC (sC sN)) (λσ=>HP =some r) (λσ=>[]) (λσ=>[.row ha 65 4 (Ax Ai c.fEffects)]) ?_ ?_))))))))))
     ·rintro⟨hK,hb,⟨⟩⟩ hx;refine Cf (l':=[(1,rP b1 0),(42,rv ha),(43,As (c.fEffects.length:Int)),(44,As hb)]) (H':=[.blk b1 [rS c.fEvent,rS c.fTenant,As c.fAttempt,AU 4 (Ax Ab c.fResult),rv ha,As c.fAt] 34,.row ha 65 4 (Ax Ai c.fEffects)]) Aa Aa ?_;obtain⟨hy,rfl,hz,hd,hf⟩:=CO hx;replace hd:HQ F c hb=some hz:=hd;unfold HQ at hd;refine Al (wv (CZ Aa Aa) (Au (Aq (cz hd Aa (λh0 h1=>?_) (λh0 h2=>?_)))))
      ·refine A3 (AT (Aq (AO (Al (wm Aa (ck h1 λhh h3=>wv (r:=rv (DN 4 ha (Bi hb) 0)) (DC (i:=1) EY CY Aa Aa Aa (B6 hh)) (wv (r:=B9 (Ai (Ap c.fEffects hb))) (IZ (enc:=Ai) (ys:=c.fEffects) (i:=1) (j:=hb) Hf CY Aa Aa hh Aa Aa) (BR (cs:=[As 0,rS ([]:An),rv (.slice none 0 0),As 0]) KK Aa Aa (λh6=>?_)))))))));refine wa Aa (Bj (i:=0) CY Aa Aa Aa (Cj.c Aa) Aa Aa (cs':=[As ((Ap c.fEffects hb).fKind),rS ((Ap c.fEffects hb).fKey),AU 4 (Ax Ab ((Ap c.fEffects hb).fValue)),As ((Ap c.fEffects hb).fDelay)]) Aa (H':=[.blk h6 (Ai (Ap c.fEffects hb)) 65,.blk b1 [rS c.fEvent,rS c.fTenant,As c.fAttempt,AU 4 (Ax Ab c.fResult),rv ha,As c.fAt] 34,.row ha 65 4 (Ax Ai c.fEffects)]) Aa (Bk (vF Cm Aa Cs (vL 1 C7 Aa (wv (AZ (i:=0) Hf CY Aa Aa Aa Aa) (wm Aa (ob h3 λh8 h9 hA=>Di Tryz.call56 (NV F c.fEvent (Ap c.fEffects hb) hb h8 h9) Aa (wa Aa (Bk (wm Aa (wv (Cr Aa Aa) (Au (cz hA Aa (λhB hC=>?_) (λhB hD=>?_))))))))))))))
       ·refine Al (wm Aa (wa Aa (Au (A0 (AD (Af (Af (Bg ?_))))))));have hE:=BG hC hf hg;refine AD (Af ?_);obtain rfl:=A1 hE;exact Az (BW LC (AI Aa)) (sS (sS (sC sN))) ⟨Aa,Aa⟩
       ·refine A3 (AH (AT (At (ck hD λhG hH=>wv (BJ Aa Aa hG) (wm Aa (Av ?_))))));have hI:=B8 hH hf;exact A5 (AK (hy,hb+1,()) ⟨hI,Z3 _⟩ (AL.c Aa (AL.c Aa (AL.c Aa (AL.c Aa AL.nil)))) (sS (sC (sC sN))))
      ·refine BB (A9 ?_);have hJ:=Cv h2 hf hg;exact A9 (Bh (AK ((),()) hJ AL.nil (sS (sC sN))))
     ·rintro⟨⟨⟩,⟨⟩⟩ he;refine CJ (l':=[]) (H':=[.row ha 65 4 (Ax Ai c.fEffects)]) Aa Aa ?_;replace he:HP =some r:=he;unfold HP at he;refine Bf (AT (Al (wa Aa (Au (A0 ?_)))));obtain rfl:=A1 he;exact Az (BW LC (AI Aa)) (sC sN) ⟨Aa,Aa⟩
theorem QV (F:Nat)(hb:Value)(c:AP)(r:An×Int)(h:MP F c=some r):Fn Tryz.prog GE 25 [B9 [rS c.fEvent,rS c.fTenant,As c.fAttempt,AU 4 (Ax Ab c.fResult),rv hb,As c.fAt]] [.row hb 65 4 (Ax Ai c.fEffects)] (λR H=>R=Cn [rS r.1,As r.2]∧H=[.row hb 65 4 (Ax Ai c.fEffects)]):=by
 refine enter (n:=55) Tryz.func25 Aa Tryz.ntmps25 Aa (λw Z=>?_);unfold MP at h;refine Al (BX Aa Aa (λb1=>?_));refine wv (r:=rS ([]:An)) (A7 Aa) (wa Aa (Au (Aq (Al (wv (AZ (i:=0) E5 Dl Aa Aa Aa Aa) (ob h λr2 e4 h3=>CV (Hr:=[.blk b1 [rS c.fEvent,rS c.fTenant,As c.fAttempt,AU 4 (Ax Ab c.fResult),rv hb,As c.fAt] 34]) TP (KY F hb c r2 e4) Aa ((Ak (i:=1) Aa).trans (Zo _ (Zp _))) Aa ?_))))));rintro _ _ ⟨rfl,rfl⟩;refine wa Aa (Bk (wm Aa (wv (Cr Aa Aa) (Au (cz h3 Aa (λc5 h6=>?_) (λc5 h7=>?_))))))
 ·refine Al (wm Aa (wv (r:=rS ([]:An)) (A7 Aa) (wa Aa (Au (A0 (Af ?_))))));obtain rfl:=A1 h6;exact Az (Dq VL (AI Aa) (AI Aa)) (sC (sS sN)) ⟨Aa,Aa⟩
 ·refine A3 (AT (Aq (ck h7 λg8 h9=>ck h9 λhp hq=>ob hq λhe hr hs=>CL 13 [1] [⟨[],rP b1 0,none,none,none⟩,⟨[0],rS c.fEvent,none,none,none⟩,⟨[],rP b1 1,none,none,none⟩,⟨[2],rS c.fTenant,none,none,none⟩,⟨[],rP b1 2,none,none,none⟩,⟨[4],As c.fAttempt,none,none,none⟩,⟨[5],rS (Lib.itoa c.fAttempt),none,none,none⟩,⟨[],rP b1 5,none,none,none⟩,⟨[7],As c.fAt,none,none,none⟩,⟨[8],rS (Lib.itoa c.fAt),none,none,none⟩,⟨[],rP b1 3,none,none,none⟩,⟨[10],AU 4 (Ax Ab c.fResult),none,none,none⟩,⟨[11],rS he,none,none,none⟩] ?_ (λβ=>?_))))
  ·refine CN (Ay Cm Aa Cs Aa Aa) (Gi (AQ (i:=1) C7 Aa Aa Aa) (CN (Ay Cm Aa Cs Aa Aa) (Gi (AQ (i:=1) C7 Aa Aa Aa) (CN (Ay Cm Aa C2 Aa Aa) (Gi (AQ (i:=1) CQ Aa Aa Aa) (KU (DB (rs:=[As c.fAttempt]) (r:=rS (Lib.itoa c.fAttempt)) Mn Aa (DQ c.fAttempt g8) Aa) (CN (Ay Cm Aa C2 Aa Aa) (Gi (AQ (i:=1) CQ Aa Aa Aa) (KU (DB (rs:=[As c.fAt]) (r:=rS (Lib.itoa c.fAt)) Mn Aa (DQ c.fAt hp) Aa) (CN (Ay Cm Aa CD Aa Aa) (Gi (AQ (i:=1) Es Aa Aa Aa) (KU (Et Tryz.call47 (LY F c.fResult he hr) Aa) ?_))))))))))));exact OH
  refine CK (H1:=[.row hb 65 4 (Ax Ai c.fEffects),.blk b1 [rS c.fEvent,rS c.fTenant,As c.fAttempt,AU 4 (Ax Ab c.fResult),rv hb,As c.fAt] 34]) [13,14,15,16,17,18,19,20,21,22,23,24,25,1] ?_;refine Ba (ys:=([([99,111,109,109,105,116]:An),c.fEvent,c.fTenant,Lib.itoa c.fAttempt,Lib.itoa c.fAt,he]:List An)) (enc:=eS) (css:=[[rS ([99,111,109,109,105,116]:An)],[rS c.fEvent],[rS c.fTenant],[rS (Lib.itoa c.fAttempt)],[rS (Lib.itoa c.fAt)],[rS he]]) (xs:=[.const (.string ⟨#[99,111,109,109,105,116]⟩),.tmp 14,.tmp 16,.tmp 19,.tmp 22,.tmp 25]) Ct Cs R2 Aa Aa Aa ⟨DH.one Aa (Up.refl _),DH.one Aa (Up.refl _),DH.one Aa (Up.refl _),DH.one Aa (Up.refl _),DH.one Aa (Up.refl _),DH.one Aa (Up.refl _),trivial⟩ Aa Dg Aa Aa Aa (λht=>?_);refine WL.freeze (i:=0) Aa (Ba (ys:=([([([99,111,109,109,105,116]:An),c.fEvent,c.fTenant,Lib.itoa c.fAttempt,Lib.itoa c.fAt,he]:List An)]:List (List An))) (enc:=Bs) (css:=[[AU 1 (Ax eS ([([99,111,109,109,105,116]:An),c.fEvent,c.fTenant,Lib.itoa c.fAttempt,Lib.itoa c.fAt,he]:List An))]]) (xs:=[.tmp 26]) Iu Hd S2 Aa Aa Aa ⟨DH.one Aa (Up.fact (i:=0) Aa),trivial⟩ Aa D0 Aa Aa Aa (λhl=>?_));refine wa Aa (Au (Aq (Al (vF Cm Aa Iw (vL 3 KL Aa (wv (BP (ys:=c.fEffects) (enc:=Ai) (i:=2) EY Aa Aa) (wv (r:=As 0) (Aw Aa) (Au (AO (G5 (H2:=[.row hb 65 4 (Ax Ai c.fEffects),.row (.slice (some ⟨hl,0,none⟩) 1 1) 42 1 (Ax Bs ([([([99,111,109,109,105,116]:An),c.fEvent,c.fTenant,Lib.itoa c.fAttempt,Lib.itoa c.fAt,he]:List An)]:List (List An))),.fact (.slice (some ⟨ht,0,none⟩) 6 6) (AU 1 (Ax eS ([([99,111,109,109,105,116]:An),c.fEvent,c.fTenant,Lib.itoa c.fAttempt,Lib.itoa c.fAt,he]:List An))),.blk b1 [rS c.fEvent,rS c.fTenant,As c.fAttempt,AU 4 (Ax Ab c.fResult),rv hb,As c.fAt] 34]) ((Ak (i:=2) Aa).trans (Zo _ (Zp _))) (ob hs λhu hw hx=>B4 (S:=Nat×((List (List An))×Int)×(Value)) (V:=((List (List An)))×(Value)) 0 (λσ=>Cz (λσ=>GF F c σ.1 σ.2) σ.1 σ.2.1=some hu) (λσ=>[(5,rv σ.2.2),(29,rv hb),(30,As (c.fEffects.length:Int)),(31,As σ.2.1.2)]) (λσ=>[.row hb 65 4 (Ax Ai c.fEffects),.row σ.2.2 42 1 (Ax Bs σ.2.1.1)]) (λσ=>σ.1) (F,(([([([99,111,109,109,105,116]:An),c.fEvent,c.fTenant,Lib.itoa c.fAttempt,Lib.itoa c.fAt,he]:List An)]:List (List An)),0),(.slice (some ⟨hl,0,none⟩) 1 1)) hw (AL.c Aa (AL.c Aa (AL.c Aa (AL.c Aa AL.nil)))) (sC (sC (sS (sS sN)))) (λσ=>GD F σ.1=some r) (λσ=>[(5,rv σ.2)]) (λσ=>[.row hb 65 4 (Ax Ai c.fEffects),.row σ.2 42 1 (Ax Bs σ.1)]) ?_ ?_)))))))))))
  ·rintro⟨hP,⟨hf,ha⟩,hh⟩ hy;refine Cf (l':=[(5,rv hh),(29,rv hb),(30,As (c.fEffects.length:Int)),(31,As ha)]) (H':=[.row hb 65 4 (Ax Ai c.fEffects),.row hh 42 1 (Ax Bs hf)]) Aa Aa ?_;obtain⟨hz,rfl,t80,hi,hm⟩:=CO hy;replace hi:GF F c hf ha=some t80:=hi;unfold GF at hi;refine Al (wv (CZ Aa Aa) (Au (Aq (cz hi Aa (λh0 h1=>?_) (λh0 h2=>?_)))))
   ·refine A3 (AT (Aq (AO (Al (ck h1 λhn h4=>wv (r:=rv (DN 4 hb (Bi ha) 0)) (DC (i:=0) EY CY Aa Aa Aa (B6 hn)) (wv (r:=B9 (Ai (Ap c.fEffects ha))) (IZ (enc:=Ai) (ys:=c.fEffects) (i:=0) (j:=ha) Hf CY Aa Aa hn Aa Aa) (BR (cs:=[As 0,rS ([]:An),rv (.slice none 0 0),As 0]) KK Aa Aa (λhg=>?_))))))));refine Bj (i:=0) CY Aa Aa Aa (Cj.c Aa) Aa Aa (cs':=[As ((Ap c.fEffects ha).fKind),rS ((Ap c.fEffects ha).fKey),AU 4 (Ax Ab ((Ap c.fEffects ha).fValue)),As ((Ap c.fEffects ha).fDelay)]) Aa (H':=[.blk hg (Ai (Ap c.fEffects ha)) 65,.row hb 65 4 (Ax Ai c.fEffects),.row hh 42 1 (Ax Bs hf)]) Aa (Au (ck h4 λh5 h8=>ck h8 λhA hB=>ob hB λhd hC hD=>CL 14 [5,7,29,30,31] [⟨[],rv hh,none,none,none⟩,⟨[],rP hg 0,none,none,none⟩,⟨[1],As ((Ap c.fEffects ha).fKind),none,none,none⟩,⟨[2],rS (Lib.itoa ((Ap c.fEffects ha).fKind)),none,none,none⟩,⟨[],rP hg 1,none,none,none⟩,⟨[4],rS ((Ap c.fEffects ha).fKey),none,none,none⟩,⟨[],rP hg 3,none,none,none⟩,⟨[6],As ((Ap c.fEffects ha).fDelay),none,none,none⟩,⟨[7],rS (Lib.itoa ((Ap c.fEffects ha).fDelay)),none,none,none⟩,⟨[],rP hg 2,none,none,none⟩,⟨[9],AU 4 (Ax Ab ((Ap c.fEffects ha).fValue)),none,none,none⟩,⟨[10],rS hd,none,none,none⟩,⟨[3,5,8,11],AU 1 (Ax eS ([Lib.itoa ((Ap c.fEffects ha).fKind),(Ap c.fEffects ha).fKey,Lib.itoa ((Ap c.fEffects ha).fDelay),hd]:List An)),none,none,none⟩,⟨[12],AU 1 (Ax Bs ([([Lib.itoa ((Ap c.fEffects ha).fKind),(Ap c.fEffects ha).fKey,Lib.itoa ((Ap c.fEffects ha).fDelay),hd]:List An)]:List (List An))),none,none,none⟩] ?_ (λβ=>?_)))
    ·refine CN (Aw Aa) (CN (Ay CI Aa Iv Aa Aa) (Gi (AQ (i:=0) Ix Aa Aa Aa) (KU (DB (rs:=[As ((Ap c.fEffects ha).fKind)]) (r:=rS (Lib.itoa ((Ap c.fEffects ha).fKind))) Mn Aa (DQ ((Ap c.fEffects ha).fKind) h5) Aa) (CN (Ay CI Aa Cs Aa Aa) (Gi (AQ (i:=0) C7 Aa Aa Aa) (CN (Ay CI Aa C2 Aa Aa) (Gi (AQ (i:=0) CQ Aa Aa Aa) (KU (DB (rs:=[As ((Ap c.fEffects ha).fDelay)]) (r:=rS (Lib.itoa ((Ap c.fEffects ha).fDelay))) Mn Aa (DQ ((Ap c.fEffects ha).fDelay) hA) Aa) (CN (Ay CI Aa CD Aa Aa) (Gi (AQ (i:=0) Es Aa Aa Aa) (KU (Et Tryz.call47 (LY F ((Ap c.fEffects ha).fValue) hd hC) Aa) (KU (Cq (ys:=([Lib.itoa ((Ap c.fEffects ha).fKind),(Ap c.fEffects ha).fKey,Lib.itoa ((Ap c.fEffects ha).fDelay),hd]:List An)) (enc:=eS) (css:=[[rS (Lib.itoa ((Ap c.fEffects ha).fKind))],[rS ((Ap c.fEffects ha).fKey)],[rS (Lib.itoa ((Ap c.fEffects ha).fDelay))],[rS hd]]) (xs:=[.tmp 38,.tmp 40,.tmp 43,.tmp 46]) Ct Cs R2 Aa Aa Aa ⟨DH.one Aa (Up.refl _),DH.one Aa (Up.refl _),DH.one Aa (Up.refl _),DH.one Aa (Up.refl _),trivial⟩ Aa Dg Aa Aa) (KU (Cq (ys:=([([Lib.itoa ((Ap c.fEffects ha).fKind),(Ap c.fEffects ha).fKey,Lib.itoa ((Ap c.fEffects ha).fDelay),hd]:List An)]:List (List An))) (enc:=Bs) (css:=[[AU 1 (Ax eS ([Lib.itoa ((Ap c.fEffects ha).fKind),(Ap c.fEffects ha).fKey,Lib.itoa ((Ap c.fEffects ha).fDelay),hd]:List An))]]) (xs:=[.tmp 47]) Iu Hd S2 Aa Aa Aa ⟨DH.one Aa (Up.refl _),trivial⟩ Aa D0 Aa Aa) ?_)))))))))))));exact OH
    refine CK (H1:=[.blk hg (Ai (Ap c.fEffects ha)) 65,.row hb 65 4 (Ax Ai c.fEffects),.row hh 42 1 (Ax Bs hf)]) [35,36,37,38,39,40,41,42,43,44,45,46,47,48,5,7,29,30,31] ?_;refine ck hD λhE hG=>Exists.elim Rh λinf hinf=>BQ (xs:=hf) (ys:=([([Lib.itoa ((Ap c.fEffects ha).fKind),(Ap c.fEffects ha).fKey,Lib.itoa ((Ap c.fEffects ha).fDelay),hd]:List An)]:List (List An))) (enc:=Bs) (i:=2) Iu hinf.1 hinf.2.1 hinf.2.2.1 hinf.2.2.2 Aa Aa Aa Aa Aa (HY.z Aa Aa) D0 JT hE Aa (λho=>?_);refine wa Aa (Av (AH (AT (At (ck hG λhH hI=>wv (BJ Aa Aa hH) (wm Aa (Av (BF (H2:=[.row hb 65 4 (Ax Ai c.fEffects),.row ho 42 1 (Ax Bs (hf++([([Lib.itoa ((Ap c.fEffects ha).fKind),(Ap c.fEffects ha).fKey,Lib.itoa ((Ap c.fEffects ha).fDelay),hd]:List An)]:List (List An)))),.blk hg (Ai (Ap c.fEffects ha)) 65]) ((Ak (i:=2) Aa).trans (Zo _ (Zp _))) ?_))))))));have hJ:=B8 hI hm;exact A5 (AK (hz,(hf++([([Lib.itoa ((Ap c.fEffects ha).fKind),(Ap c.fEffects ha).fKey,Lib.itoa ((Ap c.fEffects ha).fDelay),hd]:List An)]:List (List An)),ha+1),ho) ⟨hJ,Z3 _⟩ (AL.c Aa (AL.c Aa (AL.c Aa (AL.c Aa AL.nil)))) (sC (sC (sS sN))))
   ·refine BB (A9 ?_);have hK:=Cv h2 hm hx;exact A9 (Bh (AK (hf,hh) hK (AL.c Aa AL.nil) (sC (sC sN))))
  ·rintro⟨hj,v76⟩ hk;refine CJ (l':=[(5,rv v76)]) (H':=[.row hb 65 4 (Ax Ai c.fEffects),.row v76 42 1 (Ax Bs hj)]) Aa Aa ?_;replace hk:GD F hj=some r:=hk;unfold GD at hk;refine Bf (AT (Al (wm Aa (WL.freeze (i:=1) Aa (WL.up (d:=51) (r:=AU 1 (Ax Bs hj)) Aa (Up.fact (i:=0) Aa) (ob hk λhL hN hO=>Di Tryz.call48 (OP F hj hL hN) Aa (wv (A4 Aa Aa) (wv (A4 Aa Aa) (wa Aa (wa Aa (Au (A0 ?_))))))))))));obtain rfl:=A1 hO;exact Az (Dq VL (AI Aa) (AI Aa)) (sS (sC sN)) ⟨Aa,Aa⟩
theorem Tc (F:Nat)(hd:Nat)(he:Value)(keys:(List (An×Ah)))(l:(List Am))(r:Int×(List (An×Ah)))(h:OW F keys l=some r):Fn Tryz.prog GE 65 [rv (.map (some hd)),rv he] [.map hd (A8 Ao keys),.row he 65 4 (Ax Ai l)] (λR H=>R=As r.1∧H=[.map hd (A8 Ao r.2),.row he 65 4 (Ax Ai l)]):=by
 refine enter (n:=39) Tryz.func65 Aa Tryz.ntmps65 Aa (λw Z=>?_);unfold OW at h;refine Al (wa Aa (Au (Aq (Al (wm Aa (wv (BP (ys:=l) (enc:=Ai) (i:=1) EY Aa Aa) (wv (r:=As 0) (Aw Aa) (Au (AO (ob h λhq hr hn=>B4 (S:=Nat×(Int×(List (An×Ah)))×(Unit)) (V:=((List (An×Ah)))×(Unit)) 0 (λσ=>Cz (λσ=>HS l σ.1 σ.2) σ.1 σ.2.1=some hq) (λσ=>[(0,rv (.map (some hd))),(7,rv he),(8,As (l.length:Int)),(9,As σ.2.1.1)]) (λσ=>[.map hd (A8 Ao σ.2.1.2),.row he 65 4 (Ax Ai l)]) (λσ=>σ.1) (F,(0,keys),()) hr (AL.c Aa (AL.c Aa (AL.c Aa (AL.c Aa AL.nil)))) (sC (sC sN)) (λσ=>HR σ.1=some r) (λσ=>[]) (λσ=>[.map hd (A8 Ao σ.1),.row he 65 4 (Ax Ai l)]) ?_ ?_))))))))))
 ·rintro⟨hH,⟨ha,hb⟩,⟨⟩⟩ hs;refine Cf (l':=[(0,rv (.map (some hd))),(7,rv he),(8,As (l.length:Int)),(9,As ha)]) (H':=[.map hd (A8 Ao hb),.row he 65 4 (Ax Ai l)]) Aa Aa ?_;obtain⟨ht,rfl,hk,hh,hl⟩:=CO hs;replace hh:HS l ha hb=some hk:=hh;unfold HS at hh;refine Al (wv (CZ Aa Aa) (Au (Aq (cz hh Aa (λhu hw=>?_) (λhu hx=>?_)))))
  ·refine A3 (AT (C8 (S:=((List (An×Ah)))×(Unit)) (λσ=>EB ha σ.1=some hk) (λσ=>[(0,rv (.map (some hd))),(7,rv he),(8,As (l.length:Int)),(9,As ha)]) (λσ=>[.map hd (A8 Ao σ.1),.row he 65 4 (Ax Ai l)]) ?_ ?_))
   ·refine AO (Al (ck hw λho hy=>wv (r:=rv (DN 4 he (Bi ha) 0)) (DC (i:=1) EY CY Aa Aa Aa (B6 ho)) (wv (r:=B9 (Ai (Ap l ha))) (IZ (enc:=Ai) (ys:=l) (i:=1) (j:=ha) Hf CY Aa Aa ho Aa Aa) (BR (cs:=[As 0,rS ([]:An),rv (.slice none 0 0),As 0]) KK Aa Aa (λhg=>?_)))));refine Bj (i:=0) CY Aa Aa Aa (Cj.c Aa) Aa Aa (cs':=[As ((Ap l ha).fKind),rS ((Ap l ha).fKey),AU 4 (Ax Ab ((Ap l ha).fValue)),As ((Ap l ha).fDelay)]) Aa (H':=[.blk hg (Ai (Ap l ha)) 65,.map hd (A8 Ao hb),.row he 65 4 (Ax Ai l)]) Aa (Bk (vF CI Aa Iv (vL 0 Ix Aa (Au (AO (Al (wv (BN Aa Aa) (wa Aa (Au (cz hy Aa (λhz h0=>?_) (λhz h1=>?_)))))))))))
    ·refine Aq (ob h0 λhf h2 h3=>ck h3 λh4 h5=>CL 13 [0,6,7,8,9] [⟨[],rv (.map (some hd)),none,none,none⟩,⟨[],rP hg 1,none,none,none⟩,⟨[1],rS ((Ap l ha).fKey),none,none,none⟩,⟨[],rP hg 2,none,none,none⟩,⟨[3],AU 4 (Ax Ab ((Ap l ha).fValue)),none,none,none⟩,⟨[4],AU 4 (Ax Ab hf),none,none,none⟩,⟨[],rv (.map (some hd)),none,none,none⟩,⟨[],rP hg 1,none,none,none⟩,⟨[7],rS ((Ap l ha).fKey),none,none,none⟩,⟨[6,8],B9 (BM (B3 hb ((Ap l ha).fKey) (Ah.mk ([]:(List Ac)) 0))),none,none,none⟩,⟨[9],As ((B3 hb ((Ap l ha).fKey) (Ah.mk ([]:(List Ac)) 0)).fVersion),none,none,none⟩,⟨[10],As (((B3 hb ((Ap l ha).fKey) (Ah.mk ([]:(List Ac)) 0)).fVersion)+1),none,none,none⟩,⟨[5,11],B9 [AU 4 (Ax Ab hf),As (((B3 hb ((Ap l ha).fKey) (Ah.mk ([]:(List Ac)) 0)).fVersion)+1)],none,none,none⟩] ?_ (λβ=>?_))
     ·refine CN (Aw Aa) (CN (Ay CI Aa Cs Aa Aa) (Gi (AQ (i:=0) C7 Aa Aa Aa) (CN (Ay CI Aa CD Aa Aa) (Gi (AQ (i:=0) Es Aa Aa Aa) (KU (Et Q9 (G1 ((Ap l ha).fValue) hf h2) Aa) (CN (Aw Aa) (CN (Ay CI Aa Cs Aa Aa) (Gi (AQ (i:=0) C7 Aa Aa Aa) (Gi (KV (enc:=Ao) (xs:=hb) (z:=Ah.mk ([]:(List Ac)) 0) (i:=1) JZ C4 Sz Ev Aa Aa Aa) (CN (RT VI Aa CQ Aa Aa) (CN (BJ Aa Aa h4) (CN (J4 Aa Aa Aa Aa) ?_))))))))))));exact OH
     refine CK (H1:=[.blk hg (Ai (Ap l ha)) 65,.map hd (A8 Ao hb),.row he 65 4 (Ax Ai l)]) [17,18,19,20,21,22,23,24,25,26,27,28,29,0,6,7,8,9] ?_;refine G6 (enc:=Ao) (xs:=hb) (v:=(Ah.mk hf (((B3 hb ((Ap l ha).fKey) (Ah.mk ([]:(List Ac)) 0)).fVersion)+1))) (i:=1) JZ C4 Aa Aa Aa Aa (H':=[.blk hg (Ai (Ap l ha)) 65,.map hd (A8 Ao (mset hb ((Ap l ha).fKey) (Ah.mk hf (((B3 hb ((Ap l ha).fKey) (Ah.mk ([]:(List Ac)) 0)).fVersion)+1)))),.row he 65 4 (Ax Ai l)]) Aa (Bk (wm Aa (wv (r:=As ((mset hb ((Ap l ha).fKey) (Ah.mk hf (((B3 hb ((Ap l ha).fKey) (Ah.mk ([]:(List Ac)) 0)).fVersion)+1))).length:Int)) (U8 (N:=(mset hb ((Ap l ha).fKey) (Ah.mk hf (((B3 hb ((Ap l ha).fKey) (Ah.mk ([]:(List Ac)) 0)).fVersion)+1))).length) (i:=1) JZ Aa Aa (EN _ _)) (wv (D4 Aa Aa) (Au (cz h5 Aa (λh6 h7=>?_) (λh6 h8=>?_)))))))
     ·refine Al (wa Aa (Au (A0 (AD (AD (Af (Af (Bg ?_))))))));have h9:=BG h7 hl hn;refine AD (Af ?_);obtain rfl:=A1 h9;exact Az (BW VJ (AI Aa)) (sS (sC (sC sN))) ⟨Aa,Aa⟩
     ·exact A3 (AH (AH (A5 (AK (mset hb ((Ap l ha).fKey) (Ah.mk hf (((B3 hb ((Ap l ha).fKey) (Ah.mk ([]:(List Ac)) 0)).fVersion)+1)),()) h8 (AL.c Aa (AL.c Aa (AL.c Aa (AL.c Aa AL.nil)))) (sS (sC (sC sN)))))))
    ·refine Al (wv (BN Aa Aa) (wa Aa (Au (cz h1 Aa (λc171 hA=>?_) (λc171 hB=>?_)))))
     ·exact At (wm Aa (vF CI Aa Cs (vL 0 C7 Aa (RC (enc:=Ao) (xs:=hb) (i:=1) JZ C4 Aa Aa Aa (H':=[.blk hg (Ai (Ap l ha)) 65,.map hd (A8 Ao (mdel hb ((Ap l ha).fKey))),.row he 65 4 (Ax Ai l)]) Aa (Av (AH (AH (A5 (AK (mdel hb ((Ap l ha).fKey),()) hA (AL.c Aa (AL.c Aa (AL.c Aa (AL.c Aa AL.nil)))) (sS (sC (sC sN))))))))))))
     ·exact A3 (AH (AH (A5 (AK (hb,()) hB (AL.c Aa (AL.c Aa (AL.c Aa (AL.c Aa AL.nil)))) (sS (sC (sC sN)))))))
   ·rintro⟨hm,⟨⟩⟩ hi;refine Cf (l':=[(0,rv (.map (some hd))),(7,rv he),(8,As (l.length:Int)),(9,As ha)]) (H':=[.map hd (A8 Ao hm),.row he 65 4 (Ax Ai l)]) Aa Aa ?_;replace hi:EB ha hm=some hk:=hi;unfold EB at hi;refine At (ck hi λhC hD=>wv (BJ Aa Aa hC) (wm Aa (Av ?_)));have hE:=B8 hD hl;exact A5 (AK (ht,(ha+1,hm),()) ⟨hE,Z3 _⟩ (AL.c Aa (AL.c Aa (AL.c Aa (AL.c Aa AL.nil)))) (sC (sC sN)))
  ·refine BB (A9 ?_);have hG:=Cv hx hl hn;exact A9 (Bh (AK (hb,()) hG AL.nil (sC (sC sN))))
 ·rintro⟨hp,⟨⟩⟩ hj;refine CJ (l':=[]) (H':=[.map hd (A8 Ao hp),.row he 65 4 (Ax Ai l)]) Aa Aa ?_;replace hj:HR hp=some r:=hj;unfold HR at hj;refine Bf (AT (Al (wa Aa (Au (A0 ?_)))));obtain rfl:=A1 hj;exact Az (BW VJ (AI Aa)) (sC (sC sN)) ⟨Aa,Aa⟩
theorem MQ (F:Nat)(he:Nat)(hg:Value)(ha:Nat)(hb:Nat)(hf:Value)(hd:Value)(o:AG)(c:AP)(r:Bool×Int×AG)(h:K1 F o c=some r):Fn Tryz.prog GE 35 [rP he 0,B9 [rS c.fEvent,rS c.fTenant,As c.fAttempt,AU 4 (Ax Ab c.fResult),rv hd,As c.fAt]] [.blk he [rB o.fMade,rv hg,rv (.map (some ha)),rv (.map (some hb)),rv hf] 59,.row hg 9 1 (Ax eS o.fEvents),.map ha (A8 Aj o.fResults),.map hb (A8 Ad o.fKeys),.row hf 67 8 (Ax Ae o.fPending),.row hd 65 4 (Ax Ai c.fEffects)] (λR H=>∃w0_1:Value,∃w0_4:Value,R=Cn [rB r.1,As r.2.1]∧H=[.blk he [rB r.2.2.fMade,rv w0_1,rv (.map (some ha)),rv (.map (some hb)),rv w0_4] 59,.row w0_1 9 1 (Ax eS r.2.2.fEvents),.map ha (A8 Aj r.2.2.fResults),.map hb (A8 Ad r.2.2.fKeys),.row w0_4 67 8 (Ax Ae r.2.2.fPending),.row hd 65 4 (Ax Ai c.fEffects)]):=by
 refine enter (n:=131) TR Aa TL Aa (λw Z=>?_);unfold K1 at h;refine Al (BX Aa Aa (λb1=>?_));refine wa Aa (wa Aa (Au (Aq (Al (wm Aa (ob h λr2 e4 h3=>CV (Hr:=[.blk b1 [rS c.fEvent,rS c.fTenant,As c.fAttempt,AU 4 (Ax Ab c.fResult),rv hd,As c.fAt] 34,.row hg 9 1 (Ax eS o.fEvents),.map ha (A8 Aj o.fResults),.map hb (A8 Ad o.fKeys),.row hf 67 8 (Ax Ae o.fPending),.row hd 65 4 (Ax Ai c.fEffects)]) Gn (EJ he hg ha hb hf o r2 e4) Aa ((Ak (i:=1) Aa).trans (Zo _ (Zp _))) Aa ?_))))));rintro _ _ ⟨rfl,rfl⟩;refine wv (B7 Aa) (Au (cz h3 Aa (λc5 h6=>?_) (λc5 h7=>?_)))
 ·refine Al (wa Aa (wa Aa (Au (A0 (Af ?_)))));obtain rfl:=A1 h6;exact Az (Dq JE (AI Aa) (AI Aa)) (sC (sS (sC (sC (sC (sC (sC sN))))))) ⟨hg,hf,Aa,Aa⟩
 ·refine A3 (AT (Aq (Al (wv (AZ (i:=1) E5 Dl Aa Aa Aa Aa) (ob h7 λr8 hK h9=>CV (Hr:=[.blk he [rB o.fMade,rv hg,rv (.map (some ha)),rv (.map (some hb)),rv hf] 59,.blk b1 [rS c.fEvent,rS c.fTenant,As c.fAttempt,AU 4 (Ax Ab c.fResult),rv hd,As c.fAt] 34,.row hg 9 1 (Ax eS o.fEvents),.map ha (A8 Aj o.fResults),.map hb (A8 Ad o.fKeys),.row hf 67 8 (Ax Ae o.fPending)]) TP (KY F hd c r8 hK) Aa ((Ak (i:=6) Aa).trans (Zo _ (Zp _))) Aa ?_)))));rintro _ _ ⟨rfl,rfl⟩;refine wa Aa (Bk (wm Aa (wv (Cr Aa Aa) (Au (cz h9 Aa (λhL hN=>?_) (λhL hO=>?_))))))
  ·refine Al (wm Aa (wa Aa (wa Aa (Au (A0 (Af (BF (H2:=[.blk he [rB o.fMade,rv hg,rv (.map (some ha)),rv (.map (some hb)),rv hf] 59,.row hg 9 1 (Ax eS o.fEvents),.map ha (A8 Aj o.fResults),.map hb (A8 Ad o.fKeys),.row hf 67 8 (Ax Ae o.fPending),.row hd 65 4 (Ax Ai c.fEffects),.blk b1 [rS c.fEvent,rS c.fTenant,As c.fAttempt,AU 4 (Ax Ab c.fResult),rv hd,As c.fAt] 34]) ((Ak (i:=1) Aa).trans (Zo _ ((Ak (i:=2) Aa).trans (Zo _ ((Ak (i:=2) Aa).trans (Zo _ ((Ak (i:=2) Aa).trans (Zo _ ((Ak (i:=2) Aa).trans (Zo _ (Zp _))))))))))) ?_)))))));obtain rfl:=A1 hN;exact Az (Dq JE (AI Aa) (AI Aa)) (sC (sC (sC (sC (sC (sC (sS sN))))))) ⟨hg,hf,Aa,Aa⟩
  ·refine A3 (AT (Aq (Aq (Dm [0,3] [⟨[],rP he 0,0⟩,⟨[0],rP he 0,0⟩,⟨[1],rP he 2,0⟩,⟨[2],rv (.map (some ha)),1⟩,⟨[],rP b1 0,0⟩,⟨[4],rS c.fEvent,1⟩,⟨[3,5],Cn [AU 4 (Ax Ab (B3 o.fResults c.fEvent ([]:(List Ac)))),rB (E3 o.fResults c.fEvent)],1⟩,⟨[6],Cn [AU 4 (Ax Ab (B3 o.fResults c.fEvent ([]:(List Ac)))),rB (E3 o.fResults c.fEvent)],0⟩,⟨[7],AU 4 (Ax Ab (B3 o.fResults c.fEvent ([]:(List Ac)))),0⟩,⟨[7],rB (E3 o.fResults c.fEvent),0⟩,⟨[8],AU 4 (Ax Ab (B3 o.fResults c.fEvent ([]:(List Ac)))),0⟩,⟨[9],rB (E3 o.fResults c.fEvent),0⟩] [8,0,3] ?_ ?_))))
   ·refine oq (Aw Aa) (oq (A2 Aa) (oq (Ay E2 Aa TH Aa Aa) (of (AQ (i:=1) TS Aa Aa Aa) (oq (Ay Cm Aa Cs Aa Aa) (of (AQ (i:=2) C7 Aa Aa Aa) (of (OJ (enc:=Aj) (xs:=o.fResults) (z:=([]:(List Ac))) (i:=4) TF C4 Xh EC Aa Aa Aa) (oq (Aw Aa) (oq (A4 Aa Aa) (oq (A4 Aa Aa) (oq (A7 Aa) (oq (A7 Aa) ?_)))))))))));exact C9
   refine AT (Al (wm Aa (Au (cz hO Aa (λhP hQ=>?_) (λhP hR=>?_)))))
   ·refine Al (wa Aa (wa Aa (Au (A0 (Af (BF (H2:=[.blk he [rB o.fMade,rv hg,rv (.map (some ha)),rv (.map (some hb)),rv hf] 59,.row hg 9 1 (Ax eS o.fEvents),.map ha (A8 Aj o.fResults),.map hb (A8 Ad o.fKeys),.row hf 67 8 (Ax Ae o.fPending),.row hd 65 4 (Ax Ai c.fEffects),.blk b1 [rS c.fEvent,rS c.fTenant,As c.fAttempt,AU 4 (Ax Ab c.fResult),rv hd,As c.fAt] 34]) ((Ak (i:=1) Aa).trans (Zo _ ((Ak (i:=2) Aa).trans (Zo _ ((Ak (i:=2) Aa).trans (Zo _ ((Ak (i:=2) Aa).trans (Zo _ ((Ak (i:=2) Aa).trans (Zo _ (Zp _))))))))))) ?_))))));obtain rfl:=A1 hQ;exact Az (Dq JE (AI Aa) (AI Aa)) (sC (sC (sC (sC (sC (sC (sS sN))))))) ⟨hg,hf,Aa,Aa⟩
   ·refine A3 (AT (Aq (Al (wm Aa (wv (A2 Aa) (vF E2 Aa Hd (vL 1 LE Aa (wv (BP (ys:=o.fEvents) (enc:=eS) (i:=3) Ct Aa Aa) (wv (Iq Aa Aa) (Au (cz hR Aa (λhS hT=>?_) (λhS hU=>?_))))))))))))
    ·refine Al (wa Aa (wa Aa (Au (A0 (Af (BF (H2:=[.blk he [rB o.fMade,rv hg,rv (.map (some ha)),rv (.map (some hb)),rv hf] 59,.row hg 9 1 (Ax eS o.fEvents),.map ha (A8 Aj o.fResults),.map hb (A8 Ad o.fKeys),.row hf 67 8 (Ax Ae o.fPending),.row hd 65 4 (Ax Ai c.fEffects),.blk b1 [rS c.fEvent,rS c.fTenant,As c.fAttempt,AU 4 (Ax Ab c.fResult),rv hd,As c.fAt] 34]) ((Ak (i:=1) Aa).trans (Zo _ ((Ak (i:=2) Aa).trans (Zo _ ((Ak (i:=2) Aa).trans (Zo _ ((Ak (i:=2) Aa).trans (Zo _ ((Ak (i:=2) Aa).trans (Zo _ (Zp _))))))))))) ?_))))));obtain rfl:=A1 hT;exact Az (Dq JE (AI Aa) (AI Aa)) (sC (sC (sC (sC (sC (sC (sS sN))))))) ⟨hg,hf,Aa,Aa⟩
    ·refine A3 (AT (Al (IU Aa (λhk=>?_))));refine wa Aa (Au (Aq (Aq (CL 7 [0,3,9] [⟨[],rP he 0,none,none,none⟩,⟨[0],rP he 0,none,none,none⟩,⟨[1],rP he 3,none,none,none⟩,⟨[2],rv (.map (some hb)),none,none,none⟩,⟨[],rP b1 1,none,none,none⟩,⟨[4],rS c.fTenant,none,none,none⟩,⟨[3,5],KI (A8 Ao (B3 o.fKeys c.fTenant ([]:(List (An×Ah))))),none,none,none⟩] ?_ (λβ=>?_)))))
     ·refine CN (Aw Aa) (CN (A2 Aa) (CN (Ay E2 Aa S4 Aa Aa) (Gi (AQ (i:=2) S9 Aa Aa Aa) (CN (Ay Cm Aa Cs Aa Aa) (Gi (AQ (i:=3) C7 Aa Aa Aa) (Gi (KV (enc:=Ad) (xs:=o.fKeys) (z:=([]:(List (An×Ah)))) (i:=6) S3 C4 VG CA Aa Aa Aa) ?_))))));exact OH
     refine CK (H1:=[.map hk (A8 Ao ([]:List (An×Ah))),.row hd 65 4 (Ax Ai c.fEffects),.blk he [rB o.fMade,rv hg,rv (.map (some ha)),rv (.map (some hb)),rv hf] 59,.blk b1 [rS c.fEvent,rS c.fTenant,As c.fAttempt,AU 4 (Ax Ab c.fResult),rv hd,As c.fAt] 34,.row hg 9 1 (Ax eS o.fEvents),.map ha (A8 Aj o.fResults),.map hb (A8 Ad o.fKeys),.row hf 67 8 (Ax Ae o.fPending)]) [43,44,45,46,47,48,49,0,3,9] ?_;refine Mu JZ Aa Aa (λhs=>?_);refine Au (AO ?_);have hV:=Ra hU;refine B4 (S:=(List (An×Ah))×((List (An×Ah)))×(Unit)) (V:=((List (An×Ah)))×(Unit)) 0 (λσ=>∀qo:List (An×Ah),qo.Perm σ.1→Bq (Rc (λpe τ=>GJ pe.1 pe.2 τ) qo σ.2.1) (Ch λν=>Ek F o c ν)=some r) (λσ=>[(0,rP he 0),(3,rP b1 0),(9,rv (.map (some hk))),(50,rP hs 0)]) (λσ=>[.itz hs (A8 Ao (B3 o.fKeys c.fTenant ([]:(List (An×Ah))))) (A8 Ao σ.1) none,.map hk (A8 Ao σ.2.1),.row hd 65 4 (Ax Ai c.fEffects),.blk he [rB o.fMade,rv hg,rv (.map (some ha)),rv (.map (some hb)),rv hf] 59,.blk b1 [rS c.fEvent,rS c.fTenant,As c.fAttempt,AU 4 (Ax Ab c.fResult),rv hd,As c.fAt] 34,.row hg 9 1 (Ax eS o.fEvents),.map ha (A8 Aj o.fResults),.map hb (A8 Ad o.fKeys),.row hf 67 8 (Ax Ae o.fPending)]) (λσ=>σ.1.length) (B3 o.fKeys c.fTenant ([]:(List (An×Ah))),([]:List (An×Ah)),()) hV (AL.c Aa (AL.c Aa (AL.c Aa (AL.c Aa AL.nil)))) (sC (sC (sC (sC (sC (sC (sC (sC (sC sN))))))))) (λσ=>Ek F o c σ.1=some r) (λσ=>[(0,rP he 0),(3,rP b1 0),(9,rv (.map (some hk)))]) (λσ=>[.map hk (A8 Ao σ.1),.row hd 65 4 (Ax Ai c.fEffects),.blk he [rB o.fMade,rv hg,rv (.map (some ha)),rv (.map (some hb)),rv hf] 59,.blk b1 [rS c.fEvent,rS c.fTenant,As c.fAttempt,AU 4 (Ax Ab c.fResult),rv hd,As c.fAt] 34,.row hg 9 1 (Ax eS o.fEvents),.map ha (A8 Aj o.fResults),.map hb (A8 Ad o.fKeys),.row hf 67 8 (Ax Ae o.fPending)]) ?_ ?_
     ·rintro⟨hD,hq,⟨⟩⟩ hE;refine Cf (l':=[(0,rP he 0),(3,rP b1 0),(9,rv (.map (some hk))),(50,rP hs 0)]) (H':=[.itz hs (A8 Ao (B3 o.fKeys c.fTenant ([]:(List (An×Ah))))) (A8 Ao hD) none,.map hk (A8 Ao hq),.row hd 65 4 (Ax Ai c.fEffects),.blk he [rB o.fMade,rv hg,rv (.map (some ha)),rv (.map (some hb)),rv hf] 59,.blk b1 [rS c.fEvent,rS c.fTenant,As c.fAttempt,AU 4 (Ax Ab c.fResult),rv hd,As c.fAt] 34,.row hg 9 1 (Ax eS o.fEvents),.map ha (A8 Aj o.fResults),.map hb (A8 Ad o.fKeys),.row hf 67 8 (Ax Ae o.fPending)]) Aa Aa (Al (Oy (enc:=Ao) (ys:=hD) (i:=0) Aa Aa Aa (λhy=>?_) (λp hx hG=>?_)))
      ·have hW:Ek F o c hq=some r:=OX hE hy;exact wv (A4 Aa Aa) (Au (Aq (Db Aa Aa (BB (A9 (A9 (Bh (AK (hq,()) hW (AL.c Aa (AL.c Aa (AL.c Aa AL.nil))) (sS (sC (sC (sC (sC (sC (sC (sC (sC sN)))))))))))))))))
      ·obtain⟨ht,ho⟩:=p;obtain⟨hX,hz,hY⟩:=UX hE hG;replace hz:GJ ht ho hq=some hX:=hz;unfold GJ at hz;refine QD (H':=[.itz hs (A8 Ao (B3 o.fKeys c.fTenant ([]:(List (An×Ah))))) (A8 Ao hx) (some (ht,Ao ho)),.map hk (A8 Ao hq),.row hd 65 4 (Ax Ai c.fEffects),.blk he [rB o.fMade,rv hg,rv (.map (some ha)),rv (.map (some hb)),rv hf] 59,.blk b1 [rS c.fEvent,rS c.fTenant,As c.fAttempt,AU 4 (Ax Ab c.fResult),rv hd,As c.fAt] 34,.row hg 9 1 (Ax eS o.fEvents),.map ha (A8 Aj o.fResults),.map hb (A8 Ad o.fKeys),.row hf 67 8 (Ax Ae o.fPending)]) Aa (wv (A4 Aa Aa) (Au (Aq (BK Aa Aa (A3 (AT (AO (Al (wv (r:=Cn [rS ht,B9 (BM ho)]) (MK (i:=0) Aa Aa) (wv (A4 Aa Aa) (wv (A4 Aa Aa) (BR (cs:=[rv (.slice none 0 0),As 0]) Sz Aa Aa (λhH=>?_)))))))))))));refine wa Aa (Bj (i:=0) TG Aa Aa Aa (Cj.c Aa) Aa Aa (cs':=[AU 4 (Ax Ab ho.fValue),As ho.fVersion]) Aa (H':=[.blk hH (BM ho) 90,.itz hs (A8 Ao (B3 o.fKeys c.fTenant ([]:(List (An×Ah))))) (A8 Ao hx) (some (ht,Ao ho)),.map hk (A8 Ao hq),.row hd 65 4 (Ax Ai c.fEffects),.blk he [rB o.fMade,rv hg,rv (.map (some ha)),rv (.map (some hb)),rv hf] 59,.blk b1 [rS c.fEvent,rS c.fTenant,As c.fAttempt,AU 4 (Ax Ab c.fResult),rv hd,As c.fAt] 34,.row hg 9 1 (Ax eS o.fEvents),.map ha (A8 Aj o.fResults),.map hb (A8 Ad o.fKeys),.row hf 67 8 (Ax Ae o.fPending)]) Aa (Au (At (wm Aa (wm Aa (wv (AZ (i:=0) Tryz.isAgg90 TG Aa Aa Aa Aa) (G6 (enc:=Ao) (xs:=hq) (v:=ho) (i:=2) JZ C4 Aa Aa Aa Aa (H':=[.blk hH (BM ho) 90,.itz hs (A8 Ao (B3 o.fKeys c.fTenant ([]:(List (An×Ah))))) (A8 Ao hx) (some (ht,Ao ho)),.map hk (A8 Ao (mset hq ht ho)),.row hd 65 4 (Ax Ai c.fEffects),.blk he [rB o.fMade,rv hg,rv (.map (some ha)),rv (.map (some hb)),rv hf] 59,.blk b1 [rS c.fEvent,rS c.fTenant,As c.fAttempt,AU 4 (Ax Ab c.fResult),rv hd,As c.fAt] 34,.row hg 9 1 (Ax eS o.fEvents),.map ha (A8 Aj o.fResults),.map hb (A8 Ad o.fKeys),.row hf 67 8 (Ax Ae o.fPending)]) Aa (Av (AH (WK.uncurz (i:=1) Aa ?_))))))))));have hZ:=La hz hY;exact A5 (AK (hx,mset hq ht ho,()) ⟨hZ,OD hG⟩ (AL.c Aa (AL.c Aa (AL.c Aa (AL.c Aa AL.nil)))) (sS (sC (sC (sC (sC (sC (sC (sC (sC (sC sN)))))))))))
     ·rintro⟨h5,⟨⟩⟩ h0;refine CJ (l':=[(0,rP he 0),(3,rP b1 0),(9,rv (.map (some hk)))]) (H':=[.map hk (A8 Ao h5),.row hd 65 4 (Ax Ai c.fEffects),.blk he [rB o.fMade,rv hg,rv (.map (some ha)),rv (.map (some hb)),rv hf] 59,.blk b1 [rS c.fEvent,rS c.fTenant,As c.fAttempt,AU 4 (Ax Ab c.fResult),rv hd,As c.fAt] 34,.row hg 9 1 (Ax eS o.fEvents),.map ha (A8 Aj o.fResults),.map hb (A8 Ad o.fKeys),.row hf 67 8 (Ax Ae o.fPending)]) Aa Aa ?_;replace h0:Ek F o c h5=some r:=h0;unfold Ek at h0;refine Bf (AT (Aq (Al (wm Aa (vF Cm Aa Iw (vL 3 KL Aa (ob h0 λhj ga gb=>CV (Hr:=[.blk he [rB o.fMade,rv hg,rv (.map (some ha)),rv (.map (some hb)),rv hf] 59,.blk b1 [rS c.fEvent,rS c.fTenant,As c.fAttempt,AU 4 (Ax Ab c.fResult),rv hd,As c.fAt] 34,.row hg 9 1 (Ax eS o.fEvents),.map ha (A8 Aj o.fResults),.map hb (A8 Ad o.fKeys),.row hf 67 8 (Ax Ae o.fPending)]) Tryz.call65 (Tc F hk hd h5 c.fEffects hj ga) Aa (Zp _) Aa ?_)))))));rintro _ _ ⟨rfl,rfl⟩;refine wa Aa (Bk (wm Aa (wv (Cr Aa Aa) (Au (cz gb Aa (λgc gd=>?_) (λgc ge=>?_))))))
      ·refine Al (wm Aa (wa Aa (wa Aa (Au (A0 (Af (BF (H2:=[.blk he [rB o.fMade,rv hg,rv (.map (some ha)),rv (.map (some hb)),rv hf] 59,.row hg 9 1 (Ax eS o.fEvents),.map ha (A8 Aj o.fResults),.map hb (A8 Ad o.fKeys),.row hf 67 8 (Ax Ae o.fPending),.row hd 65 4 (Ax Ai c.fEffects),.map hk (A8 Ao hj.2),.blk b1 [rS c.fEvent,rS c.fTenant,As c.fAttempt,AU 4 (Ax Ab c.fResult),rv hd,As c.fAt] 34]) ((Ak (i:=2) Aa).trans (Zo _ ((Ak (i:=3) Aa).trans (Zo _ ((Ak (i:=3) Aa).trans (Zo _ ((Ak (i:=3) Aa).trans (Zo _ ((Ak (i:=3) Aa).trans (Zo _ ((Ak (i:=1) Aa).trans (Zo _ (Zp _))))))))))))) ?_)))))));obtain rfl:=A1 gd;exact Az (Dq JE (AI Aa) (AI Aa)) (sC (sC (sC (sC (sC (sC (sS (sS sN)))))))) ⟨hg,hf,Aa,Aa⟩
      ·refine A3 (AT (Aq (CL 7 [0,3,9] [⟨[],rP he 0,none,none,none⟩,⟨[0],rP he 0,none,none,none⟩,⟨[1],rP he 3,none,none,none⟩,⟨[2],rv (.map (some hb)),none,none,none⟩,⟨[],rP b1 1,none,none,none⟩,⟨[4],rS c.fTenant,none,none,none⟩,⟨[],rv (.map (some hk)),none,none,none⟩] ?_ (λβ=>?_))))
       ·refine CN (Aw Aa) (CN (A2 Aa) (CN (Ay E2 Aa S4 Aa Aa) (Gi (AQ (i:=2) S9 Aa Aa Aa) (CN (Ay Cm Aa Cs Aa Aa) (Gi (AQ (i:=3) C7 Aa Aa Aa) (CN (Aw Aa) ?_))))));exact OH
       refine CK (H1:=[.map hk (A8 Ao hj.2),.row hd 65 4 (Ax Ai c.fEffects),.blk he [rB o.fMade,rv hg,rv (.map (some ha)),rv (.map (some hb)),rv hf] 59,.blk b1 [rS c.fEvent,rS c.fTenant,As c.fAttempt,AU 4 (Ax Ab c.fResult),rv hd,As c.fAt] 34,.row hg 9 1 (Ax eS o.fEvents),.map ha (A8 Aj o.fResults),.map hb (A8 Ad o.fKeys),.row hf 67 8 (Ax Ae o.fPending)]) [66,67,68,69,70,71,72,0,3,9] ?_;refine WL.freezeM (i:=0) Aa (WL.up (d:=72) (r:=KI (A8 Ao hj.2)) Aa (Up.fact (i:=0) Aa) (G6 (enc:=Ad) (xs:=o.fKeys) (v:=hj.2) (i:=6) S3 C4 Aa Aa Aa Aa (H':=[.fact (.map (some hk)) (KI (A8 Ao hj.2)),.row hd 65 4 (Ax Ai c.fEffects),.blk he [rB o.fMade,rv hg,rv (.map (some ha)),rv (.map (some hb)),rv hf] 59,.blk b1 [rS c.fEvent,rS c.fTenant,As c.fAttempt,AU 4 (Ax Ab c.fResult),rv hd,As c.fAt] 34,.row hg 9 1 (Ax eS o.fEvents),.map ha (A8 Aj o.fResults),.map hb (A8 Ad (mset o.fKeys c.fTenant hj.2)),.row hf 67 8 (Ax Ae o.fPending)]) Aa (Au (Aq (ck ge λgf gg=>Exists.elim MX λinf hinf=>Mr 9 8 [0,3] [] [{ deps:=[],r:=λ_=>rP he 0 },{ deps:=[],r:=λ_=>rP he 0 },{ deps:=[1],r:=λ_=>rP he 0 },{ deps:=[2],r:=λ_=>rP he 1 },{ deps:=[3],r:=λ_=>rv hg },{ deps:=[],r:=λ_=>rP b1 0 },{ deps:=[5],r:=λ_=>rS c.fEvent },{ deps:=[6],r:=λ_=>AU 1 (Ax eS ([c.fEvent]:List An)) },{ deps:=[4,7],r:=λhh=>rv hh,dyn:=true }] (λhh=>[.row hh 9 1 (Ax eS (o.fEvents++([c.fEvent]:List An))),.fact (.map (some hk)) (KI (A8 Ao hj.2)),.row hd 65 4 (Ax Ai c.fEffects),.blk he [rB o.fMade,rv hg,rv (.map (some ha)),rv (.map (some hb)),rv hf] 59,.blk b1 [rS c.fEvent,rS c.fTenant,As c.fAttempt,AU 4 (Ax Ab c.fResult),rv hd,As c.fAt] 34,.map ha (A8 Aj o.fResults),.map hb (A8 Ad (mset o.fKeys c.fTenant hj.2)),.row hf 67 8 (Ax Ae o.fPending)]) ?_ (λhh=>?_))))))
       ·refine Is (Aw Aa) (Is (Aw Aa) (Is (A2 Aa) (Is (Ay E2 Aa Hd Aa Aa) (RN (fun {hh}=>DM (AQ (i:=2) LE Aa Aa Aa)) (fun {hh}=>DM (AQ (i:=3) LE Aa Aa Aa)) (Is (Ay Cm Aa Cs Aa Aa) (RN (fun {hh}=>DM (AQ (i:=3) C7 Aa Aa Aa)) (fun {hh}=>DM (AQ (i:=4) C7 Aa Aa Aa)) (Xr (Cq (ys:=([c.fEvent]:List An)) (enc:=eS) (css:=[[rS c.fEvent]]) (xs:=[.tmp 79]) Ct Cs R2 Aa Aa Aa ⟨DH.one Aa (Up.refl _),trivial⟩ Aa Dg Aa Aa) (Yg (Iy (xs:=o.fEvents) (ys:=([c.fEvent]:List An)) (enc:=eS) (i:=4) Ct hinf.1 hinf.2.1 hinf.2.2.1 hinf.2.2.2 Aa Aa Aa Aa Aa (HY.z Aa Aa) Dg JS gf) ?_))))))));exact Yh
       refine CK (H1:=[.row hh 9 1 (Ax eS (o.fEvents++([c.fEvent]:List An))),.fact (.map (some hk)) (KI (A8 Ao hj.2)),.row hd 65 4 (Ax Ai c.fEffects),.blk he [rB o.fMade,rv hg,rv (.map (some ha)),rv (.map (some hb)),rv hf] 59,.blk b1 [rS c.fEvent,rS c.fTenant,As c.fAttempt,AU 4 (Ax Ab c.fResult),rv hd,As c.fAt] 34,.map ha (A8 Aj o.fResults),.map hb (A8 Ad (mset o.fKeys c.fTenant hj.2)),.row hf 67 8 (Ax Ae o.fPending)]) [73,74,75,76,77,78,79,80,81,0,3] ?_;refine wv (A2 Aa) (vF E2 Aa Hd (Bv (i:=3) Hd Aa Aa (Cl (i:=0) Aa) Aa Aa (cs':=[rB o.fMade,rv hh,rv (.map (some ha)),rv (.map (some hb)),rv hf]) Aa (H':=[.row hh 9 1 (Ax eS (o.fEvents++([c.fEvent]:List An))),.fact (.map (some hk)) (KI (A8 Ao hj.2)),.row hd 65 4 (Ax Ai c.fEffects),.blk he [rB o.fMade,rv hh,rv (.map (some ha)),rv (.map (some hb)),rv hf] 59,.blk b1 [rS c.fEvent,rS c.fTenant,As c.fAttempt,AU 4 (Ax Ab c.fResult),rv hd,As c.fAt] 34,.map ha (A8 Aj o.fResults),.map hb (A8 Ad (mset o.fKeys c.fTenant hj.2)),.row hf 67 8 (Ax Ae o.fPending)]) Aa (Au (Aq (ob gg λhm gh gi=>CL 9 [0,3] [⟨[],rP he 0,none,none,none⟩,⟨[0],rP he 0,none,none,none⟩,⟨[1],rP he 2,none,none,none⟩,⟨[2],rv (.map (some ha)),none,none,none⟩,⟨[],rP b1 0,none,none,none⟩,⟨[4],rS c.fEvent,none,none,none⟩,⟨[],rP b1 3,none,none,none⟩,⟨[6],AU 4 (Ax Ab c.fResult),none,none,none⟩,⟨[7],AU 4 (Ax Ab hm),none,none,none⟩] ?_ (λβ=>?_))))))
       ·refine CN (Aw Aa) (CN (A2 Aa) (CN (Ay E2 Aa TH Aa Aa) (Gi (AQ (i:=3) TS Aa Aa Aa) (CN (Ay Cm Aa Cs Aa Aa) (Gi (AQ (i:=4) C7 Aa Aa Aa) (CN (Ay Cm Aa CD Aa Aa) (Gi (AQ (i:=4) Es Aa Aa Aa) (KU (Et Q9 (G1 c.fResult hm gh) Aa) ?_))))))));exact OH
       refine CK (H1:=[.row hh 9 1 (Ax eS (o.fEvents++([c.fEvent]:List An))),.fact (.map (some hk)) (KI (A8 Ao hj.2)),.row hd 65 4 (Ax Ai c.fEffects),.blk he [rB o.fMade,rv hh,rv (.map (some ha)),rv (.map (some hb)),rv hf] 59,.blk b1 [rS c.fEvent,rS c.fTenant,As c.fAttempt,AU 4 (Ax Ab c.fResult),rv hd,As c.fAt] 34,.map ha (A8 Aj o.fResults),.map hb (A8 Ad (mset o.fKeys c.fTenant hj.2)),.row hf 67 8 (Ax Ae o.fPending)]) [84,85,86,87,88,89,90,91,92,0,3] ?_;refine G6 (enc:=Aj) (xs:=o.fResults) (v:=hm) (i:=5) TF C4 Aa Aa Aa Aa (H':=[.row hh 9 1 (Ax eS (o.fEvents++([c.fEvent]:List An))),.fact (.map (some hk)) (KI (A8 Ao hj.2)),.row hd 65 4 (Ax Ai c.fEffects),.blk he [rB o.fMade,rv hh,rv (.map (some ha)),rv (.map (some hb)),rv hf] 59,.blk b1 [rS c.fEvent,rS c.fTenant,As c.fAttempt,AU 4 (Ax Ab c.fResult),rv hd,As c.fAt] 34,.map ha (A8 Aj (mset o.fResults c.fEvent hm)),.map hb (A8 Ad (mset o.fKeys c.fTenant hj.2)),.row hf 67 8 (Ax Ae o.fPending)]) Aa (Au (Aq (Al (vF Cm Aa Iw (vL 4 KL Aa (wv (BP (ys:=c.fEffects) (enc:=Ai) (i:=2) EY Aa Aa) (wv (r:=As 0) (Aw Aa) (Au (AO (ob gi λgj gl gm=>B4 (S:=Nat×(Int×(List Ar))×(Value)) (V:=((List Ar))×(Value)) 2 (λσ=>Cz (λσ=>GI c σ.1 σ.2) σ.1 σ.2.1=some gj) (λσ=>[(0,rP he 0),(3,rP b1 0),(94,rv hd),(95,As (c.fEffects.length:Int)),(96,As σ.2.1.1)]) (λσ=>[.row hh 9 1 (Ax eS (o.fEvents++([c.fEvent]:List An))),.row hd 65 4 (Ax Ai c.fEffects),.blk he [rB o.fMade,rv hh,rv (.map (some ha)),rv (.map (some hb)),rv σ.2.2] 59,.blk b1 [rS c.fEvent,rS c.fTenant,As c.fAttempt,AU 4 (Ax Ab c.fResult),rv hd,As c.fAt] 34,.map ha (A8 Aj (mset o.fResults c.fEvent hm)),.map hb (A8 Ad (mset o.fKeys c.fTenant hj.2)),.row σ.2.2 67 8 (Ax Ae σ.2.1.2)]) (λσ=>σ.1) (F,(0,o.fPending),hf) gl (AL.c5 Aa Aa Aa Aa Aa AL.nil) (sC (sS (sC (sC (sC (sC (sC (sC sN)))))))) (λσ=>GH o c hj hm σ.1=some r) (λσ=>[]) (λσ=>[.row hh 9 1 (Ax eS (o.fEvents++([c.fEvent]:List An))),.row hd 65 4 (Ax Ai c.fEffects),.blk he [rB o.fMade,rv hh,rv (.map (some ha)),rv (.map (some hb)),rv σ.2] 59,.map ha (A8 Aj (mset o.fResults c.fEvent hm)),.map hb (A8 Ad (mset o.fKeys c.fTenant hj.2)),.row σ.2 67 8 (Ax Ae σ.1)]) ?_ ?_))))))))))
       ·rintro⟨gD,⟨hi,hp⟩,hr⟩ gp;refine Cf (l':=[(0,rP he 0),(3,rP b1 0),(94,rv hd),(95,As (c.fEffects.length:Int)),(96,As hi)]) (H':=[.row hh 9 1 (Ax eS (o.fEvents++([c.fEvent]:List An))),.row hd 65 4 (Ax Ai c.fEffects),.blk he [rB o.fMade,rv hh,rv (.map (some ha)),rv (.map (some hb)),rv hr] 59,.blk b1 [rS c.fEvent,rS c.fTenant,As c.fAttempt,AU 4 (Ax Ab c.fResult),rv hd,As c.fAt] 34,.map ha (A8 Aj (mset o.fResults c.fEvent hm)),.map hb (A8 Ad (mset o.fKeys c.fTenant hj.2)),.row hr 67 8 (Ax Ae hp)]) Aa Aa ?_;obtain⟨gq,rfl,h8,h1,hI⟩:=CO gp;replace h1:GI c hi hp=some h8:=h1;unfold GI at h1;refine Al (wv (CZ Aa Aa) (Au (Aq (cz h1 Aa (λgr gs=>?_) (λgr gt=>?_)))))
        ·refine A3 (AT (C8 (S:=((List Ar))×(Value)) (λσ=>EL hi σ.1=some h8) (λσ=>[(0,rP he 0),(3,rP b1 0),(94,rv hd),(95,As (c.fEffects.length:Int)),(96,As hi)]) (λσ=>[.row hh 9 1 (Ax eS (o.fEvents++([c.fEvent]:List An))),.row hd 65 4 (Ax Ai c.fEffects),.blk he [rB o.fMade,rv hh,rv (.map (some ha)),rv (.map (some hb)),rv σ.2] 59,.blk b1 [rS c.fEvent,rS c.fTenant,As c.fAttempt,AU 4 (Ax Ab c.fResult),rv hd,As c.fAt] 34,.map ha (A8 Aj (mset o.fResults c.fEvent hm)),.map hb (A8 Ad (mset o.fKeys c.fTenant hj.2)),.row σ.2 67 8 (Ax Ae σ.1)]) ?_ ?_))
         ·refine AO (Al (wm Aa (ck gs λhJ gu=>wv (r:=rv (DN 4 hd (Bi hi) 0)) (DC (i:=1) EY CY Aa Aa Aa (B6 hJ)) (wv (r:=B9 (Ai (Ap c.fEffects hi))) (IZ (enc:=Ai) (ys:=c.fEffects) (i:=1) (j:=hi) Hf CY Aa Aa hJ Aa Aa) (BR (cs:=[As 0,rS ([]:An),rv (.slice none 0 0),As 0]) KK Aa Aa (λhu=>?_))))));refine wa Aa (Bj (i:=0) CY Aa Aa Aa (Cj.c Aa) Aa Aa (cs':=[As ((Ap c.fEffects hi).fKind),rS ((Ap c.fEffects hi).fKey),AU 4 (Ax Ab ((Ap c.fEffects hi).fValue)),As ((Ap c.fEffects hi).fDelay)]) Aa (H':=[.blk hu (Ai (Ap c.fEffects hi)) 65,.row hh 9 1 (Ax eS (o.fEvents++([c.fEvent]:List An))),.row hd 65 4 (Ax Ai c.fEffects),.blk he [rB o.fMade,rv hh,rv (.map (some ha)),rv (.map (some hb)),rv hr] 59,.blk b1 [rS c.fEvent,rS c.fTenant,As c.fAttempt,AU 4 (Ax Ab c.fResult),rv hd,As c.fAt] 34,.map ha (A8 Aj (mset o.fResults c.fEvent hm)),.map hb (A8 Ad (mset o.fKeys c.fTenant hj.2)),.row hr 67 8 (Ax Ae hp)]) Aa (Bk (vF CI Aa Iv (vL 0 Ix Aa (ob gu λgv gw gx=>Di Tryz.call66 (GB ((Ap c.fEffects hi).fKind) gv gw) Aa (Au (cz gx Aa (λgy gz=>?_) (λgy g0=>?_))))))))
          ·refine Al (vF Cm Aa Cs (vL 4 C7 Aa (wm Aa (ck gz λg1 g2=>ck g2 λg3 g4=>CM (rs:=[rS c.fEvent,As hi]) (r:=Cn [rS (BZ c.fEvent hi),As (Da c.fEvent hi)]) Tryz.call67 Aa (Mf c.fEvent hi g1 g3) Aa Aa (wm Aa (wv (A4 Aa Aa) (wv (A4 Aa Aa) (wa Aa (wa Aa (Au (ob g4 λhn g5 g6=>ck g6 λg7 g8=>Exists.elim MY λinf hinf=>Mr 17 16 [0,3,14,15,94,95,96] [] [{ deps:=[],r:=λ_=>rP he 0 },{ deps:=[],r:=λ_=>rP he 0 },{ deps:=[1],r:=λ_=>rP he 0 },{ deps:=[2],r:=λ_=>rP he 4 },{ deps:=[3],r:=λ_=>rv hr },{ deps:=[],r:=λ_=>rS (BZ c.fEvent hi) },{ deps:=[],r:=λ_=>rP b1 1 },{ deps:=[6],r:=λ_=>rS c.fTenant },{ deps:=[],r:=λ_=>rP b1 0 },{ deps:=[8],r:=λ_=>rS c.fEvent },{ deps:=[],r:=λ_=>rP b1 5 },{ deps:=[10],r:=λ_=>As c.fAt },{ deps:=[],r:=λ_=>B9 (Ai (Ap c.fEffects hi)) },{ deps:=[12],r:=λ_=>B9 (Ai hn) },{ deps:=[5,7,9,11,13],r:=λ_=>B9 [rS (BZ c.fEvent hi),rS c.fTenant,rS c.fEvent,As c.fAt,As hn.fKind,rS hn.fKey,AU 4 (Ax Ab hn.fValue),As hn.fDelay] },{ deps:=[14],r:=λ_=>AU 8 (Ax Ae ([(Ar.mk (BZ c.fEvent hi) c.fTenant c.fEvent c.fAt hn)]:List Ar)) },{ deps:=[4,15],r:=λhl=>rv hl,dyn:=true }] (λhl=>[.row hl 67 8 (Ax Ae (hp++([(Ar.mk (BZ c.fEvent hi) c.fTenant c.fEvent c.fAt hn)]:List Ar))),.blk hu (Ai (Ap c.fEffects hi)) 65,.row hh 9 1 (Ax eS (o.fEvents++([c.fEvent]:List An))),.row hd 65 4 (Ax Ai c.fEffects),.blk he [rB o.fMade,rv hh,rv (.map (some ha)),rv (.map (some hb)),rv hr] 59,.blk b1 [rS c.fEvent,rS c.fTenant,As c.fAttempt,AU 4 (Ax Ab c.fResult),rv hd,As c.fAt] 34,.map ha (A8 Aj (mset o.fResults c.fEvent hm)),.map hb (A8 Ad (mset o.fKeys c.fTenant hj.2))]) ?_ (λhl=>?_))))))))))))
           ·refine Is (Aw Aa) (Is (Aw Aa) (Is (A2 Aa) (Is (Ay E2 Aa Ml Aa Aa) (RN (fun {hl}=>DM (AQ (i:=3) QC Aa Aa Aa)) (fun {hl}=>DM (AQ (i:=4) QC Aa Aa Aa)) (Is (Aw Aa) (Is (Ay Cm Aa Cs Aa Aa) (RN (fun {hl}=>DM (AQ (i:=4) C7 Aa Aa Aa)) (fun {hl}=>DM (AQ (i:=5) C7 Aa Aa Aa)) (Is (Ay Cm Aa Cs Aa Aa) (RN (fun {hl}=>DM (AQ (i:=4) C7 Aa Aa Aa)) (fun {hl}=>DM (AQ (i:=5) C7 Aa Aa Aa)) (Is (Ay Cm Aa C2 Aa Aa) (RN (fun {hl}=>DM (AQ (i:=4) CQ Aa Aa Aa)) (fun {hl}=>DM (AQ (i:=5) CQ Aa Aa Aa)) (RN (fun {hl}=>DM (AZ (i:=0) Hf CY Aa Aa Aa Aa)) (fun {hl}=>DM (AZ (i:=1) Hf CY Aa Aa Aa Aa)) (Xr (Et Tryz.call44 (QT (Ap c.fEffects hi) hn g5) Aa) (Is (ET Aa Aa Aa Aa Aa Aa Aa Aa Aa) (Xr (Cq (ys:=([(Ar.mk (BZ c.fEvent hi) c.fTenant c.fEvent c.fAt hn)]:List Ar)) (enc:=Ae) (css:=[[rS (BZ c.fEvent hi),rS c.fTenant,rS c.fEvent,As c.fAt,As hn.fKind,rS hn.fKey,AU 4 (Ax Ab hn.fValue),As hn.fDelay]]) (xs:=[.tmp 125]) DK H4 S0 Aa Aa Aa ⟨DH.agg ⟨Up.refl _,Up.refl _,Up.refl _,Up.refl _,Up.refl _,Up.refl _,Up.refl _,Up.refl _,trivial⟩,trivial⟩ Aa Cb Aa Aa) (Yg (Iy (xs:=hp) (ys:=([(Ar.mk (BZ c.fEvent hi) c.fTenant c.fEvent c.fAt hn)]:List Ar)) (enc:=Ae) (i:=7) DK hinf.1 hinf.2.1 hinf.2.2.1 hinf.2.2.2 Aa Aa Aa Aa Aa (HY.z Aa Aa) Cb Dd g7) ?_))))))))))))))));exact Yh
           refine CK (H1:=[.row hl 67 8 (Ax Ae (hp++([(Ar.mk (BZ c.fEvent hi) c.fTenant c.fEvent c.fAt hn)]:List Ar))),.blk hu (Ai (Ap c.fEffects hi)) 65,.row hh 9 1 (Ax eS (o.fEvents++([c.fEvent]:List An))),.row hd 65 4 (Ax Ai c.fEffects),.blk he [rB o.fMade,rv hh,rv (.map (some ha)),rv (.map (some hb)),rv hr] 59,.blk b1 [rS c.fEvent,rS c.fTenant,As c.fAttempt,AU 4 (Ax Ab c.fResult),rv hd,As c.fAt] 34,.map ha (A8 Aj (mset o.fResults c.fEvent hm)),.map hb (A8 Ad (mset o.fKeys c.fTenant hj.2))]) [111,112,113,114,115,116,117,118,119,120,121,122,123,124,125,126,127,0,3,14,15,94,95,96] ?_;exact wv (A2 Aa) (vF E2 Aa Ml (Bv (i:=4) Ml Aa Aa (Cl (i:=0) Aa) Aa Aa (cs':=[rB o.fMade,rv hh,rv (.map (some ha)),rv (.map (some hb)),rv hl]) Aa (H':=[.row hl 67 8 (Ax Ae (hp++([(Ar.mk (BZ c.fEvent hi) c.fTenant c.fEvent c.fAt hn)]:List Ar))),.blk hu (Ai (Ap c.fEffects hi)) 65,.row hh 9 1 (Ax eS (o.fEvents++([c.fEvent]:List An))),.row hd 65 4 (Ax Ai c.fEffects),.blk he [rB o.fMade,rv hh,rv (.map (some ha)),rv (.map (some hb)),rv hl] 59,.blk b1 [rS c.fEvent,rS c.fTenant,As c.fAttempt,AU 4 (Ax Ab c.fResult),rv hd,As c.fAt] 34,.map ha (A8 Aj (mset o.fResults c.fEvent hm)),.map hb (A8 Ad (mset o.fKeys c.fTenant hj.2))]) Aa (Av (AH (BF (H2:=[.row hh 9 1 (Ax eS (o.fEvents++([c.fEvent]:List An))),.row hd 65 4 (Ax Ai c.fEffects),.blk he [rB o.fMade,rv hh,rv (.map (some ha)),rv (.map (some hb)),rv hl] 59,.blk b1 [rS c.fEvent,rS c.fTenant,As c.fAttempt,AU 4 (Ax Ab c.fResult),rv hd,As c.fAt] 34,.map ha (A8 Aj (mset o.fResults c.fEvent hm)),.map hb (A8 Ad (mset o.fKeys c.fTenant hj.2)),.row hl 67 8 (Ax Ae (hp++([(Ar.mk (BZ c.fEvent hi) c.fTenant c.fEvent c.fAt hn)]:List Ar))),.blk hu (Ai (Ap c.fEffects hi)) 65]) ((Ak (i:=2) Aa).trans (Zo _ ((Ak (i:=2) Aa).trans (Zo _ ((Ak (i:=2) Aa).trans (Zo _ ((Ak (i:=2) Aa).trans (Zo _ ((Ak (i:=2) Aa).trans (Zo _ ((Ak (i:=2) Aa).trans (Zo _ (Zp _))))))))))))) (A5 (AK (hp++([(Ar.mk (BZ c.fEvent hi) c.fTenant c.fEvent c.fAt hn)]:List Ar),hl) g8 (AL.c5 Aa Aa Aa Aa Aa AL.nil) (sC (sC (sC (sC (sC (sC (sC (sS sN)))))))))))))))
          ·exact A3 (AH (A5 (AK (hp,hr) g0 (AL.c5 Aa Aa Aa Aa Aa AL.nil) (sS (sC (sC (sC (sC (sC (sC (sC sN)))))))))))
         ·rintro⟨hA,hB⟩ h2;refine Cf (l':=[(0,rP he 0),(3,rP b1 0),(94,rv hd),(95,As (c.fEffects.length:Int)),(96,As hi)]) (H':=[.row hh 9 1 (Ax eS (o.fEvents++([c.fEvent]:List An))),.row hd 65 4 (Ax Ai c.fEffects),.blk he [rB o.fMade,rv hh,rv (.map (some ha)),rv (.map (some hb)),rv hB] 59,.blk b1 [rS c.fEvent,rS c.fTenant,As c.fAttempt,AU 4 (Ax Ab c.fResult),rv hd,As c.fAt] 34,.map ha (A8 Aj (mset o.fResults c.fEvent hm)),.map hb (A8 Ad (mset o.fKeys c.fTenant hj.2)),.row hB 67 8 (Ax Ae hA)]) Aa Aa ?_;replace h2:EL hi hA=some h8:=h2;unfold EL at h2;refine At (ck h2 λg9 gA=>wv (BJ Aa Aa g9) (wm Aa (Av ?_)));have gB:=B8 gA hI;exact A5 (AK (gq,(hi+1,hA),hB) ⟨gB,Z3 _⟩ (AL.c5 Aa Aa Aa Aa Aa AL.nil) (sC (sC (sC (sC (sC (sC (sC sN))))))))
        ·refine BB (A9 ?_);have gC:=Cv gt hI gm;exact A9 (Bh (AK (hp,hr) gC AL.nil (sC (sC (sC (sS (sC (sC (sC sN)))))))))
       ·rintro⟨hC,hw⟩ h4;refine CJ (l':=[]) (H':=[.row hh 9 1 (Ax eS (o.fEvents++([c.fEvent]:List An))),.row hd 65 4 (Ax Ai c.fEffects),.blk he [rB o.fMade,rv hh,rv (.map (some ha)),rv (.map (some hb)),rv hw] 59,.map ha (A8 Aj (mset o.fResults c.fEvent hm)),.map hb (A8 Ad (mset o.fKeys c.fTenant hj.2)),.row hw 67 8 (Ax Ae hC)]) Aa Aa ?_;replace h4:GH o c hj hm hC=some r:=h4;unfold GH at h4;refine Bf (AT (Al (wa Aa (wa Aa (Au (A0 (BF (H2:=[.blk he [rB o.fMade,rv hh,rv (.map (some ha)),rv (.map (some hb)),rv hw] 59,.row hh 9 1 (Ax eS (o.fEvents++([c.fEvent]:List An))),.map ha (A8 Aj (mset o.fResults c.fEvent hm)),.map hb (A8 Ad (mset o.fKeys c.fTenant hj.2)),.row hw 67 8 (Ax Ae hC),.row hd 65 4 (Ax Ai c.fEffects)]) ((Ak (i:=2) Aa).trans (Zo _ ((Ak (i:=0) Aa).trans (Zo _ ((Ak (i:=1) Aa).trans (Zo _ ((Ak (i:=1) Aa).trans (Zo _ ((Ak (i:=1) Aa).trans (Zo _ (Zp _))))))))))) ?_)))))));obtain rfl:=A1 h4;exact Az (Dq JE (AI Aa) (AI Aa)) (sC (sC (sC (sC (sC (sC sN)))))) ⟨hh,hw,Aa,Aa⟩
theorem N7 (ha:Value)(c:AP)(r:Bool×Int)(h:ID c=some r):Fn Tryz.prog GE 35 [rv (.pointer none),B9 [rS c.fEvent,rS c.fTenant,As c.fAttempt,AU 4 (Ax Ab c.fResult),rv ha,As c.fAt]] [.row ha 65 4 (Ax Ai c.fEffects)] (λR H=>R=Cn [rB r.1,As r.2]∧H=[.row ha 65 4 (Ax Ai c.fEffects)]):=by
 refine enter (n:=131) TR Aa TL Aa (λw Z=>?_);unfold ID at h;refine Al (BX Aa Aa (λb1=>?_));refine wa Aa (wa Aa (Au (Aq (Al (wm Aa (Di Gn (Dr false Aa) Aa (wv (B7 Aa) (Au (BK Aa (EU Aa) (Al (wa Aa (wa Aa (Au (A0 (Af ?_)))))))))))))));obtain rfl:=A1 h;exact Az (Dq JE (AI Aa) (AI Aa)) (sS (sC sN)) ⟨Aa,Aa⟩
theorem Rf (F:Nat)  (r:Bool)(h:KA F=some r):Fn Tryz.prog GE 8 [] [] (λR H=>R=rB r∧H=[]):=by
 refine enter (n:=215) Tryz.func8 Aa Tryz.ntmps8 Aa (λw Z=>?_);unfold KA at h;refine Al (wa Aa (Bk (ob h λr1 e3 h2=>Di Tryz.call34 (GM 7 r1 e3) Aa (ob h2 λr4 e6 h5=>Di Tryz.call34 (GM 1 r4 e6) Aa (wv (r:=B9 [As 1,rS ([107]:An),AU 4 (Ax Ab r4),As 0]) (Ig Aa Aa Aa Aa Aa Aa) (ob h5 λr7 e9 h8=>Di Tryz.call34 (GM 2 r7 e9) Aa (wv (r:=B9 [As 3,rS ([115]:An),AU 4 (Ax Ab r7),As 0]) (Ig Aa Aa Aa Aa Aa Aa) (Ba (ys:=([(Am.mk 1 ([107]:An) r4 0),(Am.mk 3 ([115]:An) r7 0)]:List Am)) (enc:=Ai) (css:=[[As 1,rS ([107]:An),AU 4 (Ax Ab r4),As 0],[As 3,rS ([115]:An),AU 4 (Ax Ab r7),As 0]]) (xs:=[.tmp 17,.tmp 19]) EY CY KK Aa Aa Aa ⟨DH.agg ⟨Up.refl _,Up.refl _,Up.refl _,Up.refl _,trivial⟩,DH.agg ⟨Up.refl _,Up.refl _,Up.refl _,Up.refl _,trivial⟩,trivial⟩ Aa Dc Aa Aa Aa (λhb=>?_)))))))));refine wv (r:=B9 [rS ([101,49]:An),rS ([116]:An),As 1,AU 4 (Ax Ab r1),rv (.slice (some ⟨hb,0,none⟩) 2 2),As 5]) (Ir Aa Aa Aa Aa Aa Aa Aa Aa Aa Aa Aa Aa) (BR (cs:=[rS ([]:An),rS ([]:An),As 0,rv (.slice none 0 0),rv (.slice none 0 0),As 0]) VH Aa Aa (λhj=>?_));refine Bj (i:=0) Dl Aa Aa Aa ⟨(Bw Aa),(Bw Aa),(Bw Aa),(Bw Aa),(Cl (i:=1) Aa),(Bw Aa),trivial⟩ Aa Aa (cs':=[rS ([101,49]:An),rS ([116]:An),As 1,AU 4 (Ax Ab r1),rv (.slice (some ⟨hb,0,none⟩) 2 2),As 5]) Aa (H':=[.blk hj [rS ([101,49]:An),rS ([116]:An),As 1,AU 4 (Ax Ab r1),rv (.slice (some ⟨hb,0,none⟩) 2 2),As 5] 34,.row (.slice (some ⟨hb,0,none⟩) 2 2) 65 4 (Ax Ai ([(Am.mk 1 ([107]:An) r4 0),(Am.mk 3 ([115]:An) r7 0)]:List Am))]) Aa (Bk (ob h8 λgf gp gq=>CV (Hr:=[.blk hj [rS ([101,49]:An),rS ([116]:An),As 1,AU 4 (Ax Ab r1),rv (.slice (some ⟨hb,0,none⟩) 2 2),As 5] 34,.row (.slice (some ⟨hb,0,none⟩) 2 2) 65 4 (Ax Ai ([(Am.mk 1 ([107]:An) r4 0),(Am.mk 3 ([115]:An) r7 0)]:List Am))]) Tryz.call9 (UG gf gp) Aa (Zp _) Aa ?_));rintro _ _ ⟨hl,gr,he,hf,gs,rfl,rfl⟩;refine wa Aa (Bk (wm Aa (wv (AZ (i:=5) E5 Dl Aa Aa Aa Aa) (ob gq λhu gt gu=>CV (Hr:=[.blk hj [rS ([101,49]:An),rS ([116]:An),As 1,AU 4 (Ax Ab r1),rv (.slice (some ⟨hb,0,none⟩) 2 2),As 5] 34]) S7 (MQ F hl gr he hf gs (.slice (some ⟨hb,0,none⟩) 2 2) gf (AP.mk ([101,49]:An) ([116]:An) 1 r1 ([(Am.mk 1 ([107]:An) r4 0),(Am.mk 3 ([115]:An) r7 0)]:List Am) 5) hu gt) Aa ((Ak (i:=0) Aa).trans (Zo _ ((Ak (i:=0) Aa).trans (Zo _ ((Ak (i:=0) Aa).trans (Zo _ ((Ak (i:=0) Aa).trans (Zo _ ((Ak (i:=0) Aa).trans (Zo _ ((Ak (i:=1) Aa).trans (Zo _ (Zp _))))))))))))) Aa ?_))));rintro _ _ ⟨gv,v24,rfl,rfl⟩;refine wm Aa (wv (A4 Aa Aa) (wv (A4 Aa Aa) (wa Aa (wa Aa (Bk (wm Aa (wv (AZ (i:=6) E5 Dl Aa Aa Aa Aa) (ob gu λhm gw gx=>CV (Hr:=[.blk hj [rS ([101,49]:An),rS ([116]:An),As 1,AU 4 (Ax Ab r1),rv (.slice (some ⟨hb,0,none⟩) 2 2),As 5] 34]) S7 (MQ F hl gv he hf v24 (.slice (some ⟨hb,0,none⟩) 2 2) hu.2.2 (AP.mk ([101,49]:An) ([116]:An) 1 r1 ([(Am.mk 1 ([107]:An) r4 0),(Am.mk 3 ([115]:An) r7 0)]:List Am) 5) hm gw) Aa (Zp _) Aa ?_))))))));rintro _ _ ⟨hP,hQ,rfl,rfl⟩;refine wm Aa (wv (A4 Aa Aa) (wv (A4 Aa Aa) (wa Aa (wa Aa (Bk (wm Aa (ob gx λhk gy gz=>CV (Hr:=[.row (.slice (some ⟨hb,0,none⟩) 2 2) 65 4 (Ax Ai ([(Am.mk 1 ([107]:An) r4 0),(Am.mk 3 ([115]:An) r7 0)]:List Am)),.blk hj [rS ([101,49]:An),rS ([116]:An),As 1,AU 4 (Ax Ab r1),rv (.slice (some ⟨hb,0,none⟩) 2 2),As 5] 34]) TQ (MN F hl hP he hf hQ hm.2.2 ([116]:An) hk gy) Aa (Zp _) Aa ?_)))))));rintro _ _ ⟨rfl,rfl⟩;refine wa Aa (Bk (wm Aa (ob gz λhd g0 g1=>CV (Hr:=[.row (.slice (some ⟨hb,0,none⟩) 2 2) 65 4 (Ax Ai ([(Am.mk 1 ([107]:An) r4 0),(Am.mk 3 ([115]:An) r7 0)]:List Am)),.blk hj [rS ([101,49]:An),rS ([116]:An),As 1,AU 4 (Ax Ab r1),rv (.slice (some ⟨hb,0,none⟩) 2 2),As 5] 34]) QB (JO F hl hP he hf hQ hm.2.2 hd g0) Aa (Zp _) Aa ?_)));rintro _ _ ⟨rfl,rfl⟩;refine wa Aa (Au (Aq (Al (wm Aa (wv (Cr Aa Aa) (wm Aa (ck g1 λhZ g2=>AJ (b:=!decide (hu.2.1=0)) Aa Aa (Bool.not_eq_eq_eq_not.1 hZ) (wm Aa (AJ (b:=!decide (hu.2.1=0)) Aa Aa (Bool.not_eq_eq_eq_not.1 hZ) (wv (Cr Aa Aa) (wv (r:=rB (!decide (hm.2.1=0))) (AF (b:=!decide (hu.2.1=0)) Aa (Bool.not_eq_eq_eq_not.1 hZ) Aa) (wm Aa (ck g2 λga g3=>AJ (b:=!decide (hm.2.1=0)) Aa Aa (Bool.not_eq_eq_eq_not.1 ga) (wm Aa (AJ (b:=!decide (hm.2.1=0)) Aa Aa (Bool.not_eq_eq_eq_not.1 ga) (wv (B7 Aa) (wv (r:=rB (!hu.1)) (AF (b:=!decide (hm.2.1=0)) Aa (Bool.not_eq_eq_eq_not.1 ga) Aa) (wm Aa (ck g3 λgg g4=>AJ (b:=!hu.1) Aa Aa (Bool.not_eq_eq_eq_not.1 gg) (wm Aa ?_))))))))))))))))))));refine wv (r:=rB hm.1) (AF (b:=!hu.1) Aa (Bool.not_eq_eq_eq_not.1 gg) Aa) (wm Aa (ck g4 λhR g5=>AJ (b:=hm.1) Aa Aa (Bool.not_eq_eq_eq_not.1 hR) (wm Aa (AJ (b:=hm.1) Aa Aa (Bool.not_eq_eq_eq_not.1 hR) (wv (Bt (ys:=hk) (enc:=BE) Ow Aa) (AJ (b:=hm.1) Aa Aa (Bool.not_eq_eq_eq_not.1 hR) (wv (Cr Aa Aa) (wv (r:=rB (!decide ((hk.length:Int)=1))) (AF (b:=hm.1) Aa (Bool.not_eq_eq_eq_not.1 hR) Aa) (wm Aa (ck g5 λh6 g6=>AJ (b:=!decide ((hk.length:Int)=1)) Aa Aa (Bool.not_eq_eq_eq_not.1 h6) (wm Aa (AJ (b:=!decide ((hk.length:Int)=1)) Aa Aa (Bool.not_eq_eq_eq_not.1 h6) (ck g6 λgh g7=>wv (BT (enc:=BE) (ys:=hk) Ow Tryz.sizeOf75 Aa Aa gh) (AJ (b:=!decide ((hk.length:Int)=1)) Aa Aa (Bool.not_eq_eq_eq_not.1 h6) (wv (BY Tryz.underlying75 Aa Cs Aa Aa) (AJ (b:=!decide ((hk.length:Int)=1)) Aa Aa (Bool.not_eq_eq_eq_not.1 h6) (wv (BD C7 Aa Aa) (AJ (b:=!decide ((hk.length:Int)=1)) Aa Aa (Bool.not_eq_eq_eq_not.1 h6) (wv (I7 Aa Aa) (wv (r:=rB (!decide (((Ap hk 0).fKey)=([107]:An)))) (AF (b:=!decide ((hk.length:Int)=1)) Aa (Bool.not_eq_eq_eq_not.1 h6) Aa) ?_))))))))))))))))))));refine wm Aa (ck g7 λh7 g8=>AJ (b:=!decide (((Ap hk 0).fKey)=([107]:An))) Aa Aa (Bool.not_eq_eq_eq_not.1 h7) (wm Aa (AJ (b:=!decide (((Ap hk 0).fKey)=([107]:An))) Aa Aa (Bool.not_eq_eq_eq_not.1 h7) (wv (BT (enc:=BE) (ys:=hk) Ow Tryz.sizeOf75 Aa Aa gh) (AJ (b:=!decide (((Ap hk 0).fKey)=([107]:An))) Aa Aa (Bool.not_eq_eq_eq_not.1 h7) (wv (BY Tryz.underlying75 Aa C2 Aa Aa) (AJ (b:=!decide (((Ap hk 0).fKey)=([107]:An))) Aa Aa (Bool.not_eq_eq_eq_not.1 h7) (wv (BD CQ Aa Aa) (AJ (b:=!decide (((Ap hk 0).fKey)=([107]:An))) Aa Aa (Bool.not_eq_eq_eq_not.1 h7) (wv (Cr Aa Aa) (wv (r:=rB (!decide (((Ap hk 0).fVersion)=1))) (AF (b:=!decide (((Ap hk 0).fKey)=([107]:An))) Aa (Bool.not_eq_eq_eq_not.1 h7) Aa) (wm Aa (ck g8 λhS g9=>AJ (b:=!decide (((Ap hk 0).fVersion)=1)) Aa Aa (Bool.not_eq_eq_eq_not.1 hS) (wm Aa (AJ (b:=!decide (((Ap hk 0).fVersion)=1)) Aa Aa (Bool.not_eq_eq_eq_not.1 hS) (wv (Bt (ys:=hd) (enc:=Ae) DK Aa) (AJ (b:=!decide (((Ap hk 0).fVersion)=1)) Aa Aa (Bool.not_eq_eq_eq_not.1 hS) (wv (Cr Aa Aa) (wv (r:=rB (!decide ((hd.length:Int)=1))) (AF (b:=!decide (((Ap hk 0).fVersion)=1)) Aa (Bool.not_eq_eq_eq_not.1 hS) Aa) (wm Aa (ck g9 λh9 gA=>?_)))))))))))))))))))));refine AJ (b:=!decide ((hd.length:Int)=1)) Aa Aa (Bool.not_eq_eq_eq_not.1 h9) (wm Aa (AJ (b:=!decide ((hd.length:Int)=1)) Aa Aa (Bool.not_eq_eq_eq_not.1 h9) (ck gA λhT gB=>wv (BT (enc:=Ae) (ys:=hd) DK H4 Aa Aa hT) (AJ (b:=!decide ((hd.length:Int)=1)) Aa Aa (Bool.not_eq_eq_eq_not.1 h9) (wv (BY Pv Aa Cs Aa Aa) (AJ (b:=!decide ((hd.length:Int)=1)) Aa Aa (Bool.not_eq_eq_eq_not.1 h9) (wv (BD C7 Aa Aa) (AJ (b:=!decide ((hd.length:Int)=1)) Aa Aa (Bool.not_eq_eq_eq_not.1 h9) (wv (I7 Aa Aa) (wv (r:=rB (!decide (((Ap hd 0).fID)=([101,49,46,49]:An)))) (AF (b:=!decide ((hd.length:Int)=1)) Aa (Bool.not_eq_eq_eq_not.1 h9) Aa) (wm Aa (ck gB λhA gC=>AJ (b:=!decide (((Ap hd 0).fID)=([101,49,46,49]:An))) Aa Aa (Bool.not_eq_eq_eq_not.1 hA) (wm Aa (AJ (b:=!decide (((Ap hd 0).fID)=([101,49,46,49]:An))) Aa Aa (Bool.not_eq_eq_eq_not.1 hA) (wv (BT (enc:=Ae) (ys:=hd) DK H4 Aa Aa hT) (AJ (b:=!decide (((Ap hd 0).fID)=([101,49,46,49]:An))) Aa Aa (Bool.not_eq_eq_eq_not.1 hA) (wv (BY Pv Aa Cs Aa Aa) (AJ (b:=!decide (((Ap hd 0).fID)=([101,49,46,49]:An))) Aa Aa (Bool.not_eq_eq_eq_not.1 hA) (wv (BD C7 Aa Aa) (AJ (b:=!decide (((Ap hd 0).fID)=([101,49,46,49]:An))) Aa Aa (Bool.not_eq_eq_eq_not.1 hA) (wv (I7 Aa Aa) ?_)))))))))))))))))))));refine wv (r:=rB (!decide (((Ap hd 0).fCause)=([101,49]:An)))) (AF (b:=!decide (((Ap hd 0).fID)=([101,49,46,49]:An))) Aa (Bool.not_eq_eq_eq_not.1 hA) Aa) (wm Aa (ck gC λhB gD=>AJ (b:=!decide (((Ap hd 0).fCause)=([101,49]:An))) Aa Aa (Bool.not_eq_eq_eq_not.1 hB) (wm Aa (AJ (b:=!decide (((Ap hd 0).fCause)=([101,49]:An))) Aa Aa (Bool.not_eq_eq_eq_not.1 hB) (wv (BT (enc:=Ae) (ys:=hd) DK H4 Aa Aa hT) (AJ (b:=!decide (((Ap hd 0).fCause)=([101,49]:An))) Aa Aa (Bool.not_eq_eq_eq_not.1 hB) (wv (BY Pv Aa C2 Aa Aa) (AJ (b:=!decide (((Ap hd 0).fCause)=([101,49]:An))) Aa Aa (Bool.not_eq_eq_eq_not.1 hB) (wv (BD CQ Aa Aa) (AJ (b:=!decide (((Ap hd 0).fCause)=([101,49]:An))) Aa Aa (Bool.not_eq_eq_eq_not.1 hB) (wv (Cr Aa Aa) (wv (r:=rB (!decide (((Ap hd 0).fAt)=5))) (AF (b:=!decide (((Ap hd 0).fCause)=([101,49]:An))) Aa (Bool.not_eq_eq_eq_not.1 hB) Aa) (wm Aa (ck gD λh0 gE=>AJ (b:=!decide (((Ap hd 0).fAt)=5)) Aa Aa (Bool.not_eq_eq_eq_not.1 h0) (wm Aa (AJ (b:=!decide (((Ap hd 0).fAt)=5)) Aa Aa (Bool.not_eq_eq_eq_not.1 h0) (wv (BT (enc:=Ae) (ys:=hd) DK H4 Aa Aa hT) (AJ (b:=!decide (((Ap hd 0).fAt)=5)) Aa Aa (Bool.not_eq_eq_eq_not.1 h0) (wv (BY Pv Aa CY Aa Aa) (AJ (b:=!decide (((Ap hd 0).fAt)=5)) Aa Aa (Bool.not_eq_eq_eq_not.1 h0) (wv (BY CI Aa Cs Aa Aa) ?_)))))))))))))))))))));refine AJ (b:=!decide (((Ap hd 0).fAt)=5)) Aa Aa (Bool.not_eq_eq_eq_not.1 h0) (wv (BD C7 Aa Aa) (AJ (b:=!decide (((Ap hd 0).fAt)=5)) Aa Aa (Bool.not_eq_eq_eq_not.1 h0) (wv (I7 Aa Aa) (wv (r:=rB (!decide ((((Ap hd 0).fEffect).fKey)=([115]:An)))) (AF (b:=!decide (((Ap hd 0).fAt)=5)) Aa (Bool.not_eq_eq_eq_not.1 h0) Aa) (Au (ck gE λgF gG=>Db (b:=!decide ((((Ap hd 0).fEffect).fKey)=([115]:An))) Aa (Bool.not_eq_eq_eq_not.1 gF) (A3 (AT (Al (wm Aa (ob gG λh1 gH gI=>CV (Hr:=[.row (.slice (some ⟨hb,0,none⟩) 2 2) 65 4 (Ax Ai ([(Am.mk 1 ([107]:An) r4 0),(Am.mk 3 ([115]:An) r7 0)]:List Am)),.blk hj [rS ([101,49]:An),rS ([116]:An),As 1,AU 4 (Ax Ab r1),rv (.slice (some ⟨hb,0,none⟩) 2 2),As 5] 34]) Tryz.call13 (SW hl hP he hf hQ hm.2.2 ([101,49]:An) h1 gH) Aa (Zp _) Aa ?_)))))))))));rintro _ _ ⟨rfl,rfl⟩;refine wm Aa (wv (A4 Aa Aa) (wv (A4 Aa Aa) (wa Aa (wa Aa (Au (Aq (Al (wm Aa (wv (B7 Aa) (wm Aa (ck gI λhG gJ=>AJ (b:=!h1.2) Aa Aa (Bool.not_eq_eq_eq_not.1 hG) (wm Aa (AJ (b:=!h1.2) Aa Aa (Bool.not_eq_eq_eq_not.1 hG) (ob gJ λgi gK gL=>Di Tryz.call34 (GM 7 gi gK) Aa (AJ (b:=!h1.2) Aa Aa (Bool.not_eq_eq_eq_not.1 hG) (ob gL λhC gM gN=>Di Tryz.call15 (Wj F h1.1 gi hC gM) Aa (AJ (b:=!h1.2) Aa Aa (Bool.not_eq_eq_eq_not.1 hG) (wv (B7 Aa) (wv (r:=rB (!hC)) (AF (b:=!h1.2) Aa (Bool.not_eq_eq_eq_not.1 hG) Aa) (wm Aa ?_))))))))))))))))))));refine ck gN λhU gO=>AJ (b:=!hC) Aa Aa (Bool.not_eq_eq_eq_not.1 hU) (wm Aa (AJ (b:=!hC) Aa Aa (Bool.not_eq_eq_eq_not.1 hU) (ob gO λh3 gP gQ=>CV (Hr:=[.row (.slice (some ⟨hb,0,none⟩) 2 2) 65 4 (Ax Ai ([(Am.mk 1 ([107]:An) r4 0),(Am.mk 3 ([115]:An) r7 0)]:List Am)),.blk hj [rS ([101,49]:An),rS ([116]:An),As 1,AU 4 (Ax Ab r1),rv (.slice (some ⟨hb,0,none⟩) 2 2),As 5] 34]) QA (QY F hl hP he hf hQ hm.2.2 ([101,49,46,49]:An) h3 gP) Aa (Zp _) Aa ?_)));rintro _ _ ⟨v80,gR,rfl,rfl⟩;refine AJ (b:=!hC) Aa Aa (Bool.not_eq_eq_eq_not.1 hU) (wv (Cr Aa Aa) (wv (r:=rB (!decide (h3.1=0))) (AF (b:=!hC) Aa (Bool.not_eq_eq_eq_not.1 hU) Aa) (wm Aa (ck gQ λhV gS=>AJ (b:=!decide (h3.1=0)) Aa Aa (Bool.not_eq_eq_eq_not.1 hV) (wm Aa (AJ (b:=!decide (h3.1=0)) Aa Aa (Bool.not_eq_eq_eq_not.1 hV) (ob gS λha gT gU=>CV (Hr:=[.row (.slice (some ⟨hb,0,none⟩) 2 2) 65 4 (Ax Ai ([(Am.mk 1 ([107]:An) r4 0),(Am.mk 3 ([115]:An) r7 0)]:List Am)),.blk hj [rS ([101,49]:An),rS ([116]:An),As 1,AU 4 (Ax Ab r1),rv (.slice (some ⟨hb,0,none⟩) 2 2),As 5] 34]) QA (QY F hl v80 he hf gR h3.2 ([101,49,46,49]:An) ha gT) Aa (Zp _) Aa ?_)))))));rintro _ _ ⟨hh,hi,rfl,rfl⟩;refine AJ (b:=!decide (h3.1=0)) Aa Aa (Bool.not_eq_eq_eq_not.1 hV) (wv (Cr Aa Aa) (wv (r:=rB (!decide (ha.1=5))) (AF (b:=!decide (h3.1=0)) Aa (Bool.not_eq_eq_eq_not.1 hV) Aa) (wm Aa (ck gU λhH gV=>AJ (b:=!decide (ha.1=5)) Aa Aa (Bool.not_eq_eq_eq_not.1 hH) (wm Aa (AJ (b:=!decide (ha.1=5)) Aa Aa (Bool.not_eq_eq_eq_not.1 hH) (ob gV λht gW gX=>CV (Hr:=[.row (.slice (some ⟨hb,0,none⟩) 2 2) 65 4 (Ax Ai ([(Am.mk 1 ([107]:An) r4 0),(Am.mk 3 ([115]:An) r7 0)]:List Am)),.blk hj [rS ([101,49]:An),rS ([116]:An),As 1,AU 4 (Ax Ab r1),rv (.slice (some ⟨hb,0,none⟩) 2 2),As 5] 34]) QB (JO F hl hh he hf hi ha.2 ht gW) Aa (Zp _) Aa ?_)))))));rintro _ _ ⟨rfl,rfl⟩;refine AJ (b:=!decide (ha.1=5)) Aa Aa (Bool.not_eq_eq_eq_not.1 hH) (wv (Bt (ys:=ht) (enc:=Ae) DK Aa) (AJ (b:=!decide (ha.1=5)) Aa Aa (Bool.not_eq_eq_eq_not.1 hH) (wv (Cr Aa Aa) (wv (r:=rB (!decide ((ht.length:Int)=0))) (AF (b:=!decide (ha.1=5)) Aa (Bool.not_eq_eq_eq_not.1 hH) Aa) (wm Aa (ck gX λhD gY=>AJ (b:=!decide ((ht.length:Int)=0)) Aa Aa (Bool.not_eq_eq_eq_not.1 hD) (wm Aa (AJ (b:=!decide ((ht.length:Int)=0)) Aa Aa (Bool.not_eq_eq_eq_not.1 hD) (ob gY λgj gZ ca=>CV (Hr:=[.row (.slice (some ⟨hb,0,none⟩) 2 2) 65 4 (Ax Ai ([(Am.mk 1 ([107]:An) r4 0),(Am.mk 3 ([115]:An) r7 0)]:List Am)),.blk hj [rS ([101,49]:An),rS ([116]:An),As 1,AU 4 (Ax Ab r1),rv (.slice (some ⟨hb,0,none⟩) 2 2),As 5] 34]) Tryz.call17 (SY hl hh he hf hi ha.2 gj gZ) Aa (Zp _) Aa ?_)))))))));rintro _ _ ⟨rfl,rfl⟩;refine AJ (b:=!decide ((ht.length:Int)=0)) Aa Aa (Bool.not_eq_eq_eq_not.1 hD) (Ba (ys:=([([101,49]:An)]:List An)) (enc:=eS) (css:=[[rS ([101,49]:An)]]) (xs:=[.const (.string ⟨#[101,49]⟩)]) Ct Cs R2 Aa Aa Aa ⟨DH.one Aa (Up.refl _),trivial⟩ Aa Dg Aa Aa Aa (λhp=>?_));refine AJ (b:=!decide ((ht.length:Int)=0)) Aa Aa (Bool.not_eq_eq_eq_not.1 hD) (WL.freeze (i:=0) Aa (WL.up (d:=137) (r:=AU 1 (Ax eS ([([101,49]:An)]:List An))) Aa (Up.fact (i:=0) Aa) (ob ca λgb cb cc=>Di Tryz.call16 (Vf F gj ([([101,49]:An)]:List An) gb cb) Aa (AJ (b:=!decide ((ht.length:Int)=0)) Aa Aa (Bool.not_eq_eq_eq_not.1 hD) (wv (B7 Aa) (wv (r:=rB (!gb)) (AF (b:=!decide ((ht.length:Int)=0)) Aa (Bool.not_eq_eq_eq_not.1 hD) Aa) (Au (ck cc λcd ce=>Db (b:=!gb) Aa (Bool.not_eq_eq_eq_not.1 cd) (A3 (AT (Al (wv (AZ (i:=7) E5 Dl Aa Aa Aa Aa) (ob ce λhE cf cg=>CV (Hr:=[.fact (.slice (some ⟨hp,0,none⟩) 1 1) (AU 1 (Ax eS ([([101,49]:An)]:List An))),.blk hl [rB ha.2.fMade,rv hh,rv (.map (some he)),rv (.map (some hf)),rv hi] 59,.row hh 9 1 (Ax eS ha.2.fEvents),.map he (A8 Aj ha.2.fResults),.map hf (A8 Ad ha.2.fKeys),.row hi 67 8 (Ax Ae ha.2.fPending),.blk hj [rS ([101,49]:An),rS ([116]:An),As 1,AU 4 (Ax Ab r1),rv (.slice (some ⟨hb,0,none⟩) 2 2),As 5] 34]) Tryz.call25 (QV F (.slice (some ⟨hb,0,none⟩) 2 2) (AP.mk ([101,49]:An) ([116]:An) 1 r1 ([(Am.mk 1 ([107]:An) r4 0),(Am.mk 3 ([115]:An) r7 0)]:List Am) 5) hE cf) Aa ((Ak (i:=6) Aa).trans (Zo _ (Zp _))) Aa ?_)))))))))))));rintro _ _ ⟨rfl,rfl⟩;refine wm Aa (wv (A4 Aa Aa) (wv (A4 Aa Aa) (wa Aa (wa Aa (Bk (ob cg λhw ch ci=>Di Tryz.call29 (Gc F ([101,49,46,49]:An) hw ch) Aa (wm Aa (wv (A4 Aa Aa) (wv (A4 Aa Aa) (wa Aa (wa Aa (Bk (ob ci λgl cj cl=>CV (Hr:=[.row (.slice (some ⟨hb,0,none⟩) 2 2) 65 4 (Ax Ai ([(Am.mk 1 ([107]:An) r4 0),(Am.mk 3 ([115]:An) r7 0)]:List Am)),.fact (.slice (some ⟨hp,0,none⟩) 1 1) (AU 1 (Ax eS ([([101,49]:An)]:List An))),.blk hl [rB ha.2.fMade,rv hh,rv (.map (some he)),rv (.map (some hf)),rv hi] 59,.row hh 9 1 (Ax eS ha.2.fEvents),.map he (A8 Aj ha.2.fResults),.map hf (A8 Ad ha.2.fKeys),.row hi 67 8 (Ax Ae ha.2.fPending),.blk hj [rS ([101,49]:An),rS ([116]:An),As 1,AU 4 (Ax Ab r1),rv (.slice (some ⟨hb,0,none⟩) 2 2),As 5] 34]) Tryz.call9 (UG gl cj) Aa (Zp _) Aa ?_)))))))))))));rintro _ _ ⟨hq,cm,hn,ho,cn,rfl,rfl⟩;refine wa Aa (Au (Aq (Al (wm Aa (wv (Cr Aa Aa) (wm Aa (ck cl λgc co=>AJ (b:=!decide (hE.2=0)) Aa Aa (Bool.not_eq_eq_eq_not.1 gc) (wm Aa (AJ (b:=!decide (hE.2=0)) Aa Aa (Bool.not_eq_eq_eq_not.1 gc) (wv (Cr Aa Aa) (wv (r:=rB (!decide (hw.2=0))) (AF (b:=!decide (hE.2=0)) Aa (Bool.not_eq_eq_eq_not.1 gc) Aa) (wm Aa (ck co λhI cp=>AJ (b:=!decide (hw.2=0)) Aa Aa (Bool.not_eq_eq_eq_not.1 hI) (wm Aa (AJ (b:=!decide (hw.2=0)) Aa Aa (Bool.not_eq_eq_eq_not.1 hI) (wm Aa (AJ (b:=!decide (hw.2=0)) Aa Aa (Bool.not_eq_eq_eq_not.1 hI) (ob cp λhx cq cr=>CV (Hr:=[.row (.slice (some ⟨hb,0,none⟩) 2 2) 65 4 (Ax Ai ([(Am.mk 1 ([107]:An) r4 0),(Am.mk 3 ([115]:An) r7 0)]:List Am)),.fact (.slice (some ⟨hp,0,none⟩) 1 1) (AU 1 (Ax eS ([([101,49]:An)]:List An))),.blk hl [rB ha.2.fMade,rv hh,rv (.map (some he)),rv (.map (some hf)),rv hi] 59,.row hh 9 1 (Ax eS ha.2.fEvents),.map he (A8 Aj ha.2.fResults),.map hf (A8 Ad ha.2.fKeys),.row hi 67 8 (Ax Ae ha.2.fPending),.blk hj [rS ([101,49]:An),rS ([116]:An),As 1,AU 4 (Ax Ab r1),rv (.slice (some ⟨hb,0,none⟩) 2 2),As 5] 34]) Nt (LZ F hq cm hn ho cn gl hE.1 hx cq) Aa (Zp _) Aa ?_))))))))))))))))));rintro _ _ ⟨ct,v127,rfl,rfl⟩;refine AJ (b:=!decide (hw.2=0)) Aa Aa (Bool.not_eq_eq_eq_not.1 hI) (wv (Cr Aa Aa) (wv (r:=rB (!decide (hx.1=0))) (AF (b:=!decide (hw.2=0)) Aa (Bool.not_eq_eq_eq_not.1 hI) Aa) (wm Aa (ck cr λhJ cu=>AJ (b:=!decide (hx.1=0)) Aa Aa (Bool.not_eq_eq_eq_not.1 hJ) (wm Aa (AJ (b:=!decide (hx.1=0)) Aa Aa (Bool.not_eq_eq_eq_not.1 hJ) (wm Aa (AJ (b:=!decide (hx.1=0)) Aa Aa (Bool.not_eq_eq_eq_not.1 hJ) (ob cu λhy cv cw=>CV (Hr:=[.row (.slice (some ⟨hb,0,none⟩) 2 2) 65 4 (Ax Ai ([(Am.mk 1 ([107]:An) r4 0),(Am.mk 3 ([115]:An) r7 0)]:List Am)),.fact (.slice (some ⟨hp,0,none⟩) 1 1) (AU 1 (Ax eS ([([101,49]:An)]:List An))),.blk hl [rB ha.2.fMade,rv hh,rv (.map (some he)),rv (.map (some hf)),rv hi] 59,.row hh 9 1 (Ax eS ha.2.fEvents),.map he (A8 Aj ha.2.fResults),.map hf (A8 Ad ha.2.fKeys),.row hi 67 8 (Ax Ae ha.2.fPending),.blk hj [rS ([101,49]:An),rS ([116]:An),As 1,AU 4 (Ax Ab r1),rv (.slice (some ⟨hb,0,none⟩) 2 2),As 5] 34]) Nt (LZ F hq ct hn ho v127 hx.2 hw.1 hy cv) Aa (Zp _) Aa ?_)))))))));rintro _ _ ⟨cx,cy,rfl,rfl⟩;refine AJ (b:=!decide (hx.1=0)) Aa Aa (Bool.not_eq_eq_eq_not.1 hJ) (wv (Cr Aa Aa) (wv (r:=rB (!decide (hy.1=0))) (AF (b:=!decide (hx.1=0)) Aa (Bool.not_eq_eq_eq_not.1 hJ) Aa) (wm Aa (ck cw λhK cz=>AJ (b:=!decide (hy.1=0)) Aa Aa (Bool.not_eq_eq_eq_not.1 hK) (wm Aa (AJ (b:=!decide (hy.1=0)) Aa Aa (Bool.not_eq_eq_eq_not.1 hK) (wm Aa (AJ (b:=!decide (hy.1=0)) Aa Aa (Bool.not_eq_eq_eq_not.1 hK) (ob cz λh4 c0 c1=>CV (Hr:=[.row (.slice (some ⟨hb,0,none⟩) 2 2) 65 4 (Ax Ai ([(Am.mk 1 ([107]:An) r4 0),(Am.mk 3 ([115]:An) r7 0)]:List Am)),.fact (.slice (some ⟨hp,0,none⟩) 1 1) (AU 1 (Ax eS ([([101,49]:An)]:List An))),.blk hl [rB ha.2.fMade,rv hh,rv (.map (some he)),rv (.map (some hf)),rv hi] 59,.row hh 9 1 (Ax eS ha.2.fEvents),.map he (A8 Aj ha.2.fResults),.map hf (A8 Ad ha.2.fKeys),.row hi 67 8 (Ax Ae ha.2.fPending),.blk hj [rS ([101,49]:An),rS ([116]:An),As 1,AU 4 (Ax Ab r1),rv (.slice (some ⟨hb,0,none⟩) 2 2),As 5] 34]) Nt (LZ F hq cx hn ho cy hy.2 hE.1 h4 c0) Aa (Zp _) Aa ?_)))))))));rintro _ _ ⟨c2,c3,rfl,rfl⟩;refine AJ (b:=!decide (hy.1=0)) Aa Aa (Bool.not_eq_eq_eq_not.1 hK) (wv (Cr Aa Aa) (wv (r:=rB (!decide (h4.1=0))) (AF (b:=!decide (hy.1=0)) Aa (Bool.not_eq_eq_eq_not.1 hK) Aa) (wm Aa (ck c1 λhW c4=>AJ (b:=!decide (h4.1=0)) Aa Aa (Bool.not_eq_eq_eq_not.1 hW) (wm Aa (AJ (b:=!decide (h4.1=0)) Aa Aa (Bool.not_eq_eq_eq_not.1 hW) (ob c4 λhg c6 c7=>CV (Hr:=[.row (.slice (some ⟨hb,0,none⟩) 2 2) 65 4 (Ax Ai ([(Am.mk 1 ([107]:An) r4 0),(Am.mk 3 ([115]:An) r7 0)]:List Am)),.fact (.slice (some ⟨hp,0,none⟩) 1 1) (AU 1 (Ax eS ([([101,49]:An)]:List An))),.blk hl [rB ha.2.fMade,rv hh,rv (.map (some he)),rv (.map (some hf)),rv hi] 59,.row hh 9 1 (Ax eS ha.2.fEvents),.map he (A8 Aj ha.2.fResults),.map hf (A8 Ad ha.2.fKeys),.row hi 67 8 (Ax Ae ha.2.fPending),.blk hj [rS ([101,49]:An),rS ([116]:An),As 1,AU 4 (Ax Ab r1),rv (.slice (some ⟨hb,0,none⟩) 2 2),As 5] 34]) Nt (LZ F hq c2 hn ho c3 h4.2 ([120]:An) hg c6) Aa (Zp _) Aa ?_)))))));rintro _ _ ⟨hr,hs,rfl,rfl⟩;refine AJ (b:=!decide (h4.1=0)) Aa Aa (Bool.not_eq_eq_eq_not.1 hW) (wv (Cr Aa Aa) (wv (r:=rB (!decide (hg.1=13))) (AF (b:=!decide (h4.1=0)) Aa (Bool.not_eq_eq_eq_not.1 hW) Aa) (wm Aa (ck c7 λhL c8=>AJ (b:=!decide (hg.1=13)) Aa Aa (Bool.not_eq_eq_eq_not.1 hL) (wm Aa (AJ (b:=!decide (hg.1=13)) Aa Aa (Bool.not_eq_eq_eq_not.1 hL) (ob c8 λhz c9 cA=>CV (Hr:=[.row (.slice (some ⟨hb,0,none⟩) 2 2) 65 4 (Ax Ai ([(Am.mk 1 ([107]:An) r4 0),(Am.mk 3 ([115]:An) r7 0)]:List Am)),.fact (.slice (some ⟨hp,0,none⟩) 1 1) (AU 1 (Ax eS ([([101,49]:An)]:List An))),.blk hl [rB ha.2.fMade,rv hh,rv (.map (some he)),rv (.map (some hf)),rv hi] 59,.row hh 9 1 (Ax eS ha.2.fEvents),.map he (A8 Aj ha.2.fResults),.map hf (A8 Ad ha.2.fKeys),.row hi 67 8 (Ax Ae ha.2.fPending),.blk hj [rS ([101,49]:An),rS ([116]:An),As 1,AU 4 (Ax Ab r1),rv (.slice (some ⟨hb,0,none⟩) 2 2),As 5] 34]) QB (JO F hq hr hn ho hs hg.2 hz c9) Aa (Zp _) Aa ?_)))))));rintro _ _ ⟨rfl,rfl⟩;refine AJ (b:=!decide (hg.1=13)) Aa Aa (Bool.not_eq_eq_eq_not.1 hL) (wv (Bt (ys:=hz) (enc:=Ae) DK Aa) (AJ (b:=!decide (hg.1=13)) Aa Aa (Bool.not_eq_eq_eq_not.1 hL) (wv (Cr Aa Aa) (wv (r:=rB (!decide ((hz.length:Int)=0))) (AF (b:=!decide (hg.1=13)) Aa (Bool.not_eq_eq_eq_not.1 hL) Aa) (wm Aa (ck cA λhN cB=>AJ (b:=!decide ((hz.length:Int)=0)) Aa Aa (Bool.not_eq_eq_eq_not.1 hN) (wm Aa (AJ (b:=!decide ((hz.length:Int)=0)) Aa Aa (Bool.not_eq_eq_eq_not.1 hN) (ob cB λhX cC cD=>CV (Hr:=[.row (.slice (some ⟨hb,0,none⟩) 2 2) 65 4 (Ax Ai ([(Am.mk 1 ([107]:An) r4 0),(Am.mk 3 ([115]:An) r7 0)]:List Am)),.fact (.slice (some ⟨hp,0,none⟩) 1 1) (AU 1 (Ax eS ([([101,49]:An)]:List An))),.blk hl [rB ha.2.fMade,rv hh,rv (.map (some he)),rv (.map (some hf)),rv hi] 59,.row hh 9 1 (Ax eS ha.2.fEvents),.map he (A8 Aj ha.2.fResults),.map hf (A8 Ad ha.2.fKeys),.row hi 67 8 (Ax Ae ha.2.fPending),.blk hj [rS ([101,49]:An),rS ([116]:An),As 1,AU 4 (Ax Ab r1),rv (.slice (some ⟨hb,0,none⟩) 2 2),As 5] 34]) TQ (MN F hq hr hn ho hs hg.2 ([116]:An) hX cC) Aa (Zp _) Aa ?_)))))))));rintro _ _ ⟨rfl,rfl⟩;refine AJ (b:=!decide ((hz.length:Int)=0)) Aa Aa (Bool.not_eq_eq_eq_not.1 hN) (wv (Bt (ys:=hX) (enc:=BE) Ow Aa) (AJ (b:=!decide ((hz.length:Int)=0)) Aa Aa (Bool.not_eq_eq_eq_not.1 hN) (wv (Cr Aa Aa) (wv (r:=rB (!decide ((hX.length:Int)=1))) (AF (b:=!decide ((hz.length:Int)=0)) Aa (Bool.not_eq_eq_eq_not.1 hN) Aa) (Au (ck cD λcE cF=>Db (b:=!decide ((hX.length:Int)=1)) Aa (Bool.not_eq_eq_eq_not.1 cE) (A3 (AT (Al (vF Cm Aa Iw (vL 12 KL Aa (ck cF λgd cG=>wv (r:=rv (DN 4 (.slice (some ⟨hb,0,none⟩) 2 2) (Bi 1) 0)) (DC (i:=5) EY CY Aa Aa Aa (B6 gd)) (wv (r:=rv (DN 4 (.slice (some ⟨hb,0,none⟩) 2 2) (Bi 1) 1)) (DZ (k:=5) CI Aa Cs Aa (B6 gd) Aa Aa Aa) (HA (enc:=Ai) (ys:=([(Am.mk 1 ([107]:An) r4 0),(Am.mk 3 ([115]:An) r7 0)]:List Am)) (y':=(Am.mk ((Ap ([(Am.mk 1 ([107]:An) r4 0),(Am.mk 3 ([115]:An) r7 0)]:List Am) 1).fKind) ([83]:An) ((Ap ([(Am.mk 1 ([107]:An) r4 0),(Am.mk 3 ([115]:An) r7 0)]:List Am) 1).fValue) ((Ap ([(Am.mk 1 ([107]:An) r4 0),(Am.mk 3 ([115]:An) r7 0)]:List Am) 1).fDelay))) (i:=5) (j:=1) Cs Aa Aa (Bw Aa) Aa gd Aa Aa (H':=[.blk hq [rB hg.2.fMade,rv hr,rv (.map (some hn)),rv (.map (some ho)),rv hs] 59,.row hr 9 1 (Ax eS hg.2.fEvents),.map hn (A8 Aj hg.2.fResults),.map ho (A8 Ad hg.2.fKeys),.row hs 67 8 (Ax Ae hg.2.fPending),.row (.slice (some ⟨hb,0,none⟩) 2 2) 65 4 (Ax Ai (List.set ([(Am.mk 1 ([107]:An) r4 0),(Am.mk 3 ([115]:An) r7 0)]:List Am) (Bi 1) (Am.mk ((Ap ([(Am.mk 1 ([107]:An) r4 0),(Am.mk 3 ([115]:An) r7 0)]:List Am) 1).fKind) ([83]:An) ((Ap ([(Am.mk 1 ([107]:An) r4 0),(Am.mk 3 ([115]:An) r7 0)]:List Am) 1).fValue) ((Ap ([(Am.mk 1 ([107]:An) r4 0),(Am.mk 3 ([115]:An) r7 0)]:List Am) 1).fDelay)))),.fact (.slice (some ⟨hp,0,none⟩) 1 1) (AU 1 (Ax eS ([([101,49]:An)]:List An))),.blk hl [rB ha.2.fMade,rv hh,rv (.map (some he)),rv (.map (some hf)),rv hi] 59,.row hh 9 1 (Ax eS ha.2.fEvents),.map he (A8 Aj ha.2.fResults),.map hf (A8 Ad ha.2.fKeys),.row hi 67 8 (Ax Ae ha.2.fPending),.blk hj [rS ([101,49]:An),rS ([116]:An),As 1,AU 4 (Ax Ab r1),rv (.slice (some ⟨hb,0,none⟩) 2 2),As 5] 34]) Aa (bd cG λge cH cI=>?_)))))))))))))));rw[← cH];refine Bk (wa Aa (Bk (wm Aa (wv (AZ (i:=12) E5 Dl Aa Aa Aa Aa) (ob cI λcJ cK cL=>CV (Hr:=[.blk hq [rB hg.2.fMade,rv hr,rv (.map (some hn)),rv (.map (some ho)),rv hs] 59,.row hr 9 1 (Ax eS hg.2.fEvents),.map hn (A8 Aj hg.2.fResults),.map ho (A8 Ad hg.2.fKeys),.row hs 67 8 (Ax Ae hg.2.fPending),.fact (.slice (some ⟨hp,0,none⟩) 1 1) (AU 1 (Ax eS ([([101,49]:An)]:List An))),.blk hl [rB ha.2.fMade,rv hh,rv (.map (some he)),rv (.map (some hf)),rv hi] 59,.row hh 9 1 (Ax eS ha.2.fEvents),.map he (A8 Aj ha.2.fResults),.map hf (A8 Ad ha.2.fKeys),.row hi 67 8 (Ax Ae ha.2.fPending),.blk hj [rS ([101,49]:An),rS ([116]:An),As 1,AU 4 (Ax Ab r1),rv (.slice (some ⟨hb,0,none⟩) 2 2),As 5] 34]) S7 (N7 (.slice (some ⟨hb,0,none⟩) 2 2) (AP.mk ([101,49]:An) ([116]:An) 1 r1 ge 5) cJ cK) Aa ((Ak (i:=5) Aa).trans (Zo _ (Zp _))) Aa ?_)))));rintro _ _ ⟨rfl,rfl⟩;refine wm Aa (wv (A4 Aa Aa) (wv (A4 Aa Aa) (wa Aa (Bk (wm Aa (wv (BN Aa Aa) (wm Aa (ck cL λhY cM=>wo hY (wv (AZ (i:=12) E5 Dl Aa Aa Aa Aa) (wo hY (ob cM λcN cO cP=>CV (Hr:=[.blk hq [rB hg.2.fMade,rv hr,rv (.map (some hn)),rv (.map (some ho)),rv hs] 59,.row hr 9 1 (Ax eS hg.2.fEvents),.map hn (A8 Aj hg.2.fResults),.map ho (A8 Ad hg.2.fKeys),.row hs 67 8 (Ax Ae hg.2.fPending),.fact (.slice (some ⟨hp,0,none⟩) 1 1) (AU 1 (Ax eS ([([101,49]:An)]:List An))),.blk hl [rB ha.2.fMade,rv hh,rv (.map (some he)),rv (.map (some hf)),rv hi] 59,.row hh 9 1 (Ax eS ha.2.fEvents),.map he (A8 Aj ha.2.fResults),.map hf (A8 Ad ha.2.fKeys),.row hi 67 8 (Ax Ae ha.2.fPending),.blk hj [rS ([101,49]:An),rS ([116]:An),As 1,AU 4 (Ax Ab r1),rv (.slice (some ⟨hb,0,none⟩) 2 2),As 5] 34]) TP (KY F (.slice (some ⟨hb,0,none⟩) 2 2) (AP.mk ([101,49]:An) ([116]:An) 1 r1 ge 5) cN cO) Aa (Zp _) Aa ?_)))))))))));rintro _ _ ⟨rfl,rfl⟩;refine wo hY (wv (BN Aa Aa) (JF Aa hY Aa (wm Aa (ck cP λhO cQ=>wo hO (wm Aa (wo hO (ob cQ λgm cR cS=>CV (Hr:=[.row (.slice (some ⟨hb,0,none⟩) 2 2) 65 4 (Ax Ai ge),.blk hq [rB hg.2.fMade,rv hr,rv (.map (some hn)),rv (.map (some ho)),rv hs] 59,.row hr 9 1 (Ax eS hg.2.fEvents),.map hn (A8 Aj hg.2.fResults),.map ho (A8 Ad hg.2.fKeys),.row hs 67 8 (Ax Ae hg.2.fPending),.fact (.slice (some ⟨hp,0,none⟩) 1 1) (AU 1 (Ax eS ([([101,49]:An)]:List An))),.blk hj [rS ([101,49]:An),rS ([116]:An),As 1,AU 4 (Ax Ab r1),rv (.slice (some ⟨hb,0,none⟩) 2 2),As 5] 34]) TQ (MN F hl hh he hf hi ha.2 ([117]:An) gm cR) Aa ((Ak (i:=7) Aa).trans (Zo _ ((Ak (i:=7) Aa).trans (Zo _ ((Ak (i:=7) Aa).trans (Zo _ ((Ak (i:=7) Aa).trans (Zo _ ((Ak (i:=7) Aa).trans (Zo _ (Zp _))))))))))) Aa ?_)))))));rintro _ _ ⟨rfl,rfl⟩;refine wo hO (wv (Bt (ys:=gm) (enc:=BE) Ow Aa) (wo hO (wv (BN Aa Aa) (JF Aa hO Aa (wa Aa (Au (A0 ?_)))))));obtain rfl:=A1 cS;exact Az (BW Tryz.results8 (AI Aa)) (sS (sS (sS (sS (sS (sS (sS (sS (sS (sS (sS (sS (sS sN))))))))))))) ⟨Aa,Aa⟩
theorem Va (F:Nat)(x:Cd)(tenant:An)(r:Bool)(h:MV F x tenant=some r):Fn Tryz.prog GE 5 [B9 (BO x),rS tenant] [] (λR H=>R=rB r∧H=[]):=by
 refine enter (n:=92) Tryz.func5 Aa Tryz.ntmps5 Aa (λw Z=>?_);unfold MV at h;refine Al (BX Aa Aa (λb1=>?_));refine wa Aa (Bk (wa Aa (Bk (wv (r:=B9 [rB false,rv (.slice none 0 0),rv (.map none),rv (.map none),rv (.slice none 0 0)]) (QR ) (BX Aa Aa (λb2=>?_))))));refine wa Aa (Bk (wm Aa (wv (AZ (i:=1) Tryz.isAgg36 Tryz.sizeOf36 Aa Aa Aa Aa) (ob h λr3 e5 h4=>Di Tryz.call11 (Re F x r3 e5) Aa (wm Aa (wv (A4 Aa Aa) (wv (A4 Aa Aa) (wa Aa (wa Aa (Bk (wm Aa (wv (AZ (i:=1) Tryz.isAgg36 Tryz.sizeOf36 Aa Aa Aa Aa) (ob h4 λr6 e8 h7=>CV (Hr:=[.blk b1 (BO x) 36]) Tryz.call11 (Qd F b2 x r6 e8) Aa (Zp _) Aa ?_)))))))))))));rintro _ _ ⟨rfl,rfl⟩;refine wm Aa (wv (A4 Aa Aa) (wv (A4 Aa Aa) (wa Aa (wa Aa (Bk (wm Aa (vF EX Aa Dl (vF Cm Aa Cs (vL 1 C7 Aa (ob h7 λr9 hr hs=>Di Tryz.call13 (OL x.fC.fEvent r9 hr) Aa (wm Aa (wv (A4 Aa Aa) (wv (A4 Aa Aa) (wa Aa (wa Aa (Bk (wm Aa (vF EX Aa Dl (vF Cm Aa Cs (vL 1 C7 Aa (ob hs λhi ht hu=>CV (Hr:=[.blk b1 (BO x) 36]) Tryz.call13 (N2 b2 x.fC.fEvent hi ht) Aa (Zp _) Aa ?_)))))))))))))))))))));rintro _ _ ⟨rfl,rfl⟩;refine wm Aa (wv (A4 Aa Aa) (wv (A4 Aa Aa) (wa Aa (wa Aa (Au (Aq (AR [(1,rS tenant),(5,rv (.pointer none)),(6,rP b2 0),(62,rB (r3.1||(r6.1||(r9.2||(hi.2||((!decide (r3.2=10))||(!decide (r6.2=10))))))))] [.blk b2 [rB false,rv (.slice none 0 0),rv (.map none),rv (.map none),rv (.slice none 0 0)] 59] ?_ ?_)))))))
 ·refine At (wm Aa (wm Aa (AX (r3.1) (λha=>?_) (λha=>?_))))
  ·refine wf ha (wv (r:=rB true) (AA Aa ha Aa) (wm Aa (wz Aa Aa (wv (r:=rB true) (AA (b:=true) Aa Aa Aa) (wm Aa (wz Aa Aa (wv (r:=rB true) (AA (b:=true) Aa Aa Aa) (wm Aa (wz Aa Aa (wz Aa Aa (wv (r:=rB true) (AA (b:=true) Aa Aa Aa) (wm Aa (wz Aa Aa (wz Aa Aa (wv (r:=rB true) (AA (b:=true) Aa Aa Aa) (Av ?_))))))))))))))));exact CF ha
  ·refine wo ha (wm Aa (Hc Aa ha Aa (wm Aa (AX (r6.1) (λhb=>?_) (λhb=>?_)))))
   ·refine wf hb (wv (r:=rB true) (AA Aa hb Aa) (wm Aa (wz Aa Aa (wv (r:=rB true) (AA (b:=true) Aa Aa Aa) (wm Aa (wz Aa Aa (wz Aa Aa (wv (r:=rB true) (AA (b:=true) Aa Aa Aa) (wm Aa (wz Aa Aa (wz Aa Aa (wv (r:=rB true) (AA (b:=true) Aa Aa Aa) (Av ?_)))))))))))));exact CF (And.intro ha hb)
   ·refine wo hb (wm Aa (Hc Aa hb Aa (wm Aa (AX (r9.2) (λhe=>?_) (λhe=>?_)))))
    ·refine wf he (wv (r:=rB true) (AA Aa he Aa) (wm Aa (wz Aa Aa (wz Aa Aa (wv (r:=rB true) (AA (b:=true) Aa Aa Aa) (wm Aa (wz Aa Aa (wz Aa Aa (wv (r:=rB true) (AA (b:=true) Aa Aa Aa) (Av ?_))))))))));exact CF (And.intro ha (And.intro hb he))
    ·refine wo he (wm Aa (Hc Aa he Aa (wm Aa (AX (hi.2) (λhd=>?_) (λhd=>?_)))))
     ·refine wf hd (wf hd (wv (r:=rB true) (AA Aa hd Aa) (wm Aa (wz Aa Aa (wz Aa Aa (wv (r:=rB true) (AA (b:=true) Aa Aa Aa) (Av ?_)))))));exact CF (And.intro ha (And.intro hb (And.intro he hd)))
     ·refine wo hd (wm Aa (wo hd (wv (Cr Aa Aa) (Hc Aa hd Aa (wm Aa (AX (!decide (r3.2=10)) (λhf=>?_) (λhf=>?_)))))))
      ·refine wf hf (wf hf (wv (r:=rB true) (AA Aa hf Aa) (Av ?_)));exact CF (And.intro ha (And.intro hb (And.intro he (And.intro hd hf))))
      ·refine wo hf (wm Aa (wo hf (wv (Cr Aa Aa) (Hc Aa hf Aa (Av ?_)))));exact CF (And.intro ha (And.intro hb (And.intro he (And.intro hd hf))))
 refine cz hu Aa (λc20 hw=>?_) (λc20 hx=>?_)
 ·refine Al (wa Aa (Au (A0 (Af ?_))));obtain rfl:=A1 hw;exact Az (BW Tryz.results5 (AI Aa)) (sS sN) ⟨Aa,Aa⟩
 ·refine A3 (AT (C8 (S:=(Bool)×(Unit)) (λσ=>Hv σ.1=some r) (λσ=>[(4,rB σ.1)]) (λσ=>[]) ?_ ?_))
  ·refine At (wm Aa (ob hx λhj hy hz=>Di QB (J6 hj hy) Aa (wv (Bt (ys:=hj) (enc:=Ae) DK Aa) (wm Aa (ob hz λhk h0 h1=>CV (Hr:=[]) QB (I9 b2 hk h0) Aa (Zp _) Aa ?_)))));rintro _ _ ⟨rfl,rfl⟩;refine wv (Bt (ys:=hk) (enc:=Ae) DK Aa) (ck h1 λh2 h3=>wv (BJ Aa Aa h2) (wm Aa (ob h3 λhl h5 h6=>Di Tryz.call17 (OR hl h5) Aa (wv (Bt (ys:=hl) (enc:=eS) Ct Aa) (ck h6 λh8 h9=>wv (BJ Aa Aa h8) (wm Aa (ob h9 λhm hA hB=>CV (Hr:=[]) Tryz.call17 (N4 b2 hm hA) Aa (Zp _) Aa ?_)))))));rintro _ _ ⟨rfl,rfl⟩;refine wv (Bt (ys:=hm) (enc:=eS) Ct Aa) (ck hB λhC hD=>wv (BJ Aa Aa hC) (wm Aa (wm Aa (ob hD λhn hE hG=>Di TQ (PT tenant hn hE) Aa (wv (Bt (ys:=hn) (enc:=BE) Ow Aa) (ck hG λhH hI=>wv (BJ Aa Aa hH) (wm Aa (wm Aa (ob hI λho hJ hK=>CV (Hr:=[]) TQ (OQ b2 tenant ho hJ) Aa (Zp _) Aa ?_)))))))));rintro _ _ ⟨rfl,rfl⟩;refine wv (Bt (ys:=ho) (enc:=BE) Ow Aa) (ck hK λhL hN=>wv (BJ Aa Aa hL) (wv (BN Aa Aa) (wm Aa (bz hN (λhg hO=>?_) (λhg hP=>?_)))))
   ·exact wo hg (ob hO λhp hQ hR=>Di Tryz.call8 (Rf F hp hQ) Aa (JF Aa hg Aa (wa Aa (Av (A5 (AK (hp,()) hR (AL.c Aa AL.nil) (sS sN)))))))
   ·exact wf hg (wv (r:=rB false) (AF Aa hg Aa) (wa Aa (Av (A5 (AK (false,()) hP (AL.c Aa AL.nil) (sS sN))))))
  ·rintro⟨hq,⟨⟩⟩ hh;refine Cf (l':=[(4,rB hq)]) (H':=[]) Aa Aa ?_;replace hh:Hv hq=some r:=hh;unfold Hv at hh;refine A0 ?_;obtain rfl:=A1 hh;exact Az (BW Tryz.results5 (AI Aa)) sN ⟨Aa,Aa⟩
end Go.Proofs.YtfobhhegpkinaaaGreatDoor.Q
namespace Go.Proofs.YtfobhhegpkinaaaGreatDoor.lawOutboxNone
open Go
set_option linter.unusedVariables false
def U3 (y:Ac):Bool:=(BS .i64) y.fKind&&(BS .i64) y.fInt&&Kv y.fStr&&(BS .i64) y.fN
def Ws (y:Am):Bool:=(BS .i64) y.fKind&&Kv y.fKey&&(λys:(List Ac)=>ys.all U3&&decide (ys.length≤1048576)) y.fValue&&(BS .i64) y.fDelay
def Xw (y:AP):Bool:=Kv y.fEvent&&Kv y.fTenant&&(BS .i64) y.fAttempt&&(λys:(List Ac)=>ys.all U3&&decide (ys.length≤1048576)) y.fResult&&(λys:(List Am)=>ys.all Ws&&decide (ys.length≤1048576)) y.fEffects&&(BS .i64) y.fAt
def Xv (y:Cd):Bool:=(BS .i64) y.fKind&&Xw y.fC&&Kv y.fS&&(BS .i64) y.fN
def Zl:Prop:=∀(y0:Cd) (y1:An) (o0:Xv y0=true) (o1:Kv y1=true),∃F,MV F y0 y1=some true
end Go.Proofs.YtfobhhegpkinaaaGreatDoor.lawOutboxNone
namespace Go.Proofs.YtfobhhegpkinaaaGreatDoor
open Go
set_option linter.unusedVariables false
set_option linter.unusedSimpArgs false
def VE (c:UInt8):Bool:=decide (32≤c.toNat)&&decide (c.toNat≤126)
theorem Mg {s:An}{x:Int}{c:UInt8}(h:s[x.toNat]? =some c):Bu s x=(c.toNat:Int):=by simp[Bu,h]
theorem Nw {α:Type}{p:α→Bool}{s:List α}{k:Nat}{c:α}(h:s[k]? =some c):(s.take (k+1)).all p=((s.take k).all p&&p c):=by
 rw[List.take_add_one,h];simp
theorem Pm {α:Type}{p:α→Bool}{s:List α}{k:Nat}{c:α}(h:s[k]? =some c)(hp:p c=false):s.all p=false:=by
 rw[List.all_eq_false];exact⟨c,Z4 h,by simp[hp]⟩
theorem P6 {F:Nat}{s:An}(hF:s.length<F)(hs:s.length≤9223372036854775807):Kc F s=some (s.all VE):=by
 obtain⟨o,h1,h2⟩:=Ma (body:=λσ=>Hi s σ) (λx=>0≤x∧x≤(s.length:Int)∧(s.take x.toNat).all VE=true) (λx=>s.length-x.toNat)
  (λo=>Ch (λ_=>Hh) o=some (s.all VE)) (λx ⟨h0,hl,ha⟩=>by
   unfold Hi
   by_cases hx:x<(s.length:Int)
   ·obtain⟨c,hc⟩:∃c,s[x.toNat]? =some c:=⟨s[x.toNat]'(by omega),Zt (by omega)⟩
    rw[Bx (by simpa using hx),Cc h0 hx,Mg hc]
    cases ho:VE c with
    | false=>
     refine .inr ⟨.ret false,?_,?_⟩
     ·rw[Bx];simp only[VE,Bool.and_eq_false_iff,Zq] at ho;simp only[ZX,Zr];omega
     ·simp[Ch,Pm hc ho]
    | true=>
     refine .inl ⟨x+1,?_,⟨by omega,by omega,?_⟩,by omega⟩
     ·rw[Bo,Br (by omega) (by omega)];simp only[VE,Zu,Zr] at ho;simp only[Aab,Zq];omega
     ·rw[show(x+1).toNat=x.toNat+1 from by omega,Nw hc,ha,ho];rfl
   ·refine .inr ⟨.go (),by rw[Bo (by simpa using hx)],?_⟩;rw[show x.toNat=s.length from by omega,List.take_length] at ha;simp[Ch,Hh,ha]) F 0 ⟨by omega,by omega,by simp⟩ (by simpa using hF)
 unfold Kc;rw[Ca h1,h2]
theorem O8 (F:Nat)(s:An):O9 F s=Kc F s:=rfl
theorem SN {F:Nat}{s:An}(hF:s.length<F)(hs:s.length≤9223372036854775807):O9 F s=some (s.all VE):=by rw[O8];exact P6 hF hs
def pl (c:Ac):Bool:=
 bif decide (c.fKind=1) then(decide (c.fInt=0)&&(decide (c.fStr=[])&&decide (c.fN=0))) else
 bif decide (c.fKind=2) then((decide (c.fInt=0)||decide (c.fInt=1))&&(decide (c.fStr=[])&&decide (c.fN=0))) else
 bif decide (c.fKind=3) then(decide (c.fStr=[])&&decide (c.fN=0)) else
 bif decide (c.fKind=4) then(decide (c.fInt=0)&&(decide (c.fN=0)&&c.fStr.all VE)) else
 bif decide (c.fKind=5) then(decide (c.fInt=0)&&(decide (c.fStr=[])&&decide (0≤c.fN))) else
 bif decide (c.fKind=6) then(decide (c.fInt=0)&&(decide (c.fStr=[])&&decide (0≤c.fN))) else false
theorem DR {α:Type}{p:Bool}{x y:Option α}{a b:α}(h:x=some a)(h':y=some b):B0 p x y=some (bif p then a else b):=by cases p<;>simp[B0,h,h']
theorem SD {F:Nat}{c:Ac}(hF:c.fStr.length<F)(hs:c.fStr.length≤9223372036854775807):M4 F c=some (pl c):=by
 unfold M4 pl;rw[P6 hF hs];refine DR rfl (DR ?_ (DR rfl (DR ?_ (DR rfl (DR rfl rfl)))))
 ·cases h:decide (c.fInt=0)<;>simp
 ·simp[imp,Bc,ov]
def L7:List AE→List AE
 | []=>[]
 | e::S=>bif decide (1<e.fLeft) then⟨e.fPairs,e.fLeft-1,e.fPairs,e.fLast,e.fStarted⟩::S else L7 S
theorem Mi {α:Type}[Inhabited α](xs:List α)(e:α):Ap (xs++[e]) (xs.length:Int)=e:=by simp[Ap]
theorem Km {α:Type}(xs:List α)(e e':α):List.set (xs++[e]) (Int.toNat (xs.length:Int)) e'=xs++[e']:=by simp
theorem K9 {α:Type}(xs:List α)(e:α):((xs++[e]).length:Int)-1=(xs.length:Int):=by simp
theorem SH {α:Type}(xs:List α)(e:α):List.take (Int.toNat (xs.length:Int)) (xs++[e])=xs:=by simp
theorem Lt:∀(S:List AE) (F:Nat),S.length<F→(∀e∈S,1≤e.fLeft∧e.fLeft≤9223372036854775807)→S.length≤4611686018427387904→
  ∃o,Cz (λσ=>DA σ) F S.reverse=some o∧Ch (λν=>DX ν) o=some (L7 S).reverse
 | [],F+1,_,_,_=>⟨.go [],by simp[Cz,DA,B0],by simp[Ch,DX,L7]⟩
 | e::S,F+1,hF,hb,hl=>by
  obtain⟨h1,h2⟩:=hb e (by simp);simp only[Z5] at hF hl;have hx:S.reverse.length=S.length:=by simp
  generalize hxs:S.reverse=xs at hx;have hr:(e::S).reverse=xs++[e]:=by simp[hxs]
  rw[hr];have hb1:DA (xs++[e])=bif decide (1<e.fLeft) then some (.out (.ret (xs++[⟨e.fPairs,e.fLeft-1,e.fPairs,e.fLast,e.fStarted⟩]))) else some (.next xs):=by
   unfold DA;rw[Bx (by simp)];simp only[K9,Mi,Km,JX];rw[Br (by omega) (by omega),Cc (by omega) (by simp;omega),Br (by omega) (by omega)]
   cases hd:decide (1<e.fLeft) with
   | true=>
    rw[Bx (by simp at hd ⊢;omega)];rfl
   | false=>
    rw[Bo (by simp at hd ⊢;omega),Br (by omega) (by omega),HX (by omega) (by simp;omega),SH];rfl
  rw[Cz,hb1]
  cases hd:decide (1<e.fLeft) with
  | true=>exact⟨_,rfl,by simp[Ch,DX,L7,hd,hxs]⟩
  | false=>
   obtain⟨o,ho1,ho2⟩:=Lt S F (by omega) (λe he=>hb e (by simp[he])) (by omega);rw[hxs] at ho1;exact⟨o,ho1,by rw[ho2];simp[L7,hd]⟩
theorem M6 {S:List AE}{F:Nat}(hF:S.length<F)(hb:∀e∈S,1≤e.fLeft∧e.fLeft≤9223372036854775807)(hl:S.length≤4611686018427387904):Kj F S.reverse=some (L7 S).reverse:=by
 obtain⟨o,h1,h2⟩:=Lt S F hF hb hl;unfold Kj;rw[Ca h1,h2]
def KR (s:An):Int:=s.length+2+s.count 34+s.count 92
theorem M1 {s:An}(hs:s.length≤1152921504606846976):IW s=some (KR s):=by
 have h1:s.count 34≤s.length:=List.count_le_length;have h2:s.count 92≤s.length:=List.count_le_length;unfold IW Lib.countByte;rw[Br (by omega) (by omega),Br (by omega) (by omega),Br (by omega) (by omega)];rfl
def Xn (c:Ac):Int:=
 bif decide (c.fKind=1) then 4 else bif decide (c.fKind=2) then IntKind.wrap .i64 (5-c.fInt) else bif decide (c.fKind=3) then((Lib.itoa c.fInt).length:Int) else
 bif decide (c.fKind=4) then KR c.fStr else IntKind.wrap .i64 (2+max 0 (IntKind.wrap .i64 (c.fN-1)))
theorem P7 {c:Ac}(hs:c.fStr.length≤1152921504606846976)(hi:BS .i64 c.fInt=true):P8 c=some (Xn c):=by
 unfold P8 Xn;rw[M1 hs];refine DR rfl (DR rfl (DR ?_ (DR rfl rfl)));rw[Df hi]
def Im (d:Nat)(sh:AM)(c:Ac):AM:=
 ⟨max sh.fDepth ((d:Int)+1),IntKind.wrap .i64 (sh.fBytes+Xn c),sh.fOutside||(decide (c.fKind=3)&&!(decide ((-1000000000000)≤c.fInt)&&decide (c.fInt≤1000000000000))),sh.fLong||decide (200<(c.fStr.length:Int))⟩
def Yb (sh:AM)(c:Ac):AM:=⟨sh.fDepth,IntKind.wrap .i64 (sh.fBytes+(KR c.fStr+1)),sh.fOutside,sh.fLong||decide (200<(c.fStr.length:Int))⟩
def Lf:List AE→Bool
 | []=>false
 | e::_=>e.fKey
abbrev Ps:=List AE×Int×AM
abbrev Xf:=Out (Int×AM×Bool) AM
def Q8 (n:Int)(S:List AE)(i:Int)(sh:AM)(c:Ac):Stp Ps Xf:=
 bif !pl c then .out (.ret (0,sh,false)) else
 match S with
 | e::S'=>
  bif e.fKey then
   bif !decide (c.fKind=4)||(e.fStarted&&(Cp c.fStr e.fLast||decide (c.fStr=e.fLast))) then .out (.ret (0,sh,false))
   else .next ((⟨e.fPairs,e.fLeft,false,c.fStr,true⟩::S').reverse,i+1,Yb sh c)
  else bif decide (0<c.fN) then
   bif decide (n<c.fN) then .out (.ret (0,Im S.length sh c,false))
   else .next ((⟨decide (c.fKind=6),c.fN,decide (c.fKind=6),[],false⟩::S).reverse,i+1,Im S.length sh c)
  else bif decide (L7 S=[]) then .out (.ret (i+1,Im S.length sh c,true)) else .next ((L7 S).reverse,i+1,Im S.length sh c)
 | []=>
  bif decide (0<c.fN) then
   bif decide (n<c.fN) then .out (.ret (0,Im 0 sh c,false))
   else .next ([⟨decide (c.fKind=6),c.fN,decide (c.fKind=6),[],false⟩],i+1,Im 0 sh c)
  else .out (.ret (i+1,Im 0 sh c,true))
theorem Ni {S:List AE}:decide (((L7 S).reverse.length:Int)=0)=decide (L7 S=[]):=by
 rw[ZR];simp
theorem Yx {α:Type}{xs:List α}{e x:α}{M:Nat}(h:xs.length+1≤M)(hM2:(M+2)*48≤140737488355328):Dp 48 ((xs++[e]).length+([x]:List α).length)=true:=by
 refine Zz (Nat.le_trans (Nat.mul_le_mul_right 48 ?_) hM2);rw[Zs,ZN,ZN];omega
set_option maxHeartbeats 600000 in
theorem PA {F:Nat}{v:List Ac}{S:List AE}{i:Int}{sh:AM}{c:Ac}(h0:0≤i)(hc:v[i.toNat]? =some c){M:Nat}(hM:M≤1152921504606846976)(hM2:(M+2)*48≤140737488355328)(hv:v.length≤M)(hS:S.length≤M)(hF:M<F)
  (hs:c.fStr.length≤M) (hi:BS .i64 c.fInt=true) (hb:∀e∈S,1≤e.fLeft∧e.fLeft≤9223372036854775807):D9 F v S.reverse i sh=some (Q8 v.length S i sh c):=by
 have hil:i.toNat<v.length:=(List.getElem?_eq_some_iff.1 hc).1;have hat:Ap v i=c:=by simp[Ap,hc]
 unfold D9 Q8;rw[Bx (by simp;omega),Cc h0 (by omega),hat,SD (by omega) (by omega),Ca rfl]
 cases hp:pl c with
 | false=>rw[Bx (by simp)];rfl
 | true=>
  rw[Bo (by simp)]
  cases S with
  | nil=>
   rw[Df (by simp[imp]),Df (by simp[imp]),Bo (by simp),Br (by simp) (by simp),P7 (by omega) hi,Ca rfl,Df (by simp[imp,BI])];simp only[BI,ov,ZM,Z2,Zx]
   cases hn:decide (0<c.fN) with
   | true=>
    rw[Bx rfl]
    cases hm:decide ((v.length:Int)<c.fN) with
    | true=>rw[Bx rfl];simp[Im]
    | false=>rw[Bo rfl,Df (by simp[Dp])];unfold DP;rw[Br (by omega) (by omega)];simp[Im]
   | false=>
    rw[Bo rfl,Ca (M6 (S:=[]) (by simp;omega) (by simp) (by simp)),Bx (by simp[L7]),Br (by omega) (by omega)];simp[Im]
  | cons e S'=>
   have hx:S'.reverse.length=S'.length:=by simp
   generalize hxs:S'.reverse=xs at hx;have hr:(e::S').reverse=xs++[e]:=by simp[hxs]
   simp only[Z5] at hS;have hlen:((xs++[e]).length:Int)=(xs.length:Int)+1:=by simp
   rw[hr,Df (by simp only[imp,K9];rw[KC (by omega) (by omega)];simp),Df (by simp only[imp,K9];rw[Ve (by omega) (by omega)];simp)];rw[K9,Mi]
   cases hk:e.fKey with
   | true=>
    rw[Bx (by simp),Br (by omega) (by omega),Cc (by omega) (by omega)];simp only[hk,Z2,Zx,Z1]
    cases ht : !decide (c.fKind=4)||(e.fStarted&&(Cp c.fStr e.fLast||decide (c.fStr=e.fLast))) with
    | true=>rw[Bx rfl];rfl
    | false=>
     rw[Bo rfl,Km,JX,Mi,Km,JX,Mi,Km,JX,M1 (by omega),Ca rfl,Br (by unfold KR;omega) (by unfold KR;have:=@List.count_le_length UInt8 _ 34 c.fStr;have:=@List.count_le_length UInt8 _ 92 c.fStr;omega)];unfold DP;rw[Br (by omega) (by omega)];simp[Yb,hxs]
   | false=>
    rw[Bo (by simp),hlen,Br (by omega) (by omega),P7 (by omega) hi,Ca rfl,Df (by simp[imp,BI])];simp only[hk,BI,ov,ZM,Z2,Zx,Z1]
    cases hn:decide (0<c.fN) with
    | true=>
     rw[Bx rfl]
     cases hm:decide ((v.length:Int)<c.fN) with
     | true=>rw[Bx rfl];simp[Im,hx]
     | false=>rw[Bo rfl,Df (Yx (by omega) hM2)];unfold DP;rw[Br (by omega) (by omega)];simp[Im,hx,hxs]
    | false=>
     have hcl:=M6 (S:=e::S') (F:=F) (by simp;omega) hb (by simp;omega);rw[hr] at hcl;rw[Bo rfl,hcl,Ca rfl,Ni]
     cases hq:decide (L7 (e::S')=[]) with
     | true=>rw[Bx rfl,Br (by omega) (by omega)];simp[Im,hx]
     | false=>rw[Bo rfl];unfold DP;rw[Br (by omega) (by omega)];simp[Im,hx]
section
variable {S O : Type} {body : S → Option (Stp S O)} {s t u : S} {o : O}
def DT (body:S→Option (Stp S O))(s t:S):Prop:=∃k,∀n,Cz body (n+k) s=Cz body n t
def Fin (body:S→Option (Stp S O))(s:S)(o:O):Prop:=∃k,∀n,Cz body (n+k) s=some o
theorem DT.refl (s:S):DT body s s:=⟨0,λ_=>rfl⟩
theorem DT.trans (h:DT body s t)(h':DT body t u):DT body s u:=by
 obtain⟨k,hk⟩:=h;obtain⟨j,hj⟩:=h';exact⟨j+k,λn=>by rw[← Nat.add_assoc,hk,hj]⟩
theorem DT.step (h:body s=some (.next t)):DT body s t:=⟨1,λn=>by rw[Cz,h]⟩
theorem Fin.step (h:body s=some (.out o)):Fin body s o:=⟨1,λn=>by rw[Cz,h]⟩
theorem DT.fin (h:DT body s t)(h':Fin body t o):Fin body s o:=by
 obtain⟨k,hk⟩:=h;obtain⟨j,hj⟩:=h';exact⟨j+k,λn=>by rw[← Nat.add_assoc,hk,hj]⟩
end
inductive Fo where
 | nil
 | cell (k:Option An) (c:Ac) (r:Fo)
 | node (k:Option An) (c:Ac) (kids r:Fo)
def Ck:Option An→List Ac
 | none=>[]
 | some s=>[⟨4,0,s,0⟩]
def Fo.flat:Fo→List Ac
 | .nil=>[]
 | .cell k c r=>Ck k++c::r.flat
 | .node k c kids r=>Ck k++c::(kids.flat++r.flat)
def Fo.cnt:Fo→Nat
 | .nil=>0
 | .cell _ _ r=>r.cnt+1
 | .node _ _ _ r=>r.cnt+1
def CU (m:Bool)(last:Option An):Option An→Bool
 | none=>!m
 | some s=>m&&s.all VE&&(match last with
  | none=>true
  | some p=>!(Cp s p||decide (s=p)))
def Fo.wf:Bool→Option An→Fo→Bool
 | _,_,.nil=>true
 | m,last,.cell k c r=>CU m last k&&pl c&&!decide (0<c.fN)&&r.wf m k
 | m,last,.node k c kids r=>CU m last k&&pl c&&decide (0<c.fN)&&decide (c.fN=kids.cnt)&&kids.wf (decide (c.fKind=6)) none&&r.wf m k
def Lv (k:Option An)(sh:AM):AM:=match k with
 | none=>sh
 | some s=>Yb sh ⟨4,0,s,0⟩
def Fo.sh (d:Nat):AM→Fo→AM
 | s,.nil=>s
 | s,.cell k c r=>r.sh d (Im d (Lv k s) c)
 | s,.node k c kids r=>r.sh d (kids.sh (d+1) (Im d (Lv k s) c))
def Hb (body:Ps→Option (Stp Ps Xf))(s:Ps)(S:List AE)(i:Int)(sh:AM):Prop:=
 if L7 S=[] then Fin body s (.ret (i,sh,true)) else DT body s ((L7 S).reverse,i,sh)
theorem Hb.of {body:Ps→Option (Stp Ps Xf)}{s t:Ps}{S:List AE}{i:Int}{sh:AM}(h:DT body s t)(h':Hb body t S i sh):Hb body s S i sh:=by
 unfold Hb at *
 split
 ·rename_i e;rw[Aai e] at h';exact h.fin h'
 ·rename_i e;rw[Aaa e] at h';exact h.trans h'
theorem Hb.pop {body:Ps→Option (Stp Ps Xf)}{s:Ps}{e:AE}{S:List AE}{i:Int}{sh:AM}(h:Hb body s (e::S) i sh)(h1:e.fLeft=1):Hb body s S i sh:=by
 have:L7 (e::S)=L7 S:=by simp[L7,h1]
 unfold Hb at *;rw[this] at h;exact h
theorem Hb.more {body:Ps→Option (Stp Ps Xf)}{s:Ps}{e:AE}{S:List AE}{i:Int}{sh:AM}(h:Hb body s (e::S) i sh)(h1:1<e.fLeft):DT body s ((⟨e.fPairs,e.fLeft-1,e.fPairs,e.fLast,e.fStarted⟩::S).reverse,i,sh):=by
 have:L7 (e::S)=⟨e.fPairs,e.fLeft-1,e.fPairs,e.fLast,e.fStarted⟩::S:=by simp[L7,h1]
 unfold Hb at *;rw[this,Aaa (by simp)] at h;exact h
structure Sv (F M:Nat) (v:List Ac):Prop where
 hM:M≤1152921504606846976
 hM2:(M+2)*48≤140737488355328
 hv:v.length≤M
 hF:M<F
 hc:∀c∈v,c.fStr.length≤M∧BS .i64 c.fInt=true∧c.fN≤9223372036854775807
abbrev Qb (F:Nat)(v:List Ac):Ps→Option (Stp Ps Xf):=λσ=>D9 F v σ.1 σ.2.1 σ.2.2
def DF (S:List AE):Prop:=∀e∈S,1≤e.fLeft∧e.fLeft≤9223372036854775807
section
variable {F M : Nat} {v : List Ac} {S : List AE} {i : Int} {sh : AM} {c : Ac} {r : List Ac} {e : AE}
theorem Ez (h0:0≤i)(h:v.drop i.toNat=c::r):v[i.toNat]? =some c∧v.drop (i+1).toNat=r∧i<v.length:=by
 have h1:(v.drop i.toNat)[0]? =some c:=by rw[h];rfl
 have h2:v[i.toNat]? =some c:=by simpa using h1
 have h3:=(List.getElem?_eq_some_iff.1 h2).1;refine⟨h2,?_,by omega⟩;rw[show(i+1).toNat=i.toNat+1 from by omega,← List.drop_drop,h];rfl
theorem round (hA:Sv F M v)(h0:0≤i)(h:v.drop i.toNat=c::r)(hS:(S.length:Int)≤i)(hb:DF S):Qb F v (S.reverse,i,sh)=some (Q8 v.length S i sh c):=by
 obtain⟨h1,_,h3⟩:=Ez h0 h;obtain⟨a,b,_⟩:=hA.hc c (Z4 h1);have:=hA.hv;exact PA h0 h1 hA.hM hA.hM2 hA.hv (by omega) hA.hF a b hb
def EV (e:AE):Option An→AE
 | none=>e
 | some s=>⟨e.fPairs,e.fLeft,false,s,true⟩
def IE (e:AE):Option An→Prop
 | none=>e.fStarted=false
 | some p=>e.fStarted=true∧e.fLast=p
theorem MW (hA:Sv F M v)(h0:0≤i){k last:Option An}(h:v.drop i.toNat=Ck k++r)(hS:(S.length:Int)+1≤i)(hb:DF (e::S))(hk:CU e.fKey last k=true)(hl:IE e last) :
  DT (Qb F v) ((e::S).reverse,i,sh) ((EV e k::S).reverse,i+(Ck k).length,Lv k sh):=by
 cases k with
 | none=>simpa[EV,Ck,Lv] using DT.refl _
 | some s=>
  simp only[CU,Zu] at hk;obtain⟨⟨hm,hok⟩,hcmp⟩:=hk;refine DT.step ?_;rw[round hA h0 (by simpa[Ck] using h) (by simpa using hS) hb];have hp:pl ⟨4,0,s,0⟩=true:=by simp[pl,hok]
  have ht:(e.fStarted&&(Cp s e.fLast||decide (s=e.fLast)))=false:=by
   cases last with
   | none=>simp only[IE] at hl;rw[hl];rfl
   | some p=>obtain⟨h1,h2⟩:=hl;rw[h1,h2];simpa using hcmp
  simp only[Q8,hp,hm,ht,Z2,Zx,Z1,decide_true,ZG,Bool.or_self];rfl
theorem Le {k last:Option An}(hk:CU e.fKey last k=true):(EV e k).fKey=false:=by
 cases k with
 | none=>simpa[EV,CU] using hk
 | some s=>rfl
theorem JQ (k:Option An):(EV e k).fLeft=e.fLeft∧(EV e k).fPairs=e.fPairs:=by cases k<;>exact⟨rfl,rfl⟩
theorem Lb (hA:Sv F M v)(h0:0≤i)(h:v.drop i.toNat=c::r)(hS:(S.length:Int)≤i)(hb:DF S)(hk:Lf S=false)(hp:pl c=true)(hn:decide (0<c.fN)=false) :
  Hb (Qb F v) (S.reverse,i,sh) S (i+1) (Im S.length sh c):=by
 have hr:=round (sh:=sh) hA h0 h hS hb;unfold Hb
 cases S with
 | nil=>
  rw[Aai (by simp[L7])];refine Fin.step ?_;rw[hr];simp[Q8,hp,hn]
 | cons e S=>
  simp only[Lf] at hk
  split
  ·rename_i hc
   refine Fin.step ?_;rw[hr];simp[Q8,hp,hn,hk,hc]
  ·rename_i hc
   refine DT.step ?_;rw[hr];simp[Q8,hp,hn,hk,hc]
theorem Jh (hA:Sv F M v)(h0:0≤i)(h:v.drop i.toNat=c::r)(hS:(S.length:Int)≤i)(hb:DF S)(hk:Lf S=false)(hp:pl c=true)(hn:decide (0<c.fN)=true)(hv:c.fN≤v.length) :
  DT (Qb F v) (S.reverse,i,sh) ((⟨decide (c.fKind=6),c.fN,decide (c.fKind=6),[],false⟩::S).reverse,i+1,Im S.length sh c):=by
 have hr:=round (sh:=sh) hA h0 h hS hb;have hv':decide ((v.length:Int)<c.fN)=false:=by simpa using hv
 refine DT.step ?_;rw[hr]
 cases S with
 | nil=>simp only[Q8,hp,hn,hv',Z2,Zx,Z1];rfl
 | cons e S=>
  simp only[Lf] at hk;simp only[Q8,hp,hn,hv',hk,Z2,Zx,Z1]
theorem De:∀f:Fo,f.cnt≤f.flat.length
 | .nil=>ZC _
 | .cell k c r=>by have:=De r;simp[Fo.cnt,Fo.flat];omega
 | .node k c kids r=>by have:=De r;simp[Fo.cnt,Fo.flat];omega
theorem D1 {α:Type}{v xs r:List α}{i:Int}(h0:0≤i)(h:v.drop i.toNat=xs++r):v.drop (i+xs.length).toNat=r:=by
 rw[show(i+(xs.length:Int)).toNat=i.toNat+xs.length from by omega,← List.drop_drop,h,List.drop_left]
theorem PI (hA:Sv F M v){e':AE}{s:Ps}{k:Option An}{r':Fo}
  (ih:∀(e:AE) (S:List AE) (i:Int) (sh:AM) (last:Option An) (r:List Ac),1≤r'.cnt→r'.wf e.fPairs last=true→e.fKey=e.fPairs→e.fLeft=r'.cnt→IE e last→(e.fPairs=false→last=none)→v.drop i.toNat=r'.flat++r→0≤i→(S.length:Int)+1≤i→DF S→
   Hb (Qb F v) ((e::S).reverse,i,sh) S (i+r'.flat.length) (r'.sh (S.length+1) sh))
  (hd:Hb (Qb F v) s (e'::S) i sh) (hl:e'.fLeft=r'.cnt+1) (hw:r'.wf e'.fPairs k=true) (hk:IE e' k) (hm:e'.fPairs=false→k=none) (hv:v.drop i.toNat=r'.flat++r) (h0:0≤i) (hS:(S.length:Int)+1≤i) (hb:DF S) :
  Hb (Qb F v) s S (i+r'.flat.length) (r'.sh (S.length+1) sh):=by
 by_cases h1:r'.cnt=0
 ·cases r' with
  | nil=>simpa[Fo.flat,Fo.sh] using hd.pop (by rw[hl];rfl)
  | cell _ _ _=>simp[Fo.cnt] at h1
  | node _ _ _ _=>simp[Fo.cnt] at h1
 ·have:=hd.more (by omega);refine Hb.of this (ih _ S i sh k r (by omega) hw rfl (by simp only;omega) ?_ hm hv h0 hS hb)
  cases k with
  | none=>exact hk
  | some p=>exact hk
theorem JR {k last:Option An}(hl:IE e last)(hm:e.fPairs=false→last=none)(hk:CU e.fPairs last k=true):IE (EV e k) k∧((EV e k).fPairs=false→k=none):=by
 cases k with
 | none=>
  have:e.fPairs=false:=by simpa[CU] using hk
  rw[hm this] at hl;exact⟨hl,λ_=>rfl⟩
 | some s=>
  refine⟨⟨rfl,rfl⟩,λh=>?_⟩;have h:e.fPairs=false:=h;simp[CU,h] at hk
theorem L6 (hA:Sv F M v):∀(f:Fo) (e:AE) (S:List AE) (i:Int) (sh:AM) (last:Option An) (r:List Ac),1≤f.cnt→f.wf e.fPairs last=true→e.fKey=e.fPairs→e.fLeft=f.cnt→IE e last→(e.fPairs=false→last=none)→v.drop i.toNat=f.flat++r→0≤i→(S.length:Int)+1≤i→DF S→
   Hb (Qb F v) ((e::S).reverse,i,sh) S (i+f.flat.length) (f.sh (S.length+1) sh):=by
 have hmax:∀(i:Int) (xs:List Ac),0≤i→v.drop i.toNat=xs→xs.length≤v.length:=λi xs _ h=>by rw[← h,ZS];omega
 intro f
 induction f with
 | nil=>intro e S i sh last r h1;simp[Fo.cnt] at h1
 | cell k c r' ih=>
  intro e S i sh last r h1 hw hk hl hlo hm hv h0 hS hb;simp only[Fo.wf,Zu,ZL] at hw;obtain⟨⟨⟨w1,w2⟩,w3⟩,w4⟩:=hw;simp only[Fo.flat,ZZ,List.cons_append] at hv;have hcnt:=hmax i _ h0 hv;have hcf:=De r';simp only[Zs,Z5] at hcnt;have hvM:=hA.hv;have hMM:=hA.hM;simp only[Fo.cnt] at hl;have hb':DF (e::S):=λx hx=>by
   rcases List.mem_cons.1 hx with rfl | hx
   ·constructor<;>omega
   ·exact hb x hx
  have hkr:=MW (sh:=sh) hA h0 hv hS hb' (by rw[hk];exact w1) hlo;have hv1:=D1 h0 hv;obtain⟨kl,kp⟩:=JQ (e:=e) k;have hbk:DF (EV e k::S):=λx hx=>by
   rcases List.mem_cons.1 hx with rfl | hx
   ·rw[kl];exact hb' e (by simp)
   ·exact hb x hx
  have hd:=Lb (sh:=Lv k sh) hA (by omega) hv1 (by simp only[Z5];omega) hbk (Le (by rw[hk];exact w1)) w2 w3;obtain⟨q1,q2⟩:=JR hlo hm w1;have hv2:=(Ez (by omega) hv1).2.1;have:=PI hA ih (hd.of hkr) (by rw[kl,hl];rfl) (by rw[kp];exact w4) q1 q2 hv2 (by omega) (by omega) hb;simp only[Fo.flat,Fo.sh,Zs,Z5];rw[show i+((((Ck k).length+(r'.flat.length+1):Nat)):Int)=i+(Ck k).length+1+r'.flat.length from by omega];exact this
 | node k c kids r' ihk ih=>
  intro e S i sh last r h1 hw hk hl hlo hm hv h0 hS hb;simp only[Fo.wf,Zu,Zr] at hw;obtain⟨⟨⟨⟨⟨w1,w2⟩,w3⟩,w5⟩,w6⟩,w4⟩:=hw;simp only[Fo.flat,ZZ,List.cons_append] at hv;have hcnt:=hmax i _ h0 hv;have hcf:=De r';have hck:=De kids;simp only[Zs,Z5] at hcnt;have hvM:=hA.hv;have hMM:=hA.hM;simp only[Fo.cnt] at hl;have hb':DF (e::S):=λx hx=>by
   rcases List.mem_cons.1 hx with rfl | hx
   ·constructor<;>omega
   ·exact hb x hx
  have hkr:=MW (sh:=sh) hA h0 hv hS hb' (by rw[hk];exact w1) hlo;have hv1:=D1 h0 hv;obtain⟨kl,kp⟩:=JQ (e:=e) k;have hbk:DF (EV e k::S):=λx hx=>by
   rcases List.mem_cons.1 hx with rfl | hx
   ·rw[kl];exact hb' e (by simp)
   ·exact hb x hx
  have hn:=Jh (sh:=Lv k sh) hA (by omega) hv1 (by simp only[Z5];omega) hbk (Le (by rw[hk];exact w1)) w2 (by simpa using w3) (by omega);have hv2:=(Ez (by omega) hv1).2.1;have hd:=ihk ⟨decide (c.fKind=6),c.fN,decide (c.fKind=6),[],false⟩ (EV e k::S) (i+(Ck k).length+1) (Im (S.length+1) (Lv k sh) c) none _ (by omega) w6 rfl w5 rfl (λ_=>rfl) hv2 (by omega) (by simp only[Z5];omega) hbk;obtain⟨q1,q2⟩:=JR hlo hm w1;have hv3:=D1 (by omega) hv2;have:=PI hA ih ((hd.of hn).of hkr) (by rw[kl,hl];rfl) (by rw[kp];exact w4) q1 q2 hv3 (by omega) (by omega) hb;simp only[Fo.flat,Fo.sh,Zs,Z5];rw[show i+((((Ck k).length+(kids.flat.length+r'.flat.length+1):Nat)):Int)=i+(Ck k).length+1+kids.flat.length+r'.flat.length from by omega];exact this
end
theorem PZ {S O:Type}{body:S→Option (Stp S O)}{o:O}:∀{n:Nat} {s:S} (k:Nat),Cz body n s=some o→Cz body (n+k) s=some o
 | 0,s,k,h=>by cases h
 | n+1,s,k,h=>by
  rw[show n+1+k=n+k+1 from by omega,Cz];rw[Cz] at h
  cases hb:body s with
  | none=>rw[hb] at h;cases h
  | some t=>
   rw[hb] at h
   cases t with
   | next s'=>exact PZ k h
   | out o'=>exact h
theorem Fin.eq {S O:Type}{body:S→Option (Stp S O)}{s:S}{o o':O}{n:Nat}(h:Fin body s o)(h':Cz body n s=some o'):o'=o:=by
 obtain⟨k,hk⟩:=h;have:=PZ k h';rw[hk n] at this;exact(A1 this).symm
theorem Ot:∀{S:List AE},DF S→DF (L7 S)∧(L7 S).length≤S.length
 | [],h=>⟨h,ZC _⟩
 | e::S,h=>by
  have hS:DF S:=λx hx=>h x (by simp[hx]);have he:=h e (by simp);unfold L7
  cases hd:decide (1<e.fLeft) with
  | true=>
   simp only[Zr] at hd;refine⟨λx hx=>?_,by simp⟩;rcases List.mem_cons.1 hx with rfl | hx
   ·simp only;omega
   ·exact hS x hx
  | false=>
   obtain⟨h1,h2⟩:=Ot hS;exact⟨h1,by simp only[Zx,Z5];omega⟩
theorem UW {n:Int}{S:List AE}{i:Int}{sh:AM}{c:Ac}{σ:Ps}(hb:DF S)(hS:(S.length:Int)≤i)(hN:c.fN≤9223372036854775807)(h:Q8 n S i sh c = .next σ):∃S' sh',σ=(S'.reverse,i+1,sh')∧DF S'∧(S'.length:Int)≤i+1:=by
 unfold Q8 at h
 cases hp:pl c with
 | false=>simp[hp] at h
 | true=>
  simp only[hp,Z2,Zx] at h
  cases S with
  | nil=>
   simp only at h
   cases hn:decide (0<c.fN) with
   | false=>simp[hn] at h
   | true=>
    simp only[hn,Z1] at h
    cases hm:decide (n<c.fN) with
    | true=>simp[hm] at h
    | false=>
     simp only[hm,Zx,Stp.next.injEq] at h;refine⟨[_],_,h.symm,λx hx=>?_,by simp at hS ⊢;omega⟩;simp only[ZE] at hx;subst hx;simp only[Zr] at hn;exact⟨by simp only;omega,hN⟩
  | cons e S=>
   have he:=hb e (by simp);have hbS:DF S:=λx hx=>hb x (by simp[hx]);simp only[Z5] at hS
   cases hk:e.fKey with
   | true=>
    simp only[hk,Z1] at h
    cases hq:(!decide (c.fKind=4)||(e.fStarted&&(Cp c.fStr e.fLast||decide (c.fStr=e.fLast)))) with
    | true=>rw[hq] at h;simp at h
    | false=>
     rw[hq] at h;simp only[Zx,Stp.next.injEq] at h;refine⟨_::S,_,h.symm,λx hx=>?_,by simp only[Z5];omega⟩;rcases List.mem_cons.1 hx with rfl | hx
     ·exact he
     ·exact hbS x hx
   | false=>
    simp only[hk,Zx] at h
    cases hn:decide (0<c.fN) with
    | true=>
     simp only[hn,Z1] at h
     cases hm:decide (n<c.fN) with
     | true=>simp[hm] at h
     | false=>
      simp only[hm,Zx,Stp.next.injEq] at h;refine⟨_::e::S,_,h.symm,λx hx=>?_,by simp only[Z5];omega⟩;rcases List.mem_cons.1 hx with rfl | hx
      ·simp only[Zr] at hn;exact⟨by simp only;omega,hN⟩
      ·exact hb x hx
    | false=>
     simp only[hn,Zx] at h
     cases hq:decide (L7 (e::S)=[]) with
     | true=>rw[hq] at h;simp at h
     | false=>
      rw[hq] at h;simp only[Zx,Stp.next.injEq] at h;obtain⟨h1,h2⟩:=Ot hb;simp only[Z5] at h2;exact⟨_,_,h.symm,h1,by omega⟩
theorem MT {F M:Nat}{v:List Ac}(hA:Sv F M v):∃o,Cz (Qb F v) F (([]:List AE),0,(⟨0,0,false,false⟩:AM))=some o∧True:=by
 refine Ma (λσ=>∃S i sh,σ=(S.reverse,i,sh)∧DF S∧(S.length:Int)≤i∧0≤i∧i≤v.length) (λσ=>v.length-σ.2.1.toNat) (λ_=>True) (λσ hI=>?_) F _ ⟨[],0,_,rfl,(λx hx=>by cases hx),ZJ _,ZJ _,by omega⟩ (by have:=hA.hv;have:=hA.hF;simp;omega);obtain⟨S,i,sh,rfl,hb,hS,h0,hi⟩:=hI
 by_cases hx:i<v.length
 ·obtain⟨c,hc⟩:∃c,v[i.toNat]? =some c:=⟨v[i.toNat]'(by omega),Zt (by omega)⟩
  have hdr:v.drop i.toNat=c::v.drop (i.toNat+1):=by rw[List.drop_eq_getElem_cons (by omega)];congr 1;exact(List.getElem?_eq_some_iff.1 hc).2
  have hr:=round (sh:=sh) hA h0 hdr hS hb
  cases hl:Q8 v.length S i sh c with
  | next τ=>
   obtain⟨S',sh',rfl,h1,h2⟩:=UW hb hS (hA.hc c (Z4 hc)).2.2 hl;exact .inl ⟨_,by rw[hr,hl],⟨S',i+1,sh',rfl,h1,h2,by omega,by omega⟩,by simp only;omega⟩
  | out o=>exact .inr ⟨o,by rw[hr,hl],trivial⟩
 ·refine .inr ⟨.go sh,?_,trivial⟩;show D9 F v S.reverse i sh=_;unfold D9;rw[Bo (by simpa using hx)]
def Fo.one:Fo→Bool
 | .cell none _ .nil=>true
 | .node none _ _ .nil=>true
 | _=>false
def MA:AM:=⟨0,0,false,false⟩
theorem UV {F M:Nat}{v:List Ac}(hA:Sv F M v){f:Fo}(h1:f.one=true)(hw:f.wf false none=true){r:List Ac}(hv:v=f.flat++r):Fin (Qb F v) ([],0,MA) (.ret (f.flat.length,f.sh 0 MA,true)):=by
 have h0:v.drop (0:Int).toNat=f.flat++r:=by rw[hv];rfl
 have hlen:f.flat.length≤v.length:=by rw[hv];simp
 cases f with
 | nil=>cases h1
 | cell k c r'=>
  cases k with
  | some s=>cases h1
  | none=>
   cases r' with
   | nil=>
    simp only[Fo.wf,Zu,ZL] at hw;have:=Lb (S:=[]) (sh:=MA) hA (ZJ 0) h0 (by simp) (λx hx=>by cases hx) rfl hw.1.1.2 hw.1.2;unfold Hb at this;rw[Aai (show L7 []=[] from rfl)] at this;simpa[Fo.flat,Fo.sh,Ck,Lv] using this
   | cell _ _ _=>cases h1
   | node _ _ _ _=>cases h1
 | node k c kids r'=>
  cases k with
  | some s=>cases h1
  | none=>
   cases r' with
   | nil=>
    simp only[Fo.wf,Zu,Zr] at hw;obtain⟨⟨⟨⟨⟨w1,w2⟩,w3⟩,w5⟩,w6⟩,w4⟩:=hw;have hck:=De kids;simp only[Fo.flat,Ck,Aaj,Aag,Z5] at hlen;have hvM:=hA.hv;have hMM:=hA.hM;have hn:=Jh (S:=[]) (sh:=MA) hA (ZJ 0) h0 (by simp) (λx hx=>by cases hx) rfl w2 (by simpa using w3) (by omega);have hv2:=(Ez (ZJ 0) h0).2.1;have hd:=L6 hA kids ⟨decide (c.fKind=6),c.fN,decide (c.fKind=6),[],false⟩ [] (0+1) (Im 0 MA c) none r (by omega) w6 rfl w5 rfl (λ_=>rfl) (by rw[hv2];simp[Fo.flat]) (by omega) (by simp) (λx hx=>by cases hx);unfold Hb at hd;rw[Aai (show L7 []=[] from rfl)] at hd;have:=hn.fin hd;have e:((0:Int)+1+kids.flat.length)=((Fo.node none c kids .nil).flat.length:Int):=by simp[Fo.flat,Ck];omega
    rw[e] at this;exact this
   | cell _ _ _=>cases h1
   | node _ _ _ _=>cases h1
theorem Qa {F M:Nat}{v:List Ac}(hA:Sv F M v){f:Fo}(h1:f.one=true)(hw:f.wf false none=true){r:List Ac}(hv:v=f.flat++r):If F v=some ((f.flat.length:Int),f.sh 0 MA,true):=by
 obtain⟨o,ho,_⟩:=MT hA;have e:=(UV hA h1 hw hv).eq ho;subst e;unfold If;rw[Ca ho];rfl
def Io (m:Bool)(last:Option An)(xs:List Ac):Option (Option An×List Ac):=
 bif m then match xs with
  | []=>none
  | c::r=>bif pl c&&decide (c.fKind=4)&&CU true last (some c.fStr) then some (some c.fStr,r) else none
 else some (none,xs)
def H3:Nat→Bool→Option An→Nat→List Ac→Option (Fo×List Ac)
 | 0,_,_,_,_=>none
 | _+1,_,_,0,xs=>some (.nil,xs)
 | F+1,m,last,k+1,xs=>
  match Io m last xs with
  | none=>none
  | some (_,[])=>none
  | some (key,c::xs')=>
   bif !pl c then none else
   bif decide (0<c.fN) then
    match H3 F (decide (c.fKind=6)) none c.fN.toNat xs' with
    | none=>none
    | some (kids,ys)=>match H3 F m key k ys with
     | none=>none
     | some (r,zs)=>some (.node key c kids r,zs)
   else match H3 F m key k xs' with
    | none=>none
    | some (r,zs)=>some (.cell key c r,zs)
theorem OC {c:Ac}(hp:pl c=true)(hk:c.fKind=4):c=⟨4,0,c.fStr,0⟩∧c.fStr.all VE=true:=by
 cases c
 simp only at hk;subst hk;simp[pl] at hp;obtain⟨h1,h2,h3⟩:=hp;subst h1;subst h2;exact⟨rfl,by simpa using h3⟩
theorem LW {m:Bool}{last key:Option An}{xs r:List Ac}(h:Io m last xs=some (key,r)):xs=Ck key++r∧CU m last key=true:=by
 unfold Io at h
 cases m with
 | false=>cases h;exact⟨rfl,rfl⟩
 | true=>
  simp only[Z1] at h
  cases xs with
  | nil=>cases h
  | cons c r'=>
   simp only at h
   cases hb:(pl c&&decide (c.fKind=4)&&CU true last (some c.fStr)) with
   | false=>rw[hb] at h;cases h
   | true=>
    rw[hb] at h;simp only[Zu,Zr] at hb
    cases h
    exact⟨by rw[(OC hb.1.1 hb.1.2).1];rfl,hb.2⟩
theorem GU:∀(F:Nat) (m:Bool) (last:Option An) (k:Nat) (xs:List Ac) (f:Fo) (ys:List Ac),H3 F m last k xs=some (f,ys)→xs=f.flat++ys∧f.wf m last=true∧f.cnt=k
 | 0,_,_,_,_,_,_,h=>by cases h
 | F+1,m,last,0,xs,f,ys,h=>by cases h;exact⟨rfl,rfl,rfl⟩
 | F+1,m,last,k+1,xs,f,ys,h=>by
  rw[H3] at h
  cases hk:Io m last xs with
  | none=>rw[hk] at h;cases h
  | some p=>
   obtain⟨key,r⟩:=p;obtain⟨h1,h2⟩:=LW hk;rw[hk] at h
   cases r with
   | nil=>cases h
   | cons c xs'=>
    simp only at h
    cases hp:pl c with
    | false=>rw[hp] at h;cases h
    | true=>
     rw[hp] at h;simp only[Z2,Zx] at h
     cases hn:decide (0<c.fN) with
     | true=>
      rw[hn] at h;simp only[Z1] at h
      cases hq:H3 F (decide (c.fKind=6)) none c.fN.toNat xs' with
      | none=>rw[hq] at h;cases h
      | some q=>
       obtain⟨kids,zs⟩:=q;rw[hq] at h;simp only at h
       cases hr:H3 F m key k zs with
       | none=>rw[hr] at h;cases h
       | some q2=>
        obtain⟨r2,us⟩:=q2;rw[hr] at h;cases h;obtain⟨a1,a2,a3⟩:=GU F _ _ _ _ _ _ hq;obtain⟨b1,b2,b3⟩:=GU F _ _ _ _ _ _ hr;refine⟨by rw[h1,a1,b1];simp[Fo.flat],?_,by simp[Fo.cnt,b3]⟩;simp only[Zr] at hn;simp only[Fo.wf,h2,hp,a2,b2,ZF,Z7,Zu,Zr];omega
     | false=>
      rw[hn] at h;simp only[Zx] at h
      cases hr:H3 F m key k xs' with
      | none=>rw[hr] at h;cases h
      | some q2=>
       obtain⟨r2,us⟩:=q2;rw[hr] at h;cases h;obtain⟨b1,b2,b3⟩:=GU F _ _ _ _ _ _ hr;exact⟨by rw[h1,b1];simp[Fo.flat],by simp[Fo.wf,h2,hp,b2,hn],by simp[Fo.cnt,b3]⟩
theorem Hp:∀(F F':Nat) (m:Bool) (last:Option An) (k:Nat) (xs:List Ac),xs.length<F→xs.length<F'→H3 F m last k xs=H3 F' m last k xs
 | 0,_,_,_,_,_,h,_=>by omega
 | _+1,0,_,_,_,_,_,h=>by omega
 | F+1,F'+1,m,last,0,xs,_,_=>rfl
 | F+1,F'+1,m,last,k+1,xs,h,h'=>by
  rw[H3,H3]
  cases hk:Io m last xs with
  | none=>rfl
  | some p=>
   obtain⟨key,r⟩:=p;obtain⟨h1,h2⟩:=LW hk
   cases r with
   | nil=>rfl
   | cons c xs'=>
    have hl:xs'.length<xs.length:=by rw[h1];simp;omega
    simp only
    cases hp:pl c with
    | false=>rfl
    | true=>
     simp only[Z2,Zx]
     cases hn:decide (0<c.fN) with
     | true=>
      simp only[Z1];rw[Hp F F' _ _ _ xs' (by omega) (by omega)]
      cases hq:H3 F' (decide (c.fKind=6)) none c.fN.toNat xs' with
      | none=>rfl
      | some q=>
       obtain⟨kids,zs⟩:=q;have:=(GU _ _ _ _ _ _ _ hq).1;have hz:zs.length≤xs'.length:=by rw[this];simp
       simp only;rw[Hp F F' m key k zs (by omega) (by omega)]
     | false=>
      simp only[Zx];rw[Hp F F' m key k xs' (by omega) (by omega)]
def R0 {S:Type}(body:S→Option (Stp S Xf))(s:S):Prop:=∃sh',Fin body s (.ret (0,sh',false))∨Fin body s (.go sh')
theorem DT.bad {S:Type}{body:S→Option (Stp S Xf)}{s t:S}(h:DT body s t)(h':R0 body t):R0 body s:=by
 obtain⟨sh',h' | h'⟩:=h'
 ·exact⟨sh',.inl (h.fin h')⟩
 ·exact⟨sh',.inr (h.fin h')⟩
section
variable {F M : Nat} {v : List Ac}
theorem R0.end_ {S:List AE}{i:Int}{sh:AM}(h0:0≤i)(h:v.drop i.toNat=[]):R0 (Qb F v) (S.reverse,i,sh):=by
 refine⟨sh,.inr (Fin.step ?_)⟩;show D9 F v S.reverse i sh=_;unfold D9;rw[Bo];have:v.length≤i.toNat:=by simpa using h
 simp;omega
theorem R0.pl_ (hA:Sv F M v){S:List AE}{i:Int}{sh:AM}{c:Ac}{r:List Ac}(h0:0≤i)(h:v.drop i.toNat=c::r)(hS:(S.length:Int)≤i)(hb:DF S)(hp:pl c=false):R0 (Qb F v) (S.reverse,i,sh):=by
 refine⟨sh,.inl (Fin.step ?_)⟩;rw[round hA h0 h hS hb];simp[Q8,hp]
theorem Rl (hA:Sv F M v):∀(P:Nat) (k:Nat) (e:AE) (S:List AE) (i:Int) (sh:AM) (last:Option An) (xs:List Ac),xs.length<P→H3 P e.fPairs last (k+1) xs=none→e.fKey=e.fPairs→e.fLeft=(k:Int)+1→(k:Int)+1≤9223372036854775807→IE e last→(e.fPairs=false→last=none)→v.drop i.toNat=xs→0≤i→(S.length:Int)+1≤i→DF S→
  R0 (Qb F v) ((e::S).reverse,i,sh):=by
 intro P
 induction P with
 | zero=>intro k e S i sh last xs h;omega
 | succ P ih=>
  intro k e S i sh last xs hP hn hk hl hkm hlo hm hv h0 hS hb;have hb':DF (e::S):=λx hx=>by
   rcases List.mem_cons.1 hx with rfl | hx
   ·constructor<;>omega
   ·exact hb x hx
  rw[H3] at hn
  cases hq:Io e.fPairs last xs with
  | none=>
   unfold Io at hq
   cases hpr:e.fPairs with
   | false=>rw[hpr] at hq;cases hq
   | true=>
    rw[hpr] at hq hk;simp only[Z1] at hq
    cases xs with
    | nil=>exact R0.end_ h0 hv
    | cons c r=>
     simp only at hq
     cases hp:pl c with
     | false=>exact R0.pl_ hA h0 hv (by simpa using hS) hb' hp
     | true=>
      refine⟨sh,.inl (Fin.step ?_)⟩;rw[round hA h0 hv (by simpa using hS) hb'];have ht:(!decide (c.fKind=4)||(e.fStarted&&(Cp c.fStr e.fLast||decide (c.fStr=e.fLast))))=true:=by
       rw[hp] at hq
       cases h4:decide (c.fKind=4) with
       | false=>rfl
       | true=>
        rw[h4] at hq;simp only[Bool.and_self,Z7] at hq;have hok:=(OC hp (by simpa using h4)).2
        cases last with
        | none=>simp[CU,hok] at hq
        | some p=>
         obtain⟨q1,q2⟩:=hlo;rw[q1,q2]
         cases hc:(Cp c.fStr p||decide (c.fStr=p)) with
         | true=>rfl
         | false=>simp[CU,hok,hc] at hq
      simp only[Q8,hp,hk,ht,Z2,Zx,Z1]
  | some q=>
   obtain⟨key,r⟩:=q;obtain⟨h1,h2⟩:=LW hq;rw[hq] at hn;have hkr:=MW (sh:=sh) hA h0 (by rw[hv];exact h1) hS hb' (by rw[hk];exact h2) hlo;have hv1:=D1 h0 (hv.trans h1);obtain⟨kl,kp⟩:=JQ (e:=e) key;obtain⟨q1,q2⟩:=JR hlo hm h2;have hbk:DF (EV e key::S):=λx hx=>by
    rcases List.mem_cons.1 hx with rfl | hx
    ·rw[kl];exact hb' e (by simp)
    ·exact hb x hx
   refine hkr.bad ?_
   cases r with
   | nil=>exact R0.end_ (by omega) hv1
   | cons c xs'=>
    have hlen:xs'.length+1≤xs.length:=by rw[h1];simp
    have hvl:xs.length≤v.length:=by rw[← hv,ZS];omega
    have hvM:=hA.hv;have hMM:=hA.hM;have hkk:=Le (e:=e) (last:=last) (k:=key) (by rw[hk];exact h2);simp only at hn;have hSk:(((EV e key::S).length:Nat):Int)≤i+(Ck key).length:=by simp only[Z5];omega
    cases hp:pl c with
    | false=>exact R0.pl_ hA (by omega) hv1 hSk hbk hp
    | true=>
     rw[hp] at hn;simp only[Z2,Zx] at hn;obtain⟨g1,g2,g3⟩:=Ez (by omega) hv1;have hcN:=(hA.hc c (Z4 g1)).2.2;have more:∀(s:Ps) (j:Int) (sh':AM) (zs:List Ac),Hb (Qb F v) s (EV e key::S) j sh'→v.drop j.toNat=zs→zs.length<P→0≤j→(S.length:Int)+1≤j→H3 P e.fPairs key k zs=none→R0 (Qb F v) s:=λs j sh' zs hd hz hzl hj hSj hnone=>by
      cases k with
      | zero=>
       cases P with
       | zero=>omega
       | succ P=>cases hnone
      | succ k=>
       have:=hd.more (by rw[kl];omega);refine this.bad (ih k _ S j sh' key zs hzl (by rw[kp];exact hnone) rfl (by simp only[kl];omega) (by omega) ?_ (by simpa using q2) hz hj hSj hb)
       cases key with
       | none=>exact q1
       | some p=>exact q1
     cases hN:decide (0<c.fN) with
     | true=>
      rw[hN] at hn;simp only[Z1] at hn;simp only[Zr] at hN
      by_cases hbig:c.fN≤v.length
      ·have hnd:=Jh (sh:=Lv key sh) hA (by omega) hv1 hSk hbk (by simpa[Lf] using hkk) hp (by simpa using hN) hbig;refine hnd.bad ?_
       cases hks:H3 P (decide (c.fKind=6)) none c.fN.toNat xs' with
       | none=>
        obtain⟨n',hn'⟩:∃n',c.fN.toNat=n'+1:=⟨c.fN.toNat-1,by omega⟩
        rw[hn'] at hks;exact ih n' _ _ _ _ none xs' (by omega) hks rfl (by simp only;omega) (by omega) rfl (λ_=>rfl) g2 (by omega) (by simp only[Z5];omega) hbk
       | some q=>
        obtain⟨kids,zs⟩:=q;rw[hks] at hn;simp only at hn;have hn2:H3 P e.fPairs key k zs=none:=by
         cases hz:H3 P e.fPairs key k zs with
         | none=>rfl
         | some q=>rw[hz] at hn;cases hn
        obtain⟨a1,a2,a3⟩:=GU _ _ _ _ _ _ _ hks;have hd:=L6 hA kids ⟨decide (c.fKind=6),c.fN,decide (c.fKind=6),[],false⟩ (EV e key::S) (i+(Ck key).length+1) (Im (S.length+1) (Lv key sh) c) none zs (by omega) a2 rfl (by simp only;omega) rfl (λ_=>rfl) (by rw[g2];exact a1) (by omega) (by simp only[Z5];omega) hbk;have hz:v.drop (i+(Ck key).length+1+kids.flat.length).toNat=zs:=D1 (by omega) (g2.trans a1);have hzl:zs.length≤xs'.length:=by rw[a1];simp
        exact more _ _ _ zs hd hz (by omega) (by omega) (by omega) hn2
      ·refine⟨Im (EV e key::S).length (Lv key sh) c,.inl (Fin.step ?_)⟩;rw[round hA (by omega) hv1 hSk hbk];have hbig':decide ((v.length:Int)<c.fN)=true:=by simpa using hbig
       simp only[Q8,hp,hkk,hbig',hN,Z2,Zx,Z1,decide_true]
     | false=>
      rw[hN] at hn;simp only[Zx] at hn;have hn2:H3 P e.fPairs key k xs'=none:=by
       cases hz:H3 P e.fPairs key k xs' with
       | none=>rfl
       | some q=>rw[hz] at hn;cases hn
      have hd:=Lb (sh:=Lv key sh) hA (by omega) hv1 hSk hbk (by simpa[Lf] using hkk) hp hN;exact more _ _ _ xs' hd g2 (by omega) (by omega) (by omega) hn2
def Ip (xs:List Ac):Option (Fo×List Ac):=H3 (xs.length+1) false none 1 xs
theorem RL {P:Nat}{xs ys:List Ac}{f:Fo}(h:H3 P false none 1 xs=some (f,ys)):f.one=true:=by
 obtain⟨h1,h2,h3⟩:=GU _ _ _ _ _ _ _ h
 cases f with
 | nil=>cases h3
 | cell k c r=>
  cases r with
  | nil=>
   cases k with
   | none=>rfl
   | some s=>simp[Fo.wf,CU] at h2
  | cell _ _ _=>simp[Fo.cnt] at h3
  | node _ _ _ _=>simp[Fo.cnt] at h3
 | node k c kids r=>
  cases r with
  | nil=>
   cases k with
   | none=>rfl
   | some s=>simp[Fo.wf,CU] at h2
  | cell _ _ _=>simp[Fo.cnt] at h3
  | node _ _ _ _=>simp[Fo.cnt] at h3
theorem Tk (hA:Sv F M v)(h:Ip v=none):R0 (Qb F v) ([],0,MA):=by
 have hlf:DF []:=λx hx=>by cases hx
 unfold Ip at h;rw[H3] at h;simp only[Io,Zx] at h
 cases v with
 | nil=>exact R0.end_ (S:=[]) (ZJ 0) rfl
 | cons c xs'=>
  have hv1:(c::xs').drop (0:Int).toNat=c::xs':=rfl;have hvM:=hA.hv;have hMM:=hA.hM;simp only at h
  cases hp:pl c with
  | false=>exact R0.pl_ (S:=[]) hA (ZJ 0) hv1 (by simp) hlf hp
  | true=>
   rw[hp] at h;simp only[Z2,Zx] at h;have hcN:=(hA.hc c (by simp)).2.2
   cases hN:decide (0<c.fN) with
   | true=>
    rw[hN] at h;simp only[Z1] at h;simp only[Zr] at hN
    by_cases hbig:c.fN≤(c::xs').length
    ·have hnd:=Jh (S:=[]) (sh:=MA) hA (ZJ 0) hv1 (by simp) hlf rfl hp (by simpa using hN) hbig;refine hnd.bad ?_
     cases hks:H3 (c::xs').length (decide (c.fKind=6)) none c.fN.toNat xs' with
     | none=>
      obtain⟨n',hn'⟩:∃n',c.fN.toNat=n'+1:=⟨c.fN.toNat-1,by omega⟩
      rw[hn'] at hks;exact Rl hA (c::xs').length n' ⟨decide (c.fKind=6),c.fN,decide (c.fKind=6),[],false⟩ [] (0+1) _ none xs' (by simp) hks rfl (by simp only;omega) (by omega) rfl (λ_=>rfl) rfl (by omega) (by simp) hlf
     | some q=>rw[hks] at h;cases h
    ·refine⟨Im 0 MA c,.inl (Fin.step ?_)⟩;rw[show Qb F (c::xs') (([]:List AE),0,MA)=_ from round (S:=[]) hA (ZJ 0) hv1 (by simp) hlf];have hbig':decide (((c::xs').length:Int)<c.fN)=true:=by simpa using hbig
     simp only[Q8,hp,hbig',hN,Z2,Zx,Z1,decide_true]
   | false=>rw[hN] at h;cases h
theorem W3 (hA:Sv F M v):(∃f ys,Ip v=some (f,ys)∧If F v=some ((f.flat.length:Int),f.sh 0 MA,true))∨(Ip v=none∧∃sh',If F v=some (0,sh',false)):=by
 cases h:Ip v with
 | some q=>
  obtain⟨f,ys⟩:=q;obtain⟨h1,h2,h3⟩:=GU _ _ _ _ _ _ _ h;exact .inl ⟨f,ys,rfl,Qa hA (RL h) h2 h1⟩
 | none=>
  refine .inr ⟨rfl,?_⟩;obtain⟨o,ho,_⟩:=MT hA;obtain⟨sh',hb | hb⟩:=Tk hA h
  ·have e:=hb.eq ho;subst e;exact⟨sh',by unfold If;rw[Ca ho];rfl⟩
  ·have e:=hb.eq ho;subst e;exact⟨sh',by unfold If;rw[Ca ho];rfl⟩
end
end Go.Proofs.YtfobhhegpkinaaaGreatDoor
