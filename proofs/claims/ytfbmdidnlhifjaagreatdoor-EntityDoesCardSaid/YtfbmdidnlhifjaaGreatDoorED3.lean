/-
  Texts of the proof, put together: WNa, PNb, WNb, QK, PNc, Qw, Iter, QKs, WNc, PNd, WNd, OkEntityDoes, LvA, LvB, LvC, LvD, LvE.
-/
import Derived.Test.YtfbmdidnlhifjaaGreatDoorED2
import Derived.Sort.KeysCollected
import Derived.Shelf.SlIter.Nil
import Derived.Shelf.SortM.Plain
import Derived.Shelf.SortM.SortNone
import Derived.Test.YtfbmdidnlhifjaaGreatDoorProg
import GoSem.ClaimData
namespace Go.Proofs.YtfbmdidnlhifjaaGreatDoor.Q
open Go Go.RowKit
set_option linter.unusedVariables false
set_option linter.unusedSimpArgs false
set_option maxRecDepth 100000
set_option maxHeartbeats 4000000
@[reducible] def Hd (x:Int):Rp:=Ai x
theorem Q8 (Z:Fz):(Hd 0).p Z (.int .i64 0):=rfl
@[reducible] def Am (x:(List Ac)):List Rp:=[AG 4 (Ay Ab x)]
theorem Dl (x:(List Ac)):(Am x).length=1:=rfl
theorem Jb (x:(List Ac)):(Am x).all (·.one)=true:=rfl
@[reducible] def Aj (x:A3):List Rp:=[rS x.fEntity,rS x.fID,rS x.fOp,AG 1 (Ay Am x.fArgs)]
@[reducible] def A1 (x:A6):List Rp:=[Ai x.fErr,AG 4 (Ay Ab x.fValue)]
@[reducible] def Al (x:AA):List Rp:=[rS x.fOp.fEntity,rS x.fOp.fID,rS x.fOp.fOp,AG 1 (Ay Am x.fOp.fArgs),Ai x.fAnswer.fErr,AG 4 (Ay Ab x.fAnswer.fValue),Ai x.fFrom,Ai x.fTo]
theorem Hf (x:AA):(Al x).length=8:=rfl
theorem Kl (x:AA):(Al x).all (·.one)=true:=rfl
theorem RX:∃inf,Tryz.prog.info? 9=some inf∧inf.zero=some (.string ⟨#[]⟩)∧inf.size=1∧inf.bytes=16:=by
  have key:(Tryz.prog.info? 9).map (λi=>(i.zero,i.size,i.bytes))=some (some (.string ⟨#[]⟩),1,16):=by kernel_rfl
  obtain⟨inf,h1,h2⟩:=Option.map_eq_some_iff.1 key;simp only[Prod.mk.injEq] at h2;exact⟨inf,h1,h2.1,h2.2.1,h2.2.2⟩
theorem R3:∃inf,Tryz.prog.info? 22=some inf∧inf.zero=some (.slice none 0 0)∧inf.size=1∧inf.bytes=24:=by
  have key:(Tryz.prog.info? 22).map (λi=>(i.zero,i.size,i.bytes))=some (some (.slice none 0 0),1,24):=by kernel_rfl
  obtain⟨inf,h1,h2⟩:=Option.map_eq_some_iff.1 key;simp only[Prod.mk.injEq] at h2;exact⟨inf,h1,h2.1,h2.2.1,h2.2.2⟩
theorem R1:∃inf,Tryz.prog.info? 63=some inf∧inf.zero=some (.agg #[(.int .i64 0),(.int .i64 0),(.string ⟨#[]⟩),(.int .i64 0)])∧inf.size=4∧inf.bytes=40:=by
  have key:(Tryz.prog.info? 63).map (λi=>(i.zero,i.size,i.bytes))=some (some (.agg #[(.int .i64 0),(.int .i64 0),(.string ⟨#[]⟩),(.int .i64 0)]),4,40):=by kernel_rfl
  obtain⟨inf,h1,h2⟩:=Option.map_eq_some_iff.1 key;simp only[Prod.mk.injEq] at h2;exact⟨inf,h1,h2.1,h2.2.1,h2.2.2⟩
theorem Lu (parts:List (Nat×Value)):Tryz.prog.built 31 parts=Instr.fill (λi=>(#[(0,1),(1,1)]:Array (Nat×Nat))[i]?) #[(.int .i64 0),((.slice none 0 0))] parts:=by kernel_rfl
theorem EX {n:Nat}{c:Cx}{l:Fr}{H:List Ent}{d:Option Nat}{ty:TypeId}{pos:String}{af:Array Edge}{g:Option (Nat×Bool)}:Bo Tryz.prog n c l H { dst:=d,op:=.build 31 #[],type:=ty,pos:=pos,after:=af,guard:=g } (Bb [Ai 0,rv (.slice none 0 0)]):=λa w Z ha _=>by
  have hb:Tryz.prog.built 31 []=some #[(.int .i64 0),((.slice none 0 0))]:=by
    rw[Lu];simp[Instr.fill,Value.cells]
  refine⟨.agg #[(.int .i64 0),((.slice none 0 0))],⟨[(.int .i64 0),((.slice none 0 0))],rfl,rfl,rfl,trivial⟩,?_⟩;have:=run_build w 31 #[] _ (by simpa using hb);simp[execOp,this]
theorem CP {n:Nat}{c:Cx}{l:Fr}{H:List Ent}{d:Option Nat}{ty:TypeId}{pos:String}{af:Array Edge}{g:Option (Nat×Bool)}{x0:Operand}{r0:Rp}(h0:ev l x0=some r0)(u0:r0.one=true):Bo Tryz.prog n c l H { dst:=d,op:=.build 31 #[(0,x0)],type:=ty,pos:=pos,after:=af,guard:=g } (Bb [r0,rv (.slice none 0 0)]):=λa w Z ha _=>by
  have p0:=ha.ev h0;have c0:=Bz (r0.hone u0 Z _ p0);have hb:Tryz.prog.built 31 [(0,a.eval x0)]=some #[a.eval x0,((.slice none 0 0))]:=by
    rw[Lu];generalize a.eval x0=v0 at *;simp[Instr.fill,c0]
  refine⟨.agg #[a.eval x0,((.slice none 0 0))],⟨[a.eval x0,((.slice none 0 0))],rfl,p0,rfl,trivial⟩,?_⟩;have:=run_build w 31 #[(0,a.eval x0)] _ (by simpa using hb);simp[execOp,this]
theorem B9 {n:Nat}{c:Cx}{l:Fr}{H:List Ent}{d:Option Nat}{ty:TypeId}{pos:String}{af:Array Edge}{g:Option (Nat×Bool)}{x1:Operand}{r1:Rp}(h1:ev l x1=some r1)(u1:r1.one=true):Bo Tryz.prog n c l H { dst:=d,op:=.build 31 #[(1,x1)],type:=ty,pos:=pos,after:=af,guard:=g } (Bb [Ai 0,r1]):=λa w Z ha _=>by
  have p1:=ha.ev h1;have c1:=Bz (r1.hone u1 Z _ p1);have hb:Tryz.prog.built 31 [(1,a.eval x1)]=some #[(.int .i64 0),a.eval x1]:=by
    rw[Lu];generalize a.eval x1=v1 at *;simp[Instr.fill,c1]
  refine⟨.agg #[(.int .i64 0),a.eval x1],⟨[(.int .i64 0),a.eval x1],rfl,rfl,p1,trivial⟩,?_⟩;have:=run_build w 31 #[(1,a.eval x1)] _ (by simpa using hb);simp[execOp,this]
theorem C5 (ys:(List Ac))(r:(List Ac))(h:Cy ys=some r):Fn Tryz.prog GE 39 [AG 4 (Ay Ab ys)] [] (λR H=>R=AG 4 (Ay Ab r)∧H=[]):=by
 refine enter (n:=8) Tryz.func39 Aa Tryz.ntmps39 Aa (λw Z=>?_);unfold Cy at h;refine Af (wa Aa (As (Aq (Af (wm Aa (wv (Ok BF Aa) (As (OX Aa (λc1=>?_) (λc1=>?_)))))))))
 ·have e2:ys=[]:=List.map_eq_nil_iff.1 (c1 rfl);have h3:some ([]:List Ac)=some r:=by rw[e2] at h;exact(PU h).2
  refine Af (wa Aa (As (Av (Ad (WK.up (d:=2) (r:=AG 4 (Ay Ab ([]:List Ac))) Aa (Up.le (E7.nil _)) ?_)))));obtain rfl:=Aw h3;exact Au (BC Tryz.results39 (AH Aa)) sN ⟨Aa,Aa⟩
 ·refine A0 (AO (Af (Bj (ys:=([]:List Ac)) (enc:=Ab) (css:=[]) (xs:=[]) BF BJ GW Aa Aa Aa trivial Aa B2 Aa Aa Aa (λb4=>?_))));refine wm Aa (ck h λg6 h7=>Exists.elim R1 λinf hinf=>D9 (xs:=([]:List Ac)) (ys:=ys) (enc:=Ab) (i:=0) BF hinf.1 hinf.2.1 hinf.2.2.1 hinf.2.2.2 Aa Aa Aa Aa Aa (NJ.z Aa Aa) B2 Kk g6 Aa (λv5=>?_));refine wa Aa (As (Av (WK.freeze (i:=0) Aa (WK.up (d:=2) (r:=AG 4 (Ay Ab (([]:List Ac)++ys))) Aa (Up.fact (i:=0) Aa) ?_))));obtain rfl:=Aw h7;exact Au (BC Tryz.results39 (AH Aa)) (sS sN) ⟨Aa,Aa⟩
theorem O4 (c:Int)(r:Bool)(h:Ln c=some r):Fn Tryz.prog GE 97 [rI .u8 c] [] (λR H=>R=rB r∧H=[]):=by
 refine enter (n:=9) Tryz.func97 Aa Tryz.ntmps97 Aa (λw Z=>?_);unfold Ln at h;refine Af (wa Aa (As (AL [(2,rB ((decide (97≤c))&&(decide (c≤122))))] [] ?_ ?_)))
 ·refine Ar (wm Aa (wv (HS Aa Aa) (wm Aa (AQ (decide (97≤c)) (λc1=>?_) (λc1=>?_)))))
  ·refine wo c1 (wm Aa (wo c1 (wv (Kg Aa Aa) (D4 Aa c1 Aa (wa Aa (Ao ?_))))));exact BP c1
  ·refine wf c1 (wf c1 (wv (r:=rB false) (A4 Aa c1 Aa) (wa Aa (Ao ?_))));exact BP c1
 refine Av ?_;obtain rfl:=Aw h;exact Au (BC Tryz.results97 (AH Aa)) sN ⟨Aa,Aa⟩
theorem KB (c:Int)(r:Bool)(h:Jr c=some r):Fn Tryz.prog GE 98 [rI .u8 c] [] (λR H=>R=rB r∧H=[]):=by
 refine enter (n:=9) Tryz.func98 Aa Tryz.ntmps98 Aa (λw Z=>?_);unfold Jr at h;refine Af (wa Aa (As (AL [(2,rB ((decide (48≤c))&&(decide (c≤57))))] [] ?_ ?_)))
 ·refine Ar (wm Aa (wv (HS Aa Aa) (wm Aa (AQ (decide (48≤c)) (λc1=>?_) (λc1=>?_)))))
  ·refine wo c1 (wm Aa (wo c1 (wv (Kg Aa Aa) (D4 Aa c1 Aa (wa Aa (Ao ?_))))));exact BP c1
  ·refine wf c1 (wf c1 (wv (r:=rB false) (A4 Aa c1 Aa) (wa Aa (Ao ?_))));exact BP c1
 refine Av ?_;obtain rfl:=Aw h;exact Au (BC Tryz.results98 (AH Aa)) sN ⟨Aa,Aa⟩
theorem PK (c:Int)(r:Bool)(h:Lo c=some r):Fn Tryz.prog GE 82 [rI .u8 c] [] (λR H=>R=rB r∧H=[]):=by
 refine enter (n:=37) Tryz.func82 Aa Tryz.ntmps82 Aa (λw Z=>?_);unfold Lo at h;refine Af (wa Aa (As (Ej (S:=(Bool)×(Unit)) (λσ=>BK σ.1=some r) (λσ=>[(2,rB σ.1)]) (λσ=>[]) ?_ ?_)))
 ·refine Ar (wm Aa (ob h λhr hs ht=>BQ Tryz.call97 (O4 c hr hs) Aa (wm Aa (bz ht (λha hu=>?_) (λha hw=>?_)))))
  ·refine wf ha (wf ha (wf ha (wu (wu (wf ha (wv (r:=rB true) (At Aa ha Aa) (wm Aa (wz Aa Aa (wz Aa Aa (wv (r:=rB true) (At (b:=true) Aa Aa Aa) (wm Aa (wz Aa Aa (wz Aa Aa (wv (r:=rB true) (At (b:=true) Aa Aa Aa) (wm Aa (wz Aa Aa (wz Aa Aa (wv (r:=rB true) (At (b:=true) Aa Aa Aa) (wm Aa (wz Aa Aa (wz Aa Aa (wv (r:=rB true) (At (b:=true) Aa Aa Aa) (wm Aa ?_)))))))))))))))))))))));exact wz Aa Aa (wz Aa Aa (wv (r:=rB true) (At (b:=true) Aa Aa Aa) (wm Aa (wz Aa Aa (wz Aa Aa (wv (r:=rB true) (At (b:=true) Aa Aa Aa) (wa Aa (Ao (AF (AK (true,()) hu (AW.c Aa AW.nil) sN))))))))))
  ·refine wo ha (wm Aa (wo ha (wv (HS Aa Aa) (wo ha (wm Aa (bz hw (λhb hx=>?_) (λhb hy=>?_)))))))
   ·refine wo hb (wm Aa (wo hb (wv (Kg Aa Aa) (wo ha (D4 Aa hb Aa (Er Aa ha Aa (wm Aa (bz hx (λhd hz=>?_) (λhd h0=>?_)))))))))
    ·refine wf hd (wf hd (wv (r:=rB true) (At Aa hd Aa) (wm Aa (wz Aa Aa (wz Aa Aa (wv (r:=rB true) (At (b:=true) Aa Aa Aa) (wm Aa (wz Aa Aa (wz Aa Aa (wv (r:=rB true) (At (b:=true) Aa Aa Aa) (wm Aa (wz Aa Aa (wz Aa Aa (wv (r:=rB true) (At (b:=true) Aa Aa Aa) (wm Aa (wz Aa Aa (wz Aa Aa (wv (r:=rB true) (At (b:=true) Aa Aa Aa) (wm Aa (wz Aa Aa (wz Aa Aa (wv (r:=rB true) (At (b:=true) Aa Aa Aa) (wa Aa ?_)))))))))))))))))))))));exact Ao (AF (AK (true,()) hz (AW.c Aa AW.nil) sN))
    ·refine wo hd (wm Aa (wo hd (ob h0 λh1 h2 h3=>BQ Tryz.call98 (KB c h1 h2) Aa (Er Aa hd Aa (wm Aa (bz h3 (λhe h4=>?_) (λhe h5=>?_)))))))
     ·exact wf he (wf he (wv (r:=rB true) (At Aa he Aa) (wm Aa (wz Aa Aa (wz Aa Aa (wv (r:=rB true) (At (b:=true) Aa Aa Aa) (wm Aa (wz Aa Aa (wz Aa Aa (wv (r:=rB true) (At (b:=true) Aa Aa Aa) (wm Aa (wz Aa Aa (wz Aa Aa (wv (r:=rB true) (At (b:=true) Aa Aa Aa) (wm Aa (wz Aa Aa (wz Aa Aa (wv (r:=rB true) (At (b:=true) Aa Aa Aa) (wa Aa (Ao (AF (AK (true,()) h4 (AW.c Aa AW.nil) sN))))))))))))))))))))))
     ·refine wo he (wm Aa (wo he (wv (Bv Aa Aa) (Er Aa he Aa (wm Aa (bz h5 (λhf h6=>?_) (λhf h7=>?_)))))))
      ·exact wf hf (wf hf (wv (r:=rB true) (At Aa hf Aa) (wm Aa (wz Aa Aa (wz Aa Aa (wv (r:=rB true) (At (b:=true) Aa Aa Aa) (wm Aa (wz Aa Aa (wz Aa Aa (wv (r:=rB true) (At (b:=true) Aa Aa Aa) (wm Aa (wz Aa Aa (wz Aa Aa (wv (r:=rB true) (At (b:=true) Aa Aa Aa) (wa Aa (Ao (AF (AK (true,()) h6 (AW.c Aa AW.nil) sN))))))))))))))))))
      ·refine wo hf (wm Aa (wo hf (wv (Bv Aa Aa) (Er Aa hf Aa (wm Aa (bz h7 (λhg h8=>?_) (λhg h9=>?_)))))))
       ·exact wf hg (wf hg (wv (r:=rB true) (At Aa hg Aa) (wm Aa (wz Aa Aa (wz Aa Aa (wv (r:=rB true) (At (b:=true) Aa Aa Aa) (wm Aa (wz Aa Aa (wz Aa Aa (wv (r:=rB true) (At (b:=true) Aa Aa Aa) (wa Aa (Ao (AF (AK (true,()) h8 (AW.c Aa AW.nil) sN))))))))))))))
       ·refine wo hg (wm Aa (wo hg (wv (Bv Aa Aa) (Er Aa hg Aa (wm Aa (bz h9 (λhh hA=>?_) (λhh hB=>?_)))))))
        ·exact wf hh (wf hh (wv (r:=rB true) (At Aa hh Aa) (wm Aa (wz Aa Aa (wz Aa Aa (wv (r:=rB true) (At (b:=true) Aa Aa Aa) (wa Aa (Ao (AF (AK (true,()) hA (AW.c Aa AW.nil) sN))))))))))
        ·refine wo hh (wm Aa (wo hh (wv (Bv Aa Aa) (Er Aa hh Aa (wm Aa (bz hB (λhi hC=>?_) (λhi hD=>?_)))))))
         ·exact wf hi (wf hi (wv (r:=rB true) (At Aa hi Aa) (wa Aa (Ao (AF (AK (true,()) hC (AW.c Aa AW.nil) sN))))))
         ·exact wo hi (wm Aa (wo hi (wv (Bv Aa Aa) (Er Aa hi Aa (wa Aa (Ao (AF (AK (decide (c=47),()) hD (AW.c Aa AW.nil) sN))))))))
   ·refine wf hb (wf hb (wo ha (wv (r:=rB false) (A4 Aa hb Aa) (Er Aa ha Aa (wm Aa (Bk (b:=false) Aa Aa Aa (wm Aa (Bk (b:=false) Aa Aa Aa (ob hy λhp hE hG=>BQ Tryz.call98 (KB c hp hE) Aa (wv (r:=rB hp) (A4 (b:=false) Aa Aa Aa) (wm Aa (bz hG (λhj hH=>?_) (λhj hI=>?_)))))))))))))
    ·exact wf hj (wf hj (wv (r:=rB true) (At Aa hj Aa) (wm Aa (wz Aa Aa (wz Aa Aa (wv (r:=rB true) (At (b:=true) Aa Aa Aa) (wm Aa (wz Aa Aa (wz Aa Aa (wv (r:=rB true) (At (b:=true) Aa Aa Aa) (wm Aa (wz Aa Aa (wz Aa Aa (wv (r:=rB true) (At (b:=true) Aa Aa Aa) (wm Aa (wz Aa Aa (wz Aa Aa (wv (r:=rB true) (At (b:=true) Aa Aa Aa) (wa Aa (Ao (AF (AK (true,()) hH (AW.c Aa AW.nil) sN))))))))))))))))))))))
    ·refine wo hj (wm Aa (wo hj (wv (Bv Aa Aa) (Er Aa hj Aa (wm Aa (bz hI (λhk hJ=>?_) (λhk hK=>?_)))))))
     ·exact wf hk (wf hk (wv (r:=rB true) (At Aa hk Aa) (wm Aa (wz Aa Aa (wz Aa Aa (wv (r:=rB true) (At (b:=true) Aa Aa Aa) (wm Aa (wz Aa Aa (wz Aa Aa (wv (r:=rB true) (At (b:=true) Aa Aa Aa) (wm Aa (wz Aa Aa (wz Aa Aa (wv (r:=rB true) (At (b:=true) Aa Aa Aa) (wa Aa (Ao (AF (AK (true,()) hJ (AW.c Aa AW.nil) sN))))))))))))))))))
     ·refine wo hk (wm Aa (wo hk (wv (Bv Aa Aa) (Er Aa hk Aa (wm Aa (bz hK (λhl hL=>?_) (λhl hN=>?_)))))))
      ·exact wf hl (wf hl (wv (r:=rB true) (At Aa hl Aa) (wm Aa (wz Aa Aa (wz Aa Aa (wv (r:=rB true) (At (b:=true) Aa Aa Aa) (wm Aa (wz Aa Aa (wz Aa Aa (wv (r:=rB true) (At (b:=true) Aa Aa Aa) (wa Aa (Ao (AF (AK (true,()) hL (AW.c Aa AW.nil) sN))))))))))))))
      ·refine wo hl (wm Aa (wo hl (wv (Bv Aa Aa) (Er Aa hl Aa (wm Aa (bz hN (λhm hO=>?_) (λhm hP=>?_)))))))
       ·exact wf hm (wf hm (wv (r:=rB true) (At Aa hm Aa) (wm Aa (wz Aa Aa (wz Aa Aa (wv (r:=rB true) (At (b:=true) Aa Aa Aa) (wa Aa (Ao (AF (AK (true,()) hO (AW.c Aa AW.nil) sN))))))))))
       ·refine wo hm (wm Aa (wo hm (wv (Bv Aa Aa) (Er Aa hm Aa (wm Aa (bz hP (λhn hQ=>?_) (λhn hR=>?_)))))))
        ·exact wf hn (wf hn (wv (r:=rB true) (At Aa hn Aa) (wa Aa (Ao (AF (AK (true,()) hQ (AW.c Aa AW.nil) sN))))))
        ·exact wo hn (wm Aa (wo hn (wv (Bv Aa Aa) (Er Aa hn Aa (wa Aa (Ao (AF (AK (decide (c=47),()) hR (AW.c Aa AW.nil) sN))))))))
 ·rintro⟨hq,⟨⟩⟩ ho;refine Co (l':=[(2,rB hq)]) (H':=[]) Aa Aa ?_;replace ho:BK hq=some r:=ho;unfold BK at ho;refine Av ?_;obtain rfl:=Aw ho;exact Au (BC Tryz.results82 (AH Aa)) sN ⟨Aa,Aa⟩
theorem PL (F:Nat)(s:An)(r:Bool)(h:Ht F s=some r):Fn Tryz.prog GE 64 [rS s] [] (λR H=>R=rB r∧H=[]):=by
 refine enter (n:=23) Tryz.func64 Aa Tryz.ntmps64 Aa (λw Z=>?_);unfold Ht at h;refine Af (wa Aa (As (Aq (AL [(0,rS s),(11,rB ((decide ((s.length:Int)<1))||(decide (64<(s.length:Int)))))] [] ?_ ?_))))
 ·refine Ar (wm Aa (wv (Cb DM Aa) (wv (CO Aa Aa) (wm Aa (AQ (decide ((s.length:Int)<1)) (λc1=>?_) (λc1=>?_))))))
  ·refine wf c1 (wf c1 (wf c1 (wv (r:=rB true) (At Aa c1 Aa) (Ao ?_))));exact BP c1
  ·refine wo c1 (wm Aa (wo c1 (wv (Cb DM Aa) (wo c1 (wv (De Aa Aa) (Er Aa c1 Aa (Ao ?_)))))));exact BP c1
 refine cz h Aa (λc2 h3=>?_) (λc2 h4=>?_)
 ·refine Af (wa Aa (As (Av (Ad ?_))));obtain rfl:=Aw h3;exact Au (BC Tryz.results64 (AH Aa)) sN ⟨Aa,Aa⟩
 ·refine A0 (AO (Aq (Af (wa Aa (As (AU (ob h4 λhg hh hf=>B4 (S:=Nat×(Int)×(Unit)) (V:=(Unit)×(Unit)) 0 (λσ=>Ck (λσ=>GS s σ) σ.1 σ.2.1=some hg) (λσ=>[(0,rS s),(3,Ai σ.2.1)]) (λσ=>[]) (λσ=>σ.1) (F,0,()) hh (AW.c Aa (AW.c Aa AW.nil)) sN (λσ=>Jq =some r) (λσ=>[]) (λσ=>[]) ?_ ?_)))))))
  ·rintro⟨h2,ha,⟨⟩⟩ hi;refine Co (l':=[(0,rS s),(3,Ai ha)]) (H':=[]) Aa Aa ?_;obtain⟨hj,rfl,hk,hb,he⟩:=CC hi;replace hb:GS s ha=some hk:=hb;unfold GS at hb;refine Aq (Af (wm Aa (wm Aa (wv (Cb DM Aa) (wv (CO Aa Aa) (As (cz hb Aa (λhl hm=>?_) (λhl hn=>?_))))))))
   ·refine A0 (AO (Aq (AU (Af (wm Aa (wm Aa (ck hm λho hp=>wv (Dq DM Aa Aa ho) (ob hp λhq hr hs=>BQ Tryz.call82 (PK (Ih s ha) hq hr) Aa (wv (Cg Aa) (As (cz hs Aa (λht hu=>?_) (λht hw=>?_))))))))))))
    ·refine Af (wa Aa (As (Av (AB (Ad (Ad (Bt ?_)))))));have hx:=BN hu he hf;refine AB (Ad ?_);obtain rfl:=Aw hx;exact Au (BC Tryz.results64 (AH Aa)) sN ⟨Aa,Aa⟩
    ·refine A0 (AV (AO (Ar (wm Aa (ck hw λhy hz=>wv (B0 Aa Aa hy) (wa Aa (Ao ?_)))))));have h0:=Br hz he;exact AF (AK (hj,ha+1,()) ⟨h0,ST _⟩ (AW.c Aa (AW.c Aa AW.nil)) sN)
   ·refine B7 (A7 ?_);have h1:=BZ hn he hf;exact A7 (Bp (AK ((),()) h1 AW.nil sN))
  ·rintro⟨⟨⟩,⟨⟩⟩ hd;refine CB (l':=[]) (H':=[]) Aa Aa ?_;replace hd:Jq =some r:=hd;unfold Jq at hd;refine Bn (AO (Af (wa Aa (As (Av ?_)))));obtain rfl:=Aw hd;exact Au (BC Tryz.results64 (AH Aa)) sN ⟨Aa,Aa⟩
theorem P3 (op:An)(r:Int×Bool)(h:JE op=some r):Fn Tryz.prog GE 54 [rS op] [] (λR H=>R=C4 [Ai r.1,rB r.2]∧H=[]):=by
 refine enter (n:=15) Tryz.func54 Aa Tryz.ntmps54 Aa (λw Z=>?_);unfold JE at h;refine Af (wa Aa (wa Aa (B1 (Kn Aa (λb1=>?_)))));refine CG (enc:=Hd) (xs:=([]:List (An×Int))) (v:=0) (i:=0) L8 DM Aa Aa Aa Aa (H':=[.map b1 (AD Hd (AY ([]:List (An×Int)) ([114,101,97,100]:An) 0))]) Aa (CG (enc:=Hd) (xs:=AY ([]:List (An×Int)) ([114,101,97,100]:An) 0) (v:=1) (i:=0) L8 DM Aa Aa Aa Aa (H':=[.map b1 (AD Hd (AY (AY ([]:List (An×Int)) ([114,101,97,100]:An) 0) ([119,114,105,116,101]:An) 1))]) Aa (CG (enc:=Hd) (xs:=AY (AY ([]:List (An×Int)) ([114,101,97,100]:An) 0) ([119,114,105,116,101]:An) 1) (v:=1) (i:=0) L8 DM Aa Aa Aa Aa (H':=[.map b1 (AD Hd (AY (AY (AY ([]:List (An×Int)) ([114,101,97,100]:An) 0) ([119,114,105,116,101]:An) 1) ([97,100,100]:An) 1))]) Aa (CG (enc:=Hd) (xs:=AY (AY (AY ([]:List (An×Int)) ([114,101,97,100]:An) 0) ([119,114,105,116,101]:An) 1) ([97,100,100]:An) 1) (v:=2) (i:=0) L8 DM Aa Aa Aa Aa (H':=[.map b1 (AD Hd (AY (AY (AY (AY ([]:List (An×Int)) ([114,101,97,100]:An) 0) ([119,114,105,116,101]:An) 1) ([97,100,100]:An) 1) ([99,97,115]:An) 2))]) Aa (wm Aa (wm Aa (wv (r:=C4 [Ai (A2 (AY (AY (AY (AY ([]:List (An×Int)) ([114,101,97,100]:An) 0) ([119,114,105,116,101]:An) 1) ([97,100,100]:An) 1) ([99,97,115]:An) 2) op 0),rB (BG (AY (AY (AY (AY ([]:List (An×Int)) ([114,101,97,100]:An) 0) ([119,114,105,116,101]:An) 1) ([97,100,100]:An) 1) ([99,97,115]:An) 2) op)]) (GC (enc:=Hd) (xs:=AY (AY (AY (AY ([]:List (An×Int)) ([114,101,97,100]:An) 0) ([119,114,105,116,101]:An) 1) ([97,100,100]:An) 1) ([99,97,115]:An) 2) (z:=0) (i:=0) L8 DM Tryz.zeroValue3 Q8 Aa Aa Aa) (wm Aa (wv (AJ Aa Aa) (wv (AJ Aa Aa) (wa Aa (wa Aa (B1 (wm Aa (wm Aa (wa Aa (wa Aa (As (Av ?_))))))))))))))))));obtain rfl:=Aw h;exact Au (Il Tryz.results54 (AH Aa) (AH Aa)) (sS sN) ⟨Aa,Aa⟩
theorem Mh (F:Nat)(op:A3)(r:Int)(h:I8 F op=some r):Fn Tryz.prog GE 36 [Bb (Aj op)] [] (λR H=>R=Ai r∧H=[]):=by
 refine enter (n:=46) Tryz.func36 Aa Tryz.ntmps36 Aa (λw Z=>?_);unfold I8 at h;refine Af (B6 Aa Aa (λb1=>?_));refine wa Aa (B1 (vF BS Aa Dm (vL 0 Dx Aa (ob h λr2 e4 h3=>BQ Tryz.call54 (P3 op.fOp r2 e4) Aa (wm Aa (wv (AJ Aa Aa) (wv (AJ Aa Aa) (wa Aa (wa Aa (As (Aq (AL [(1,rP b1 0),(3,Ai r2.1),(27,rB ((!(Gp op.fEntity))||((!(Gp op.fID))||(!r2.2))))] [.blk b1 (Aj op) 25] ?_ ?_))))))))))))
 ·refine Ar (vF BS Aa Dm (vL 0 Dx Aa (EO (rs:=[rS op.fEntity]) (r:=rB (Gp op.fEntity)) Tryz.call55 Aa (RZ op.fEntity) Aa Aa (wv (Cg Aa) (wm Aa (AQ (!(Gp op.fEntity)) (λc5=>?_) (λc5=>?_)))))))
  ·refine wf c5 (wf c5 (wf c5 (wf c5 (wv (r:=rB true) (At Aa c5 Aa) (wm Aa (wz Aa Aa (wz Aa Aa (wv (r:=rB true) (At (b:=true) Aa Aa Aa) (Ao ?_)))))))));exact BP c5
  ·refine wo c5 (vF BS Aa Dm (wo c5 (vL 0 Dx Aa (wo c5 (EO (rs:=[rS op.fID]) (r:=rB (Gp op.fID)) Tryz.call55 Aa (RZ op.fID) Aa Aa (wo c5 (wv (Cg Aa) (Er Aa c5 Aa (wm Aa (AQ (!(Gp op.fID)) (λc6=>?_) (λc6=>?_)))))))))))
   ·refine wf c6 (wf c6 (wv (r:=rB true) (At Aa c6 Aa) (Ao ?_)));exact BP (And.intro c5 c6)
   ·refine wo c6 (wm Aa (wo c6 (wv (Cg Aa) (Er Aa c6 Aa (Ao ?_)))));exact BP (And.intro c5 c6)
 refine cz h3 Aa (λc7 h8=>?_) (λc7 h9=>?_)
 ·refine Af (wa Aa (As (Av (Ad ?_))));obtain rfl:=Aw h8;exact Au (BC Qk (AH Aa)) (sS sN) ⟨Aa,Aa⟩
 ·refine A0 (AO (Aq (Af (vF BS Aa Dy (vL 0 DT Aa (wv (Bi (ys:=op.fArgs) (enc:=Am) CR Aa) (wm Aa (wv (CZ Aa Aa) (As (cz h9 Aa (λhg hh=>?_) (λhg hi=>?_)))))))))))
  ·refine Af (wa Aa (As (Av (Ad ?_))));obtain rfl:=Aw hh;exact Au (BC Qk (AH Aa)) (sS sN) ⟨Aa,Aa⟩
  ·refine A0 (AO (Aq (Af (vF BS Aa Dy (vL 0 DT Aa (wv (Bi (ys:=op.fArgs) (enc:=Am) CR Aa) (wv (r:=Ai 0) (A5 Aa) (As (AU (ob hi λhj hk hf=>B4 (S:=Nat×(Int)×(Unit)) (V:=(Unit)×(Unit)) 0 (λσ=>Ck (λσ=>Ef F op σ) σ.1 σ.2.1=some hj) (λσ=>[(34,AG 1 (Ay Am op.fArgs)),(35,Ai (op.fArgs.length:Int)),(36,Ai σ.2.1)]) (λσ=>[]) (λσ=>σ.1) (F,0,()) hk (AW.c Aa (AW.c Aa (AW.c Aa AW.nil))) (sS sN) (λσ=>GK =some r) (λσ=>[]) (λσ=>[]) ?_ ?_))))))))))
   ·rintro⟨h6,ha,⟨⟩⟩ hl;refine Co (l':=[(34,AG 1 (Ay Am op.fArgs)),(35,Ai (op.fArgs.length:Int)),(36,Ai ha)]) (H':=[]) Aa Aa ?_;obtain⟨hm,rfl,hn,hb,he⟩:=CC hl;replace hb:Ef F op ha=some hn:=hb;unfold Ef at hb;refine Af (wv (CO Aa Aa) (As (Aq (cz hb Aa (λho hp=>?_) (λho hq=>?_)))))
    ·refine A0 (AO (Aq (AU (Af (ck hp λhr hs=>wv (Bg (enc:=Am) (ys:=op.fArgs) CR CT Aa Aa hr) (wv (Ba Dz Aa Aa) (wa Aa (B1 (wm Aa (ob hs λht hu hw=>BQ Tryz.call37 (LK F (Ae op.fArgs ha) ht hu) Aa (wa Aa (B1 (wm Aa (wv (CZ Aa Aa) (As (cz hw Aa (λhx hy=>?_) (λhx hz=>?_)))))))))))))))))
     ·refine Af (wm Aa (wa Aa (As (Av (AB (Ad (Ad (Bt ?_))))))));have h0:=BN hy he hf;refine AB (Ad ?_);obtain rfl:=Aw h0;exact Au (BC Qk (AH Aa)) sN ⟨Aa,Aa⟩
     ·refine A0 (AV (AO (Ar (ck hz λh1 h2=>wv (B0 Aa Aa h1) (wm Aa (Ao ?_))))));have h4:=Br h2 he;exact AF (AK (hm,ha+1,()) ⟨h4,ST _⟩ (AW.c Aa (AW.c Aa (AW.c Aa AW.nil))) sN)
    ·refine B7 (A7 ?_);have h5:=BZ hq he hf;exact A7 (Bp (AK ((),()) h5 AW.nil sN))
   ·rintro⟨⟨⟩,⟨⟩⟩ hd;refine CB (l':=[]) (H':=[]) Aa Aa ?_;replace hd:GK =some r:=hd;unfold GK at hd;refine Bn (AO (Af (wa Aa (As (Av ?_)))));obtain rfl:=Aw hd;exact Au (BC Qk (AH Aa)) sN ⟨Aa,Aa⟩
theorem Mg (state:(List Ac))(args:(List (List Ac)))(r:(List Ac)×A6)(h:GH state args=some r):Fn Tryz.prog GE 57 [AG 4 (Ay Ab state),AG 1 (Ay Am args)] [] (λR H=>R=C4 [AG 4 (Ay Ab r.1),Bb (A1 r.2)]∧H=[]):=by
 refine enter (n:=10) Tryz.func57 Aa Tryz.ntmps57 Aa (λw Z=>?_);unfold GH at h;refine Af (wa Aa (BA (cs:=[Ai 0,rv (.slice none 0 0)]) GX Aa Aa (λb1=>?_)));refine B1 (wm Aa (wm Aa (ob h λr2 e4 h3=>BQ IX (C5 state r2 e4) Aa (wv (r:=Bb [Ai 0,AG 4 (Ay Ab r2)]) (B9 Aa Aa) (wa Aa (A8 (i:=0) Bw Aa Aa Aa (AZ.c Aa) Aa Aa (cs':=[Ai 0,AG 4 (Ay Ab r2)]) Aa (H':=[.blk b1 [Ai 0,AG 4 (Ay Ab r2)] 31]) Aa (As (Av ?_))))))));obtain rfl:=Aw h3;exact Au (Il Tryz.results57 (AH Aa) (BD (i:=0) Cs Bw Aa Aa Aa)) (sS sN) ⟨Aa,Aa⟩
theorem Lj (state:(List Ac))(args:(List (List Ac)))(r:(List Ac)×A6)(h:EY state args=some r):Fn Tryz.prog GE 58 [AG 4 (Ay Ab state),AG 1 (Ay Am args)] [] (λR H=>R=C4 [AG 4 (Ay Ab r.1),Bb (A1 r.2)]∧H=[]):=by
 refine enter (n:=12) Tryz.func58 Aa Tryz.ntmps58 Aa (λw Z=>?_);unfold EY at h;refine Af (wa Aa (BA (cs:=[Ai 0,rv (.slice none 0 0)]) GX Aa Aa (λb1=>?_)));refine B1 (wm Aa (ck h λg2 h3=>wv (Bg (enc:=Am) (ys:=args) CR CT Aa Aa g2) (wv (Ba Dz Aa Aa) (ob h3 λr4 e6 h5=>BQ IX (C5 (Ae args 0) r4 e6) Aa (ob h5 λr7 e9 h8=>BQ Tryz.call47 (KT r7 e9) Aa (wv (r:=Bb [Ai 0,AG 4 (Ay Ab r7)]) (B9 Aa Aa) (wa Aa (A8 (i:=0) Bw Aa Aa Aa (AZ.c Aa) Aa Aa (cs':=[Ai 0,AG 4 (Ay Ab r7)]) Aa (H':=[.blk b1 [Ai 0,AG 4 (Ay Ab r7)] 31]) Aa (As (Av ?_))))))))));obtain rfl:=Aw h8;exact Au (Il Tryz.results58 (AH Aa) (BD (i:=0) Cs Bw Aa Aa Aa)) (sS sN) ⟨Aa,Aa⟩
theorem MQ (F:Nat)(state:(List Ac))(args:(List (List Ac)))(r:(List Ac)×A6)(h:HX F state args=some r):Fn Tryz.prog GE 60 [AG 4 (Ay Ab state),AG 1 (Ay Am args)] [] (λR H=>R=C4 [AG 4 (Ay Ab r.1),Bb (A1 r.2)]∧H=[]):=by
 refine enter (n:=21) Tryz.func60 Aa Tryz.ntmps60 Aa (λw Z=>?_);unfold HX at h;refine Af (wa Aa (BA (cs:=[Ai 0,rv (.slice none 0 0)]) GX Aa Aa (λb1=>?_)));refine As (Aq (Af (wm Aa (wm Aa (ck h λg2 h3=>wv (Bg (enc:=Am) (ys:=args) CR CT Aa Aa g2) (wv (Ba Dz Aa Aa) (ob h3 λr4 e6 h5=>BQ Tryz.call61 (Qr F state (Ae args 0) r4 e6) Aa (wv (Cg Aa) (As (cz h5 Aa (λc7 h8=>?_) (λc7 hb=>?_)))))))))))
 ·refine Af (wm Aa (ob h8 λr9 hd he=>BQ Tryz.call62 (Nm false r9 hd) Aa (wv (r:=Bb [Ai 0,AG 4 (Ay Ab r9)]) (B9 Aa Aa) (wa Aa (A8 (i:=0) Bw Aa Aa Aa (AZ.c Aa) Aa Aa (cs':=[Ai 0,AG 4 (Ay Ab r9)]) Aa (H':=[.blk b1 [Ai 0,AG 4 (Ay Ab r9)] 31]) Aa (As (Av (Ad ?_))))))));obtain rfl:=Aw he;exact Au (Il Tryz.results60 (AH Aa) (BD (i:=0) Cs Bw Aa Aa Aa)) (sS sN) ⟨Aa,Aa⟩
 ·refine A0 (AO (Af (wm Aa (ck hb λhf hg=>wv (Bg (enc:=Am) (ys:=args) CR CT Aa Aa hf) (wv (Ba Dz Aa Aa) (ob hg λhh hi hj=>BQ IX (C5 (Ae args 1) hh hi) Aa (ob hj λha hk hl=>BQ Tryz.call62 (Nm true ha hk) Aa (wv (r:=Bb [Ai 0,AG 4 (Ay Ab ha)]) (B9 Aa Aa) (wa Aa (A8 (i:=0) Bw Aa Aa Aa (AZ.c Aa) Aa Aa (cs':=[Ai 0,AG 4 (Ay Ab ha)]) Aa (H':=[.blk b1 [Ai 0,AG 4 (Ay Ab ha)] 31]) Aa (As (Av ?_))))))))))));obtain rfl:=Aw hl;exact Au (Il Tryz.results60 (AH Aa) (BD (i:=0) Cs Bw Aa Aa Aa)) (sS sN) ⟨Aa,Aa⟩
theorem MO (F:Nat)(n:(List Int))(r:Bool)(h:Gv F n=some r):Fn Tryz.prog GE 95 [AG 1 (Ay E6 n)] [] (λR H=>R=rB r∧H=[]):=by
 refine enter (n:=15) Tryz.func95 Aa Tryz.ntmps95 Aa (λw Z=>?_);unfold Gv at h;refine Af (wa Aa (As (Aq (Af (wm Aa (wv (Bi (ys:=n) (enc:=E6) OM Aa) (wv (r:=Ai 0) (A5 Aa) (As (AU (ob h λhg hh hf=>B4 (S:=Nat×(Int)×(Unit)) (V:=(Unit)×(Unit)) 0 (λσ=>Ck (λσ=>Dr n σ) σ.1 σ.2.1=some hg) (λσ=>[(5,AG 1 (Ay E6 n)),(6,Ai (n.length:Int)),(7,Ai σ.2.1)]) (λσ=>[]) (λσ=>σ.1) (F,0,()) hh (AW.c Aa (AW.c Aa (AW.c Aa AW.nil))) sN (λσ=>Ex =some r) (λσ=>[]) (λσ=>[]) ?_ ?_))))))))))
 ·rintro⟨h2,ha,⟨⟩⟩ hi;refine Co (l':=[(5,AG 1 (Ay E6 n)),(6,Ai (n.length:Int)),(7,Ai ha)]) (H':=[]) Aa Aa ?_;obtain⟨hj,rfl,hk,hb,he⟩:=CC hi;replace hb:Dr n ha=some hk:=hb;unfold Dr at hb;refine Af (wv (CO Aa Aa) (As (Aq (cz hb Aa (λhl hm=>?_) (λhl hn=>?_)))))
  ·refine A0 (AO (Aq (AU (Af (ck hm λho hp=>wv (Bg (enc:=E6) (ys:=n) OM Cq Aa Aa ho) (wv (Ba Dk Aa Aa) (wa Aa (B1 (wm Aa (ob hp λhq hr hs=>BQ Tryz.call79 (JB (Ae n ha) hq hr) Aa (wv (Cg Aa) (As (cz hs Aa (λht hu=>?_) (λht hw=>?_))))))))))))))
   ·refine Af (wa Aa (As (Av (AB (Ad (Ad (Bt ?_)))))));have hx:=BN hu he hf;refine AB (Ad ?_);obtain rfl:=Aw hx;exact Au (BC Tryz.results95 (AH Aa)) sN ⟨Aa,Aa⟩
   ·refine A0 (AV (AO (Ar (ck hw λhy hz=>wv (B0 Aa Aa hy) (wm Aa (Ao ?_))))));have h0:=Br hz he;exact AF (AK (hj,ha+1,()) ⟨h0,ST _⟩ (AW.c Aa (AW.c Aa (AW.c Aa AW.nil))) sN)
  ·refine B7 (A7 ?_);have h1:=BZ hn he hf;exact A7 (Bp (AK ((),()) h1 AW.nil sN))
 ·rintro⟨⟨⟩,⟨⟩⟩ hd;refine CB (l':=[]) (H':=[]) Aa Aa ?_;replace hd:Ex =some r:=hd;unfold Ex at hd;refine Bn (AO (Af (wa Aa (As (Av ?_)))));obtain rfl:=Aw hd;exact Au (BC Tryz.results95 (AH Aa)) sN ⟨Aa,Aa⟩
theorem Me (n:Int)(r:Int×Int)(h:GF n=some r):Fn Tryz.prog GE 96 [Ai n] [] (λR H=>R=C4 [Ai r.1,Ai r.2]∧H=[]):=by
 refine enter (n:=8) Tryz.func96 Aa Tryz.ntmps96 Aa (λw Z=>?_);unfold GF at h;refine Af (wa Aa (wa Aa (As (Aq (Af (wm Aa (ob h λr1 e3 h2=>BQ Tryz.call79 (JB n r1 e3) Aa (wv (Cg Aa) (As (cz h2 Aa (λc4 h5=>?_) (λc4 h6=>?_)))))))))))
 ·refine Af (wa Aa (wa Aa (As (Av (Ad ?_)))));obtain rfl:=Aw h5;exact Au (Il Tryz.results96 (AH Aa) (AH Aa)) sN ⟨Aa,Aa⟩
 ·refine A0 (AO (Af (wm Aa (wa Aa (wa Aa (As (Av ?_)))))));obtain rfl:=Aw h6;exact Au (Il Tryz.results96 (AH Aa) (AH Aa)) sN ⟨Aa,Aa⟩
theorem Mf (F:Nat)(a:Int)(b:Int)(r:Int×Int)(h:I6 F a b=some r):Fn Tryz.prog GE 81 [Ai a,Ai b] [] (λR H=>R=C4 [Ai r.1,Ai r.2]∧H=[]):=by
 refine enter (n:=17) Tryz.func81 Aa Tryz.ntmps81 Aa (λw Z=>?_);unfold I6 at h;refine Af (wa Aa (wa Aa (As (Aq (Af (wm Aa (wm Aa (Bj (ys:=([a,b]:List Int)) (enc:=E6) (css:=[[Ai a],[Ai b]]) (xs:=[.tmp 6,.tmp 7]) OM Cq Tryz.zeroValue3 Aa Aa Aa ⟨IK.one Aa (Up.refl _),IK.one Aa (Up.refl _),trivial⟩ Aa Nd Aa Aa Aa (λb1=>?_)))))))));refine WL.freeze (i:=0) Aa (WL.up (d:=8) (r:=AG 1 (Ay E6 ([a,b]:List Int))) Aa (Up.fact (i:=0) Aa) (ob h λr2 e4 h3=>BQ Tryz.call95 (MO F ([a,b]:List Int) r2 e4) Aa (wv (Cg Aa) (As (cz h3 Aa (λc5 h6=>?_) (λc5 h7=>?_))))))
 ·refine Af (wa Aa (wa Aa (As (Av (Ad ?_)))));obtain rfl:=Aw h6;exact Au (Il Tryz.results81 (AH Aa) (AH Aa)) (sS sN) ⟨Aa,Aa⟩
 ·refine A0 (AO (Af (wm Aa (wm Aa (ck h7 λg8 h9=>wv (B0 Aa Aa g8) (ob h9 λha hb hd=>BQ Tryz.call96 (Me (a+b) ha hb) Aa (wv (AJ Aa Aa) (wv (AJ Aa Aa) (wa Aa (wa Aa (As (Av ?_))))))))))));obtain rfl:=Aw hd;exact Au (Il Tryz.results81 (AH Aa) (AH Aa)) (sS sN) ⟨Aa,Aa⟩
theorem P4 (F:Nat)(state:(List Ac))(args:(List (List Ac)))(r:(List Ac)×A6)(h:JF F state args=some r):Fn Tryz.prog GE 59 [AG 4 (Ay Ab state),AG 1 (Ay Am args)] [] (λR H=>R=C4 [AG 4 (Ay Ab r.1),Bb (A1 r.2)]∧H=[]):=by
 refine enter (n:=56) Tryz.func59 Aa Tryz.ntmps59 Aa (λw Z=>?_);unfold JF at h;refine Af (wa Aa (BA (cs:=[Ai 0,rv (.slice none 0 0)]) GX Aa Aa (λb1=>?_)));refine B1 (wa Aa (As (Aq (Af (wm Aa (ck h λg2 h3=>wv (Bg (enc:=Ab) (ys:=state) BF BJ Aa Aa g2) (wv (Be Bh Aa CS Aa Aa) (wv (Ba CU Aa Aa) (As (AU (Af (wv (Bv Aa Aa) (wa Aa (As (cz h3 Aa (λc4 h5=>?_) (λc4 hh=>?_))))))))))))))))
 ·refine Ar (wm Aa (wv (Bg (enc:=Ab) (ys:=state) BF BJ Aa Aa g2) (wv (Be Bh Aa Cq Aa Aa) (wv (Ba Dk Aa Aa) (wa Aa (Ao (AV (AO (Aq (Af (wm Aa (ck h5 λg6 h7=>wv (Bg (enc:=Am) (ys:=args) CR CT Aa Aa g6) (wv (Ba Dz Aa Aa) (ck h7 λg8 h9=>wv (Bg (enc:=Ab) (ys:=Ae args 0) BF BJ Aa Aa g8) (wv (Be Bh Aa CS Aa Aa) (wv (Ba CU Aa Aa) (wv (CZ Aa Aa) (As (cz h9 Aa (λhi hj=>?_) (λhi hk=>?_))))))))))))))))))))
  ·refine Af (wm Aa (wv (r:=Bb [Ai 7,rv (.slice none 0 0)]) (CP Aa Aa) (wa Aa (A8 (i:=0) Bw Aa Aa Aa (AZ.c Aa) Aa Aa (cs':=[Ai 7,rv (.slice none 0 0)]) Aa (H':=[.blk b1 [Ai 7,rv (.slice none 0 0)] 31]) Aa (As (Av (Ad (WK.upBlk (i:=0) (cs':=[Ai 7,AG 4 (Ay Ab ([]:List Ac))]) Aa ⟨Up.refl _,Up.le (E7.nil _),trivial⟩ ?_))))))));obtain rfl:=Aw hj;exact Au (Il MA (AH Aa) (BD (i:=0) Cs Bw Aa Aa Aa)) (sS sN) ⟨Aa,Aa⟩
  ·refine A0 (AO (Af (wm Aa (wm Aa (wv (Bg (enc:=Am) (ys:=args) CR CT Aa Aa g6) (wv (Ba Dz Aa Aa) (wv (Bg (enc:=Ab) (ys:=Ae args 0) BF BJ Aa Aa g8) (wv (Be Bh Aa Cq Aa Aa) (wv (Ba Dk Aa Aa) (ob hk λha hl hm=>BQ Tryz.call81 (Mf F ((Ae state 0).fInt) ((Ae (Ae args 0) 0).fInt) ha hl) Aa (wm Aa (wv (AJ Aa Aa) (wv (AJ Aa Aa) (wa Aa (wa Aa (As (Aq (Af (wm Aa (wv (CZ Aa Aa) (As (cz hm Aa (λhn ho=>?_) (λhn hp=>?_)))))))))))))))))))))))
   ·refine Af (wm Aa (wm Aa (wv (r:=Bb [Ai ha.2,rv (.slice none 0 0)]) (CP Aa Aa) (wa Aa (A8 (i:=0) Bw Aa Aa Aa (AZ.c Aa) Aa Aa (cs':=[Ai ha.2,rv (.slice none 0 0)]) Aa (H':=[.blk b1 [Ai ha.2,rv (.slice none 0 0)] 31]) Aa (As (Av (Ad (WK.upBlk (i:=0) (cs':=[Ai ha.2,AG 4 (Ay Ab ([]:List Ac))]) Aa ⟨Up.refl _,Up.le (E7.nil _),trivial⟩ ?_)))))))));obtain rfl:=Aw ho;exact Au (Il MA (AH Aa) (BD (i:=0) Cs Bw Aa Aa Aa)) (sS sN) ⟨Aa,Aa⟩
   ·refine A0 (AO (Af (wm Aa (wv (r:=Bb [Ai 3,Ai ha.1,rS ([]:An),Ai 0]) (Df Aa Aa Aa Aa) (Bj (ys:=([(Ac.mk 3 ha.1 ([]:An) 0)]:List Ac)) (enc:=Ab) (css:=[[Ai 3,Ai ha.1,rS ([]:An),Ai 0]]) (xs:=[.tmp 50]) BF BJ GW Aa Aa Aa ⟨IK.agg ⟨Up.refl _,Up.refl _,Up.refl _,Up.refl _,trivial⟩,trivial⟩ Aa B2 Aa Aa Aa (λhq=>?_))))));refine wa Aa (B1 (wm Aa (wm Aa (WL.freeze (i:=0) Aa (WL.up (d:=53) (r:=AG 4 (Ay Ab ([(Ac.mk 3 ha.1 ([]:An) 0)]:List Ac))) Aa (Up.fact (i:=0) Aa) (ob hp λhd hr hs=>BQ IX (C5 ([(Ac.mk 3 ha.1 ([]:An) 0)]:List Ac) hd hr) Aa (wv (r:=Bb [Ai 0,AG 4 (Ay Ab hd)]) (B9 Aa Aa) (wa Aa (A8 (i:=1) Bw Aa Aa Aa (AZ.c Aa) Aa Aa (cs':=[Ai 0,AG 4 (Ay Ab hd)]) Aa (H':=[.fact (.slice (some ⟨hq,0,none⟩) 1 1) (AG 4 (Ay Ab ([(Ac.mk 3 ha.1 ([]:An) 0)]:List Ac))),.blk b1 [Ai 0,AG 4 (Ay Ab hd)] 31]) Aa (As (Av (WK.up (d:=4) (r:=AG 4 (Ay Ab ([(Ac.mk 3 ha.1 ([]:An) 0)]:List Ac))) Aa (Up.fact (i:=0) Aa) ?_))))))))))));obtain rfl:=Aw hs;exact Au (Il MA (AH Aa) (BD (i:=1) Cs Bw Aa Aa Aa)) (sS (sS sN)) ⟨Aa,Aa⟩
 ·refine Af (wv (Bv Aa Aa) (wa Aa (As (cz hh Aa (λht hu=>?_) (λht hw=>?_)))))
  ·refine A0 (AV (AO (Aq (Af (wm Aa (ck hu λhf hx=>wv (Bg (enc:=Am) (ys:=args) CR CT Aa Aa hf) (wv (Ba Dz Aa Aa) (ck hx λhg hy=>wv (Bg (enc:=Ab) (ys:=Ae args 0) BF BJ Aa Aa hg) (wv (Be Bh Aa CS Aa Aa) (wv (Ba CU Aa Aa) (wv (CZ Aa Aa) (As (cz hy Aa (λhz h0=>?_) (λhz h1=>?_))))))))))))))
   ·refine Af (wm Aa (wv (r:=Bb [Ai 7,rv (.slice none 0 0)]) (CP Aa Aa) (wa Aa (A8 (i:=0) Bw Aa Aa Aa (AZ.c Aa) Aa Aa (cs':=[Ai 7,rv (.slice none 0 0)]) Aa (H':=[.blk b1 [Ai 7,rv (.slice none 0 0)] 31]) Aa (As (Av (Ad (WK.upBlk (i:=0) (cs':=[Ai 7,AG 4 (Ay Ab ([]:List Ac))]) Aa ⟨Up.refl _,Up.le (E7.nil _),trivial⟩ ?_))))))));obtain rfl:=Aw h0;exact Au (Il MA (AH Aa) (BD (i:=0) Cs Bw Aa Aa Aa)) (sS sN) ⟨Aa,Aa⟩
   ·refine A0 (AO (Af (wm Aa (wm Aa (wv (Bg (enc:=Am) (ys:=args) CR CT Aa Aa hf) (wv (Ba Dz Aa Aa) (wv (Bg (enc:=Ab) (ys:=Ae args 0) BF BJ Aa Aa hg) (wv (Be Bh Aa Cq Aa Aa) (wv (Ba Dk Aa Aa) (ob h1 λhb h2 h4=>BQ Tryz.call81 (Mf F 0 ((Ae (Ae args 0) 0).fInt) hb h2) Aa (wm Aa (wv (AJ Aa Aa) (wv (AJ Aa Aa) (wa Aa (wa Aa (As (Aq (Af (wm Aa (wv (CZ Aa Aa) (As (cz h4 Aa (λh6 h8=>?_) (λh6 hA=>?_)))))))))))))))))))))))
    ·refine Af (wm Aa (wm Aa (wv (r:=Bb [Ai hb.2,rv (.slice none 0 0)]) (CP Aa Aa) (wa Aa (A8 (i:=0) Bw Aa Aa Aa (AZ.c Aa) Aa Aa (cs':=[Ai hb.2,rv (.slice none 0 0)]) Aa (H':=[.blk b1 [Ai hb.2,rv (.slice none 0 0)] 31]) Aa (As (Av (Ad (WK.upBlk (i:=0) (cs':=[Ai hb.2,AG 4 (Ay Ab ([]:List Ac))]) Aa ⟨Up.refl _,Up.le (E7.nil _),trivial⟩ ?_)))))))));obtain rfl:=Aw h8;exact Au (Il MA (AH Aa) (BD (i:=0) Cs Bw Aa Aa Aa)) (sS sN) ⟨Aa,Aa⟩
    ·refine A0 (AO (Af (wm Aa (wv (r:=Bb [Ai 3,Ai hb.1,rS ([]:An),Ai 0]) (Df Aa Aa Aa Aa) (Bj (ys:=([(Ac.mk 3 hb.1 ([]:An) 0)]:List Ac)) (enc:=Ab) (css:=[[Ai 3,Ai hb.1,rS ([]:An),Ai 0]]) (xs:=[.tmp 50]) BF BJ GW Aa Aa Aa ⟨IK.agg ⟨Up.refl _,Up.refl _,Up.refl _,Up.refl _,trivial⟩,trivial⟩ Aa B2 Aa Aa Aa (λhB=>?_))))));refine wa Aa (B1 (wm Aa (wm Aa (WL.freeze (i:=0) Aa (WL.up (d:=53) (r:=AG 4 (Ay Ab ([(Ac.mk 3 hb.1 ([]:An) 0)]:List Ac))) Aa (Up.fact (i:=0) Aa) (ob hA λhe hC hD=>BQ IX (C5 ([(Ac.mk 3 hb.1 ([]:An) 0)]:List Ac) he hC) Aa (wv (r:=Bb [Ai 0,AG 4 (Ay Ab he)]) (B9 Aa Aa) (wa Aa (A8 (i:=1) Bw Aa Aa Aa (AZ.c Aa) Aa Aa (cs':=[Ai 0,AG 4 (Ay Ab he)]) Aa (H':=[.fact (.slice (some ⟨hB,0,none⟩) 1 1) (AG 4 (Ay Ab ([(Ac.mk 3 hb.1 ([]:An) 0)]:List Ac))),.blk b1 [Ai 0,AG 4 (Ay Ab he)] 31]) Aa (As (Av (WK.up (d:=4) (r:=AG 4 (Ay Ab ([(Ac.mk 3 hb.1 ([]:An) 0)]:List Ac))) Aa (Up.fact (i:=0) Aa) ?_))))))))))));obtain rfl:=Aw hD;exact Au (Il MA (AH Aa) (BD (i:=1) Cs Bw Aa Aa Aa)) (sS (sS sN)) ⟨Aa,Aa⟩
  ·refine Af (wm Aa (wv (r:=Bb [Ai 7,rv (.slice none 0 0)]) (CP Aa Aa) (wa Aa (A8 (i:=0) Bw Aa Aa Aa (AZ.c Aa) Aa Aa (cs':=[Ai 7,rv (.slice none 0 0)]) Aa (H':=[.blk b1 [Ai 7,rv (.slice none 0 0)] 31]) Aa (As (Av (AB (Ad (WK.upBlk (i:=0) (cs':=[Ai 7,AG 4 (Ay Ab ([]:List Ac))]) Aa ⟨Up.refl _,Up.le (E7.nil _),trivial⟩ ?_)))))))));obtain rfl:=Aw hw;exact Au (Il MA (AH Aa) (BD (i:=0) Cs Bw Aa Aa Aa)) (sS sN) ⟨Aa,Aa⟩
theorem HW  (r:(List (An×Nat)))(h:Px=some r):Fn Tryz.prog GE 38 [] [] (λR H=>R=Oa (AD mF r)∧H=[]):=by
 refine enter (n:=3) Tryz.func38 Aa Tryz.ntmps38 Aa (λw Z=>?_);unfold Px at h;refine Af (wv (r:=rv (.map none)) (AC Aa) (B1 (Kn Aa (λb1=>?_))));refine CG (enc:=mF) (xs:=([]:List (An×Nat))) (v:=57) (i:=0) L6 DM Aa Aa Aa Aa (H':=[.map b1 (AD mF (AY ([]:List (An×Nat)) ([114,101,97,100]:An) 57))]) Aa (CG (enc:=mF) (xs:=AY ([]:List (An×Nat)) ([114,101,97,100]:An) 57) (v:=58) (i:=0) L6 DM Aa Aa Aa Aa (H':=[.map b1 (AD mF (AY (AY ([]:List (An×Nat)) ([114,101,97,100]:An) 57) ([119,114,105,116,101]:An) 58))]) Aa (CG (enc:=mF) (xs:=AY (AY ([]:List (An×Nat)) ([114,101,97,100]:An) 57) ([119,114,105,116,101]:An) 58) (v:=59) (i:=0) L6 DM Aa Aa Aa Aa (H':=[.map b1 (AD mF (AY (AY (AY ([]:List (An×Nat)) ([114,101,97,100]:An) 57) ([119,114,105,116,101]:An) 58) ([97,100,100]:An) 59))]) Aa (CG (enc:=mF) (xs:=AY (AY (AY ([]:List (An×Nat)) ([114,101,97,100]:An) 57) ([119,114,105,116,101]:An) 58) ([97,100,100]:An) 59) (v:=60) (i:=0) L6 DM Aa Aa Aa Aa (H':=[.map b1 (AD mF (AY (AY (AY (AY ([]:List (An×Nat)) ([114,101,97,100]:An) 57) ([119,114,105,116,101]:An) 58) ([97,100,100]:An) 59) ([99,97,115]:An) 60))]) Aa (wm Aa (wa Aa (As (Av (WK.freezeM (i:=0) Aa (WK.up (d:=0) (r:=Oa (AD mF (AY (AY (AY (AY ([]:List (An×Nat)) ([114,101,97,100]:An) 57) ([119,114,105,116,101]:An) 58) ([97,100,100]:An) 59) ([99,97,115]:An) 60))) Aa (Up.fact (i:=0) Aa) ?_)))))))));obtain rfl:=Aw h;exact Au (BC Tryz.results38 (AH Aa)) (sS sN) ⟨Aa,Aa⟩
theorem Rd (F:Nat)(state:(List Ac))(op:A3)(r:(List Ac)×A6×Int)(h:RG F state op=some r):Fn Tryz.prog GE 11 [AG 4 (Ay Ab state),Bb (Aj op)] [] (λR H=>R=C4 [AG 4 (Ay Ab r.1),Bb (A1 r.2.1),Ai r.2.2]∧H=[]):=by
 refine enter (n:=37) Tryz.func11 Aa Tryz.ntmps11 Aa (λw Z=>?_);unfold RG at h;refine Af (B6 Aa Aa (λb1=>?_));refine wa Aa (BA (cs:=[Ai 0,rv (.slice none 0 0)]) GX Aa Aa (λb2=>?_));refine wa Aa (As (Aq (Af (wv (Bd (i:=1) Hh Ei Aa Aa Aa Aa) (ob h λr3 e5 h4=>BQ Tryz.call36 (Mh F op r3 e5) Aa (wa Aa (B1 (wm Aa (wv (CZ Aa Aa) (As (cz h4 Aa (λc6 h7=>?_) (λc6 h8=>?_))))))))))))
 ·refine Af (wv (r:=Bb [Ai 0,rv (.slice none 0 0)]) (EX ) (wm Aa (wa Aa (A8 (i:=0) Bw Aa Aa Aa (AZ.c Aa) Aa Aa (cs':=[Ai 0,rv (.slice none 0 0)]) Aa (H':=[.blk b2 [Ai 0,rv (.slice none 0 0)] 31,.blk b1 (Aj op) 25]) Aa (wa Aa (As (Av (Ad (WK.up (d:=4) (r:=AG 4 (Ay Ab ([]:List Ac))) Aa (Up.le (E7.nil _)) (WK.upBlk (i:=0) (cs':=[Ai 0,AG 4 (Ay Ab ([]:List Ac))]) Aa ⟨Up.refl _,Up.le (E7.nil _),trivial⟩ ?_))))))))));obtain rfl:=Aw h7;exact Au (Jh NP (AH Aa) (BD (i:=0) Cs Bw Aa Aa Aa) (AH Aa)) (sS (sS sN)) ⟨Aa,Aa⟩
 ·refine A0 (AO (Aq (Af (wm Aa (ob h8 λr9 hq hr=>BQ Tryz.call37 (LK F state r9 hq) Aa (wa Aa (B1 (wm Aa (wv (CZ Aa Aa) (As (cz hr Aa (λhs ht=>?_) (λhs hu=>?_))))))))))))
  ·refine Af (wv (r:=Bb [Ai 0,rv (.slice none 0 0)]) (EX ) (wm Aa (wa Aa (A8 (i:=0) Bw Aa Aa Aa (AZ.c Aa) Aa Aa (cs':=[Ai 0,rv (.slice none 0 0)]) Aa (H':=[.blk b2 [Ai 0,rv (.slice none 0 0)] 31,.blk b1 (Aj op) 25]) Aa (wa Aa (As (Av (Ad (WK.up (d:=4) (r:=AG 4 (Ay Ab ([]:List Ac))) Aa (Up.le (E7.nil _)) (WK.upBlk (i:=0) (cs':=[Ai 0,AG 4 (Ay Ab ([]:List Ac))]) Aa ⟨Up.refl _,Up.le (E7.nil _),trivial⟩ ?_))))))))));obtain rfl:=Aw ht;exact Au (Jh NP (AH Aa) (BD (i:=0) Cs Bw Aa Aa Aa) (AH Aa)) (sS (sS sN)) ⟨Aa,Aa⟩
  ·refine A0 (AO (Aq (bz hu (λhn hw=>?_) (λhn hx=>?_))))
   ·refine ob hw λhf hy hz=>ob hz λha h0 h1=>BV 14 [0,3,5] [⟨[],Oa (AD mF (AY (AY (AY (AY ([]:List (An×Nat)) ([114,101,97,100]:An) 57) ([119,114,105,116,101]:An) 58) ([97,100,100]:An) 59) ([99,97,115]:An) 60)),none,none,none⟩,⟨[],rP b1 2,none,none,none⟩,⟨[1],rS op.fOp,none,none,none⟩,⟨[0,2],rv (.func (.func 57) #[] #[]),none,none,none⟩,⟨[],AG 4 (Ay Ab state),none,none,none⟩,⟨[4],AG 4 (Ay Ab hf),none,none,none⟩,⟨[],rP b1 3,none,none,none⟩,⟨[6],AG 1 (Ay Am op.fArgs),none,none,none⟩,⟨[3,5,7],C4 [AG 4 (Ay Ab ha.1),Bb (A1 ha.2)],none,none,none⟩,⟨[8],C4 [AG 4 (Ay Ab ha.1),Bb (A1 ha.2)],none,none,none⟩,⟨[9],AG 4 (Ay Ab ha.1),none,none,none⟩,⟨[9],Bb (A1 ha.2),none,none,none⟩,⟨[],rv undef,some ([Ai 0,rv (.slice none 0 0)],31),none,none⟩,⟨[10],AG 4 (Ay Ab ha.1),none,none,none⟩] ?_ (λβ=>?_)
    ·refine Lg (DC Tryz.call38 (HW (AY (AY (AY (AY ([]:List (An×Nat)) ([114,101,97,100]:An) 57) ([119,114,105,116,101]:An) 58) ([97,100,100]:An) 59) ([99,97,115]:An) 60) rfl) rfl) (Cf (AS BS rfl Dm rfl rfl) (HR (B3 (i:=1) Dx rfl rfl rfl) (Cf (EV (enc:=mF) (xs:=(AY (AY (AY (AY ([]:List (An×Nat)) ([114,101,97,100]:An) 57) ([119,114,105,116,101]:An) 58) ([97,100,100]:An) 59) ([99,97,115]:An) 60)) (q:=57) L6 DM rfl rfl (by rw[of_decide_eq_true hn];rfl)) (Cf (A5 rfl) (Lg (DC IX (C5 state hf hy) rfl) (Cf (AS BS rfl Dy rfl rfl) (HR (B3 (i:=1) DT rfl rfl rfl) (Lg (Lf Tryz.call57 (Mg hf op.fArgs ha h0) rfl rfl) (Cf (A5 rfl) (Cf (AJ rfl rfl) (Cf (AJ rfl rfl) (RK (M1 (cs:=[Ai 0,rv (.slice none 0 0)]) GX rfl) (Cf (AC rfl) ?_)))))))))))));exact K0
    refine Ct (H1:=[.blk b2 [Ai 0,rv (.slice none 0 0)] 31,.blk b1 (Aj op) 25,.blk (β 12) [Ai 0,rv (.slice none 0 0)] 31]) [24,25,26,27,28,29,30,31,32,23,33,34,10,9,0,3,5] ?_;generalize β 12=hg;refine A8 (i:=2) Bw Aa Aa Aa (AZ.c Aa) Aa Aa (cs':=[Ai ha.2.fErr,AG 4 (Ay Ab ha.2.fValue)]) Aa (H':=[.blk b2 [Ai 0,rv (.slice none 0 0)] 31,.blk b1 (Aj op) 25,.blk hg (A1 ha.2) 31]) Aa (As (Aq (BV 3 [5,9,10] [⟨[],AG 4 (Ay Ab ha.1),none,none,none⟩,⟨[],Bb (A1 ha.2),none,none,none⟩,⟨[0],AG 4 (Ay Ab ha.1),none,none,none⟩] ?_ (λβ=>?_))))
    ·refine Cf (A5 Aa) (HR (Bd (i:=2) Cs Bw Aa Aa Aa Aa) (Cf (AC Aa) ?_));exact K0
    refine Ct (H1:=[.blk b2 [Ai 0,rv (.slice none 0 0)] 31,.blk b1 (Aj op) 25,.blk hg (A1 ha.2) 31]) [35,36,4,5,9,10] ?_;refine A8 (i:=0) Bw Aa Aa Aa (AZ.c Aa) Aa Aa (cs':=[Ai ha.2.fErr,AG 4 (Ay Ab ha.2.fValue)]) Aa (H':=[.blk b2 (A1 ha.2) 31,.blk b1 (Aj op) 25,.blk hg (A1 ha.2) 31]) Aa (wa Aa (As (Av ?_)));obtain rfl:=Aw h1;exact Au (Jh NP (AH Aa) (BD (i:=0) Cs Bw Aa Aa Aa) (AH Aa)) (sS (sS (sS sN))) ⟨Aa,Aa⟩
   ·refine bz hx (λho h2=>?_) (λho h3=>?_)
    ·refine ob h2 λhh h5 h6=>ob h6 λhb h9 hA=>BV 14 [0,3,5] [⟨[],Oa (AD mF (AY (AY (AY (AY ([]:List (An×Nat)) ([114,101,97,100]:An) 57) ([119,114,105,116,101]:An) 58) ([97,100,100]:An) 59) ([99,97,115]:An) 60)),none,none,none⟩,⟨[],rP b1 2,none,none,none⟩,⟨[1],rS op.fOp,none,none,none⟩,⟨[0,2],rv (.func (.func 58) #[] #[]),none,none,none⟩,⟨[],AG 4 (Ay Ab state),none,none,none⟩,⟨[4],AG 4 (Ay Ab hh),none,none,none⟩,⟨[],rP b1 3,none,none,none⟩,⟨[6],AG 1 (Ay Am op.fArgs),none,none,none⟩,⟨[3,5,7],C4 [AG 4 (Ay Ab hb.1),Bb (A1 hb.2)],none,none,none⟩,⟨[8],C4 [AG 4 (Ay Ab hb.1),Bb (A1 hb.2)],none,none,none⟩,⟨[9],AG 4 (Ay Ab hb.1),none,none,none⟩,⟨[9],Bb (A1 hb.2),none,none,none⟩,⟨[],rv undef,some ([Ai 0,rv (.slice none 0 0)],31),none,none⟩,⟨[10],AG 4 (Ay Ab hb.1),none,none,none⟩] ?_ (λβ=>?_)
     ·refine Lg (DC Tryz.call38 (HW (AY (AY (AY (AY ([]:List (An×Nat)) ([114,101,97,100]:An) 57) ([119,114,105,116,101]:An) 58) ([97,100,100]:An) 59) ([99,97,115]:An) 60) rfl) rfl) (Cf (AS BS rfl Dm rfl rfl) (HR (B3 (i:=1) Dx rfl rfl rfl) (Cf (EV (enc:=mF) (xs:=(AY (AY (AY (AY ([]:List (An×Nat)) ([114,101,97,100]:An) 57) ([119,114,105,116,101]:An) 58) ([97,100,100]:An) 59) ([99,97,115]:An) 60)) (q:=58) L6 DM rfl rfl (by rw[of_decide_eq_true ho];rfl)) (Cf (A5 rfl) (Lg (DC IX (C5 state hh h5) rfl) (Cf (AS BS rfl Dy rfl rfl) (HR (B3 (i:=1) DT rfl rfl rfl) (Lg (Lf Tryz.call58 (Lj hh op.fArgs hb h9) rfl rfl) (Cf (A5 rfl) (Cf (AJ rfl rfl) (Cf (AJ rfl rfl) (RK (M1 (cs:=[Ai 0,rv (.slice none 0 0)]) GX rfl) (Cf (AC rfl) ?_)))))))))))));exact K0
     refine Ct (H1:=[.blk b2 [Ai 0,rv (.slice none 0 0)] 31,.blk b1 (Aj op) 25,.blk (β 12) [Ai 0,rv (.slice none 0 0)] 31]) [24,25,26,27,28,29,30,31,32,23,33,34,10,9,0,3,5] ?_;generalize β 12=hi;refine A8 (i:=2) Bw Aa Aa Aa (AZ.c Aa) Aa Aa (cs':=[Ai hb.2.fErr,AG 4 (Ay Ab hb.2.fValue)]) Aa (H':=[.blk b2 [Ai 0,rv (.slice none 0 0)] 31,.blk b1 (Aj op) 25,.blk hi (A1 hb.2) 31]) Aa (As (Aq (BV 3 [5,9,10] [⟨[],AG 4 (Ay Ab hb.1),none,none,none⟩,⟨[],Bb (A1 hb.2),none,none,none⟩,⟨[0],AG 4 (Ay Ab hb.1),none,none,none⟩] ?_ (λβ=>?_))))
     ·refine Cf (A5 Aa) (HR (Bd (i:=2) Cs Bw Aa Aa Aa Aa) (Cf (AC Aa) ?_));exact K0
     refine Ct (H1:=[.blk b2 [Ai 0,rv (.slice none 0 0)] 31,.blk b1 (Aj op) 25,.blk hi (A1 hb.2) 31]) [35,36,4,5,9,10] ?_;refine A8 (i:=0) Bw Aa Aa Aa (AZ.c Aa) Aa Aa (cs':=[Ai hb.2.fErr,AG 4 (Ay Ab hb.2.fValue)]) Aa (H':=[.blk b2 (A1 hb.2) 31,.blk b1 (Aj op) 25,.blk hi (A1 hb.2) 31]) Aa (wa Aa (As (Av ?_)));obtain rfl:=Aw hA;exact Au (Jh NP (AH Aa) (BD (i:=0) Cs Bw Aa Aa Aa) (AH Aa)) (sS (sS (sS sN))) ⟨Aa,Aa⟩
    ·refine bz h3 (λhp hB=>?_) (λhp hC=>?_)
     ·refine ob hB λhj hD hE=>ob hE λhd hG hH=>BV 14 [0,3,5] [⟨[],Oa (AD mF (AY (AY (AY (AY ([]:List (An×Nat)) ([114,101,97,100]:An) 57) ([119,114,105,116,101]:An) 58) ([97,100,100]:An) 59) ([99,97,115]:An) 60)),none,none,none⟩,⟨[],rP b1 2,none,none,none⟩,⟨[1],rS op.fOp,none,none,none⟩,⟨[0,2],rv (.func (.func 59) #[] #[]),none,none,none⟩,⟨[],AG 4 (Ay Ab state),none,none,none⟩,⟨[4],AG 4 (Ay Ab hj),none,none,none⟩,⟨[],rP b1 3,none,none,none⟩,⟨[6],AG 1 (Ay Am op.fArgs),none,none,none⟩,⟨[3,5,7],C4 [AG 4 (Ay Ab hd.1),Bb (A1 hd.2)],none,none,none⟩,⟨[8],C4 [AG 4 (Ay Ab hd.1),Bb (A1 hd.2)],none,none,none⟩,⟨[9],AG 4 (Ay Ab hd.1),none,none,none⟩,⟨[9],Bb (A1 hd.2),none,none,none⟩,⟨[],rv undef,some ([Ai 0,rv (.slice none 0 0)],31),none,none⟩,⟨[10],AG 4 (Ay Ab hd.1),none,none,none⟩] ?_ (λβ=>?_)
      ·refine Lg (DC Tryz.call38 (HW (AY (AY (AY (AY ([]:List (An×Nat)) ([114,101,97,100]:An) 57) ([119,114,105,116,101]:An) 58) ([97,100,100]:An) 59) ([99,97,115]:An) 60) rfl) rfl) (Cf (AS BS rfl Dm rfl rfl) (HR (B3 (i:=1) Dx rfl rfl rfl) (Cf (EV (enc:=mF) (xs:=(AY (AY (AY (AY ([]:List (An×Nat)) ([114,101,97,100]:An) 57) ([119,114,105,116,101]:An) 58) ([97,100,100]:An) 59) ([99,97,115]:An) 60)) (q:=59) L6 DM rfl rfl (by rw[of_decide_eq_true hp];rfl)) (Cf (A5 rfl) (Lg (DC IX (C5 state hj hD) rfl) (Cf (AS BS rfl Dy rfl rfl) (HR (B3 (i:=1) DT rfl rfl rfl) (Lg (Lf Tryz.call59 (P4 F hj op.fArgs hd hG) rfl rfl) (Cf (A5 rfl) (Cf (AJ rfl rfl) (Cf (AJ rfl rfl) (RK (M1 (cs:=[Ai 0,rv (.slice none 0 0)]) GX rfl) (Cf (AC rfl) ?_)))))))))))));exact K0
      refine Ct (H1:=[.blk b2 [Ai 0,rv (.slice none 0 0)] 31,.blk b1 (Aj op) 25,.blk (β 12) [Ai 0,rv (.slice none 0 0)] 31]) [24,25,26,27,28,29,30,31,32,23,33,34,10,9,0,3,5] ?_;generalize β 12=hk;refine A8 (i:=2) Bw Aa Aa Aa (AZ.c Aa) Aa Aa (cs':=[Ai hd.2.fErr,AG 4 (Ay Ab hd.2.fValue)]) Aa (H':=[.blk b2 [Ai 0,rv (.slice none 0 0)] 31,.blk b1 (Aj op) 25,.blk hk (A1 hd.2) 31]) Aa (As (Aq (BV 3 [5,9,10] [⟨[],AG 4 (Ay Ab hd.1),none,none,none⟩,⟨[],Bb (A1 hd.2),none,none,none⟩,⟨[0],AG 4 (Ay Ab hd.1),none,none,none⟩] ?_ (λβ=>?_))))
      ·refine Cf (A5 Aa) (HR (Bd (i:=2) Cs Bw Aa Aa Aa Aa) (Cf (AC Aa) ?_));exact K0
      refine Ct (H1:=[.blk b2 [Ai 0,rv (.slice none 0 0)] 31,.blk b1 (Aj op) 25,.blk hk (A1 hd.2) 31]) [35,36,4,5,9,10] ?_;refine A8 (i:=0) Bw Aa Aa Aa (AZ.c Aa) Aa Aa (cs':=[Ai hd.2.fErr,AG 4 (Ay Ab hd.2.fValue)]) Aa (H':=[.blk b2 (A1 hd.2) 31,.blk b1 (Aj op) 25,.blk hk (A1 hd.2) 31]) Aa (wa Aa (As (Av ?_)));obtain rfl:=Aw hH;exact Au (Jh NP (AH Aa) (BD (i:=0) Cs Bw Aa Aa Aa) (AH Aa)) (sS (sS (sS sN))) ⟨Aa,Aa⟩
     ·refine ck hC λhI hJ=>ob hJ λhl hK hL=>ob hL λhe hN hO=>BV 14 [0,3,5] [⟨[],Oa (AD mF (AY (AY (AY (AY ([]:List (An×Nat)) ([114,101,97,100]:An) 57) ([119,114,105,116,101]:An) 58) ([97,100,100]:An) 59) ([99,97,115]:An) 60)),none,none,none⟩,⟨[],rP b1 2,none,none,none⟩,⟨[1],rS op.fOp,none,none,none⟩,⟨[0,2],rv (.func (.func 60) #[] #[]),none,none,none⟩,⟨[],AG 4 (Ay Ab state),none,none,none⟩,⟨[4],AG 4 (Ay Ab hl),none,none,none⟩,⟨[],rP b1 3,none,none,none⟩,⟨[6],AG 1 (Ay Am op.fArgs),none,none,none⟩,⟨[3,5,7],C4 [AG 4 (Ay Ab he.1),Bb (A1 he.2)],none,none,none⟩,⟨[8],C4 [AG 4 (Ay Ab he.1),Bb (A1 he.2)],none,none,none⟩,⟨[9],AG 4 (Ay Ab he.1),none,none,none⟩,⟨[9],Bb (A1 he.2),none,none,none⟩,⟨[],rv undef,some ([Ai 0,rv (.slice none 0 0)],31),none,none⟩,⟨[10],AG 4 (Ay Ab he.1),none,none,none⟩] ?_ (λβ=>?_)
      ·refine Lg (DC Tryz.call38 (HW (AY (AY (AY (AY ([]:List (An×Nat)) ([114,101,97,100]:An) 57) ([119,114,105,116,101]:An) 58) ([97,100,100]:An) 59) ([99,97,115]:An) 60) rfl) rfl) (Cf (AS BS rfl Dm rfl rfl) (HR (B3 (i:=1) Dx rfl rfl rfl) (Cf (EV (enc:=mF) (xs:=(AY (AY (AY (AY ([]:List (An×Nat)) ([114,101,97,100]:An) 57) ([119,114,105,116,101]:An) 58) ([97,100,100]:An) 59) ([99,97,115]:An) 60)) (q:=60) L6 DM rfl rfl (by rw[of_decide_eq_true hI];rfl)) (Cf (A5 rfl) (Lg (DC IX (C5 state hl hK) rfl) (Cf (AS BS rfl Dy rfl rfl) (HR (B3 (i:=1) DT rfl rfl rfl) (Lg (Lf Tryz.call60 (MQ F hl op.fArgs he hN) rfl rfl) (Cf (A5 rfl) (Cf (AJ rfl rfl) (Cf (AJ rfl rfl) (RK (M1 (cs:=[Ai 0,rv (.slice none 0 0)]) GX rfl) (Cf (AC rfl) ?_)))))))))))));exact K0
      refine Ct (H1:=[.blk b2 [Ai 0,rv (.slice none 0 0)] 31,.blk b1 (Aj op) 25,.blk (β 12) [Ai 0,rv (.slice none 0 0)] 31]) [24,25,26,27,28,29,30,31,32,23,33,34,10,9,0,3,5] ?_;generalize β 12=hm;refine A8 (i:=2) Bw Aa Aa Aa (AZ.c Aa) Aa Aa (cs':=[Ai he.2.fErr,AG 4 (Ay Ab he.2.fValue)]) Aa (H':=[.blk b2 [Ai 0,rv (.slice none 0 0)] 31,.blk b1 (Aj op) 25,.blk hm (A1 he.2) 31]) Aa (As (Aq (BV 3 [5,9,10] [⟨[],AG 4 (Ay Ab he.1),none,none,none⟩,⟨[],Bb (A1 he.2),none,none,none⟩,⟨[0],AG 4 (Ay Ab he.1),none,none,none⟩] ?_ (λβ=>?_))))
      ·refine Cf (A5 Aa) (HR (Bd (i:=2) Cs Bw Aa Aa Aa Aa) (Cf (AC Aa) ?_));exact K0
      refine Ct (H1:=[.blk b2 [Ai 0,rv (.slice none 0 0)] 31,.blk b1 (Aj op) 25,.blk hm (A1 he.2) 31]) [35,36,4,5,9,10] ?_;refine A8 (i:=0) Bw Aa Aa Aa (AZ.c Aa) Aa Aa (cs':=[Ai he.2.fErr,AG 4 (Ay Ab he.2.fValue)]) Aa (H':=[.blk b2 (A1 he.2) 31,.blk b1 (Aj op) 25,.blk hm (A1 he.2) 31]) Aa (wa Aa (As (Av ?_)));obtain rfl:=Aw hO;exact Au (Jh NP (AH Aa) (BD (i:=0) Cs Bw Aa Aa Aa) (AH Aa)) (sS (sS (sS sN))) ⟨Aa,Aa⟩
theorem JC (F:Nat)(op:A3)(r:A3)(h:JD F op=some r):Fn Tryz.prog GE 48 [Bb (Aj op)] [] (λR H=>R=Bb (Aj r)∧H=[]):=by
 refine enter (n:=24) Tryz.func48 Aa Tryz.ntmps48 Aa (λw Z=>?_);unfold JD at h;refine Af (B6 Aa Aa (λb1=>?_));refine BA (cs:=[rS ([]:An),rS ([]:An),rS ([]:An),rv (.slice none 0 0)]) Tryz.zeroValue25 Aa Aa (λb2=>?_);refine B1 (vF BS Aa Dy (vL 1 DT Aa (wa Aa (B1 (vF BS Aa Dy (BR (i:=1) Dy Aa Aa (Cc Aa) Aa Aa (cs':=[rS op.fEntity,rS op.fID,rS op.fOp,rv (.slice none 0 0)]) Aa (H':=[.blk b2 [rS ([]:An),rS ([]:An),rS ([]:An),rv (.slice none 0 0)] 25,.blk b1 [rS op.fEntity,rS op.fID,rS op.fOp,rv (.slice none 0 0)] 25]) Aa (As (Aq (Af (wm Aa (wv (Bi (ys:=op.fArgs) (enc:=Am) CR Aa) (wv (r:=Ai 0) (A5 Aa) (As (AU (WC.nilrow (e:=22) (sz:=1) (Jd (H2:=[.blk b2 [rS ([]:An),rS ([]:An),rS ([]:An),rv (.slice none 0 0)] 25,.blk b1 [rS op.fEntity,rS op.fID,rS op.fOp,rv (.slice none 0 0)] 25,.row (.slice none 0 0                      ) 22 1 (Ay Am ([]:List (List Ac)))]) ((Ak (i:=1) Aa).trans (SH _ ((Ak (i:=1) Aa).trans (SH _ (SN _))))) (ob h λhj hk hl=>B4 (S:=Nat×(Int×(List (List Ac)))×(Value)) (V:=((List (List Ac)))×(Value)) 0 (λσ=>Ck (λσ=>GJ op σ.1 σ.2) σ.1 σ.2.1=some hj) (λσ=>[(1,rP b1 0),(2,rP b2 0),(9,AG 1 (Ay Am op.fArgs)),(10,Ai (op.fArgs.length:Int)),(11,Ai σ.2.1.1)]) (λσ=>[.blk b2 [rS ([]:An),rS ([]:An),rS ([]:An),rv (.slice none 0 0)] 25,.blk b1 [rS op.fEntity,rS op.fID,rS op.fOp,rv σ.2.2] 25,.row σ.2.2 22 1 (Ay Am σ.2.1.2)]) (λσ=>σ.1) (F,(0,([]:List (List Ac))),(.slice none 0 0                      )) hk (AW.c5 Aa Aa Aa Aa Aa AW.nil) (sC (sC (sC sN))) (λσ=>GI op σ.1=some r) (λσ=>[(1,rP b1 0),(2,rP b2 0)]) (λσ=>[.blk b2 [rS ([]:An),rS ([]:An),rS ([]:An),rv (.slice none 0 0)] 25,.blk b1 [rS op.fEntity,rS op.fID,rS op.fOp,rv σ.2] 25,.row σ.2 22 1 (Ay Am σ.1)]) ?_ ?_)))))))))))))))))
 ·rintro⟨h2,⟨he,hb⟩,v32⟩ hm;refine Co (l':=[(1,rP b1 0),(2,rP b2 0),(9,AG 1 (Ay Am op.fArgs)),(10,Ai (op.fArgs.length:Int)),(11,Ai he)]) (H':=[.blk b2 [rS ([]:An),rS ([]:An),rS ([]:An),rv (.slice none 0 0)] 25,.blk b1 [rS op.fEntity,rS op.fID,rS op.fOp,rv v32] 25,.row v32 22 1 (Ay Am hb)]) Aa Aa ?_;obtain⟨hn,rfl,t51,hf,hi⟩:=CC hm;replace hf:GJ op he hb=some t51:=hf;unfold GJ at hf;refine Af (wv (CO Aa Aa) (As (Aq (cz hf Aa (λho hp=>?_) (λho hq=>?_)))))
  ·refine A0 (AO (Aq (AU (Af (ck hp λhr hs=>wv (Bg (enc:=Am) (ys:=op.fArgs) CR CT Aa Aa hr) (wv (Ba Dz Aa Aa) (wa Aa (As (ob hs λha ht hu=>BV 5 [1,2,5,9,10,11] [⟨[],rP b1 3,none,none,none⟩,⟨[0],rv v32,none,none,none⟩,⟨[],AG 4 (Ay Ab (Ae op.fArgs he)),none,none,none⟩,⟨[2],AG 4 (Ay Ab ha),none,none,none⟩,⟨[3],AG 1 (Ay Am ([ha]:List (List Ac))),none,none,none⟩] ?_ (λβ=>?_))))))))))
   ·refine Cf (AS BS Aa Dy Aa Aa) (HR (B3 (i:=1) DT Aa Aa Aa) (Cf (A5 Aa) (Lg (DC IX (C5 (Ae op.fArgs he) ha ht) Aa) (Lg (Kf (ys:=([ha]:List (List Ac))) (enc:=Am) (css:=[[AG 4 (Ay Ab ha)]]) (xs:=[.tmp 18]) CR CT Tryz.zeroValue22 Aa Aa Aa ⟨IK.one Aa (Up.refl _),trivial⟩ Aa Dl Aa Aa) ?_))));exact K0
   refine Ct (H1:=[.blk b2 [rS ([]:An),rS ([]:An),rS ([]:An),rv (.slice none 0 0)] 25,.blk b1 [rS op.fEntity,rS op.fID,rS op.fOp,rv v32] 25,.row v32 22 1 (Ay Am hb)]) [15,16,17,18,19,1,2,5,9,10,11] ?_;refine ck hu λhw hx=>Exists.elim R3 λinf hinf=>D9 (xs:=hb) (ys:=([ha]:List (List Ac))) (enc:=Am) (i:=2) CR hinf.1 hinf.2.1 hinf.2.2.1 hinf.2.2.2 Aa Aa Aa Aa Aa (NJ.z Aa Aa) Dl Jb hw Aa (λv64=>?_);refine vF BS Aa Dy (BR (i:=2) Dy Aa Aa (HO (i:=0) Aa) Aa Aa (cs':=[rS op.fEntity,rS op.fID,rS op.fOp,rv v64]) Aa (H':=[.row v64 22 1 (Ay Am (hb++([ha]:List (List Ac)))),.blk b2 [rS ([]:An),rS ([]:An),rS ([]:An),rv (.slice none 0 0)] 25,.blk b1 [rS op.fEntity,rS op.fID,rS op.fOp,rv v64] 25]) Aa (Ao (AV (AO (Ar (ck hx λhy hz=>wv (B0 Aa Aa hy) (wm Aa (Ao (CA (H2:=[.blk b2 [rS ([]:An),rS ([]:An),rS ([]:An),rv (.slice none 0 0)] 25,.blk b1 [rS op.fEntity,rS op.fID,rS op.fOp,rv v64] 25,.row v64 22 1 (Ay Am (hb++([ha]:List (List Ac))))]) ((Ak (i:=1) Aa).trans (SH _ ((Ak (i:=1) Aa).trans (SH _ (SN _))))) ?_)))))))));have h0:=Br hz hi;exact AF (AK (hn,(he+1,hb++([ha]:List (List Ac))),v64) ⟨h0,ST _⟩ (AW.c5 Aa Aa Aa Aa Aa AW.nil) (sC (sC (sC sN))))
  ·refine B7 (A7 ?_);have h1:=BZ hq hi hl;exact A7 (Bp (AK (hb,v32) h1 (AW.c Aa (AW.c Aa AW.nil)) (sC (sC (sC sN)))))
 ·rintro⟨hg,hd⟩ hh;refine CB (l':=[(1,rP b1 0),(2,rP b2 0)]) (H':=[.blk b2 [rS ([]:An),rS ([]:An),rS ([]:An),rv (.slice none 0 0)] 25,.blk b1 [rS op.fEntity,rS op.fID,rS op.fOp,rv hd] 25,.row hd 22 1 (Ay Am hg)]) Aa Aa ?_;replace hh:GI op hg=some r:=hh;unfold GI at hh;refine Bn (AO (Af (wv (Bd (i:=1) Hh Ei Aa Aa Aa Aa) (A8 (i:=0) Ei Aa Aa Aa ⟨(Cc Aa),(Cc Aa),(Cc Aa),(HO (i:=2) Aa),trivial⟩ Aa Aa (cs':=[rS op.fEntity,rS op.fID,rS op.fOp,rv hd]) Aa (H':=[.blk b2 [rS op.fEntity,rS op.fID,rS op.fOp,rv hd] 25,.blk b1 [rS op.fEntity,rS op.fID,rS op.fOp,rv hd] 25,.row hd 22 1 (Ay Am hg)]) Aa (As (Av (WK.freeze (i:=2) Aa (WK.upBlk (i:=1) (cs':=[rS op.fEntity,rS op.fID,rS op.fOp,AG 1 (Ay Am hg)]) Aa ⟨Up.refl _,Up.refl _,Up.refl _,Up.fact (i:=0) Aa,trivial⟩ ?_))))))));obtain rfl:=Aw hh;exact Au (BC Tryz.results48 (BD (i:=1) Hh Ei Aa Aa Aa)) (sS (sS (sS sN))) ⟨Aa,Aa⟩
theorem K4 (F:Nat)(c:AA)(r:AA)(h:Jn F c=some r):Fn Tryz.prog GE 45 [Bb (Al c)] [] (λR H=>R=Bb (Al r)∧H=[]):=by
 refine enter (n:=14) Tryz.func45 Aa Tryz.ntmps45 Aa (λw Z=>?_);unfold Jn at h;refine Af (B6 Aa Aa (λb1=>?_));refine BA (cs:=[rS ([]:An),rS ([]:An),rS ([]:An),rv (.slice none 0 0),Ai 0,rv (.slice none 0 0),Ai 0,Ai 0]) NN Aa Aa (λb2=>?_);refine B1 (vF Io Aa Ei (wv (Bd (i:=1) Hh Ei Aa Aa Aa Aa) (ob h λr3 e5 h4=>BQ Tryz.call48 (JC F c.fOp r3 e5) Aa (vF Io Aa Ei (A8 (i:=1) Ei Aa Aa Aa (AZ.c Aa) Aa Aa (cs':=[rS r3.fEntity,rS r3.fID,rS r3.fOp,AG 1 (Ay Am r3.fArgs),Ai c.fAnswer.fErr,AG 4 (Ay Ab c.fAnswer.fValue),Ai c.fFrom,Ai c.fTo]) Aa (H':=[.blk b2 [rS ([]:An),rS ([]:An),rS ([]:An),rv (.slice none 0 0),Ai 0,rv (.slice none 0 0),Ai 0,Ai 0] 44,.blk b1 [rS r3.fEntity,rS r3.fID,rS r3.fOp,AG 1 (Ay Am r3.fArgs),Ai c.fAnswer.fErr,AG 4 (Ay Ab c.fAnswer.fValue),Ai c.fFrom,Ai c.fTo] 44]) Aa (B1 (vF Io Aa Bw (vF L7 Aa CT (vL 1 Dz Aa (ob h4 λr6 e8 h7=>BQ IX (C5 c.fAnswer.fValue r6 e8) Aa (vF Io Aa Bw (vF L7 Aa CT (BR (i:=1) CT Aa Aa (Cc Aa) Aa Aa (cs':=[rS r3.fEntity,rS r3.fID,rS r3.fOp,AG 1 (Ay Am r3.fArgs),Ai c.fAnswer.fErr,AG 4 (Ay Ab r6),Ai c.fFrom,Ai c.fTo]) Aa (H':=[.blk b2 [rS ([]:An),rS ([]:An),rS ([]:An),rv (.slice none 0 0),Ai 0,rv (.slice none 0 0),Ai 0,Ai 0] 44,.blk b1 [rS r3.fEntity,rS r3.fID,rS r3.fOp,AG 1 (Ay Am r3.fArgs),Ai c.fAnswer.fErr,AG 4 (Ay Ab r6),Ai c.fFrom,Ai c.fTo] 44]) Aa (B1 (wv (Bd (i:=1) Ka E0 Aa Aa Aa Aa) (A8 (i:=0) E0 Aa Aa Aa (AZ.c Aa) Aa Aa (cs':=[rS r3.fEntity,rS r3.fID,rS r3.fOp,AG 1 (Ay Am r3.fArgs),Ai c.fAnswer.fErr,AG 4 (Ay Ab r6),Ai c.fFrom,Ai c.fTo]) Aa (H':=[.blk b2 [rS r3.fEntity,rS r3.fID,rS r3.fOp,AG 1 (Ay Am r3.fArgs),Ai c.fAnswer.fErr,AG 4 (Ay Ab r6),Ai c.fFrom,Ai c.fTo] 44,.blk b1 [rS r3.fEntity,rS r3.fID,rS r3.fOp,AG 1 (Ay Am r3.fArgs),Ai c.fAnswer.fErr,AG 4 (Ay Ab r6),Ai c.fFrom,Ai c.fTo] 44]) Aa (As (Av ?_))))))))))))))))));obtain rfl:=Aw h7;exact Au (BC Tryz.results45 (BD (i:=0) Ka E0 Aa Aa Aa)) (sS (sS sN)) ⟨Aa,Aa⟩
theorem Pz (F:Nat)(x:(List Ac))(y:(List Ac))(r:Bool)(h:MS F x y=some r):Fn Tryz.prog GE 70 [AG 4 (Ay Ab x),AG 4 (Ay Ab y)] [] (λR H=>R=rB r∧H=[]):=by
 refine enter (n:=8) Tryz.func70 Aa Tryz.ntmps70 Aa (λw Z=>?_);unfold MS at h;refine Af (wa Aa (B1 (wm Aa (wm Aa (ob h λr1 e3 h2=>BQ Tryz.call71 (Kt F x y r1 e3) Aa (wa Aa (As (Av ?_))))))));obtain rfl:=Aw h2;exact Au (BC Tryz.results70 (AH Aa)) sN ⟨Aa,Aa⟩
theorem PS (F:Nat)(a:(List (List Ac)))(b:(List (List Ac)))(r:Bool)(h:IE F a b=some r):Fn Tryz.prog GE 69 [AG 1 (Ay Am a),AG 1 (Ay Am b),rv (.func (.func 70) #[] #[])] [] (λR H=>R=rB r∧H=[]):=by
 refine enter (n:=32) Tryz.func69 Aa Tryz.ntmps69 Aa (λw Z=>?_);unfold IE at h;refine Af (wa Aa (As (Aq (Af (wm Aa (wv (Bi (ys:=a) (enc:=Am) CR Aa) (wm Aa (wv (Bi (ys:=b) (enc:=Am) CR Aa) (wv (CZ Aa Aa) (As (cz h Aa (λc1 h2=>?_) (λc1 h3=>?_))))))))))))
 ·refine Af (wa Aa (As (Av (Ad ?_))));obtain rfl:=Aw h2;exact Au (BC Tryz.results69 (AH Aa)) sN ⟨Aa,Aa⟩
 ·refine A0 (AO (Aq (Af (wm Aa (wv (Bi (ys:=a) (enc:=Am) CR Aa) (wv (r:=Ai 0) (A5 Aa) (As (AU (ob h3 λhg hh hf=>B4 (S:=Nat×(Int)×(Unit)) (V:=(Unit)×(Unit)) 0 (λσ=>Ck (λσ=>GU F a b σ) σ.1 σ.2.1=some hg) (λσ=>[(1,AG 1 (Ay Am b)),(2,rv (.func (.func 70) #[] #[])),(15,AG 1 (Ay Am a)),(16,Ai (a.length:Int)),(17,Ai σ.2.1)]) (λσ=>[]) (λσ=>σ.1) (F,0,()) hh (AW.c5 Aa Aa Aa Aa Aa AW.nil) sN (λσ=>GT =some r) (λσ=>[]) (λσ=>[]) ?_ ?_)))))))))
  ·rintro⟨h6,ha,⟨⟩⟩ hi;refine Co (l':=[(1,AG 1 (Ay Am b)),(2,rv (.func (.func 70) #[] #[])),(15,AG 1 (Ay Am a)),(16,Ai (a.length:Int)),(17,Ai ha)]) (H':=[]) Aa Aa ?_;obtain⟨hj,rfl,hk,hb,he⟩:=CC hi;replace hb:GU F a b ha=some hk:=hb;unfold GU at hb;refine Af (wv (CO Aa Aa) (As (Aq (cz hb Aa (λhl hm=>?_) (λhl hn=>?_)))))
   ·refine A0 (AO (Aq (AU (Af (wm Aa (ck hm λho hp=>wv (Bg (enc:=Am) (ys:=a) CR CT Aa Aa ho) (wv (Ba Dz Aa Aa) (wa Aa (wa Aa (B1 (wm Aa (wm Aa (ck hp λhq hr=>wv (Bg (enc:=Am) (ys:=b) CR CT Aa Aa hq) (wv (Ba Dz Aa Aa) (wa Aa (B1 (wm Aa (wm Aa (wm Aa (ob hr λhs ht hu=>Qn (rs:=[AG 4 (Ay Ab (Ae a ha)),AG 4 (Ay Ab (Ae b ha))]) (Hin:=[]) (Hr:=[]) Tryz.call70 Aa Aa (SN _) (Pz F (Ae a ha) (Ae b ha) hs ht) Aa ?_))))))))))))))))))));rintro _ _ ⟨rfl,rfl⟩;refine wv (Cg Aa) (As (cz hu Aa (λhw hx=>?_) (λhw hy=>?_)))
    ·refine Af (wa Aa (As (Av (AB (Ad (Ad (Bt ?_)))))));have hz:=BN hx he hf;refine AB (Ad ?_);obtain rfl:=Aw hz;exact Au (BC Tryz.results69 (AH Aa)) sN ⟨Aa,Aa⟩
    ·refine A0 (AV (AO (Ar (ck hy λh0 h1=>wv (B0 Aa Aa h0) (wm Aa (Ao ?_))))));have h4:=Br h1 he;exact AF (AK (hj,ha+1,()) ⟨h4,ST _⟩ (AW.c5 Aa Aa Aa Aa Aa AW.nil) sN)
   ·refine B7 (A7 ?_);have h5:=BZ hn he hf;exact A7 (Bp (AK ((),()) h5 AW.nil sN))
  ·rintro⟨⟨⟩,⟨⟩⟩ hd;refine CB (l':=[]) (H':=[]) Aa Aa ?_;replace hd:GT =some r:=hd;unfold GT at hd;refine Bn (AO (Af (wa Aa (As (Av ?_)))));obtain rfl:=Aw hd;exact Au (BC Tryz.results69 (AH Aa)) sN ⟨Aa,Aa⟩
theorem Q5 (F:Nat)(a:A3)(b:A3)(r:Bool)(h:P0 F a b=some r):Fn Tryz.prog GE 46 [Bb (Aj a),Bb (Aj b)] [] (λR H=>R=rB r∧H=[]):=by
 refine enter (n:=31) Tryz.func46 Aa Tryz.ntmps46 Aa (λw Z=>?_);unfold P0 at h;refine Af (B6 Aa Aa (λb1=>?_));refine B6 Aa Aa (λb2=>?_);refine wa Aa (As (ck h λg3 h4=>AL [(4,rB ((decide (a.fEntity=b.fEntity))&&((decide (a.fID=b.fID))&&((decide (a.fOp=b.fOp))&&(ov (IE F a.fArgs b.fArgs))))))] [] ?_ ?_))
 ·refine Ar (vF BS Aa Dm (vL 1 Dx Aa (vF BS Aa Dm (vL 0 Dx Aa (wv (C0 Aa Aa) (wm Aa (AQ (decide (a.fEntity=b.fEntity)) (λc5=>?_) (λc5=>?_))))))))
  ·refine wo c5 (vF BS Aa Dm (wo c5 (vL 1 Dx Aa (wo c5 (vF BS Aa Dm (wo c5 (vL 0 Dx Aa (wo c5 (wv (C0 Aa Aa) (D4 Aa c5 Aa (wm Aa (AQ (decide (a.fID=b.fID)) (λc6=>?_) (λc6=>?_)))))))))))))
   ·refine wo c6 (vF BS Aa Dm (wo c6 (vL 1 Dx Aa (wo c6 (vF BS Aa Dm (wo c6 (vL 0 Dx Aa (wo c6 (wv (C0 Aa Aa) (D4 Aa c6 Aa (wm Aa (AQ (decide (a.fOp=b.fOp)) (λc7=>?_) (λc7=>?_)))))))))))))
    ·refine wo c7 (vF BS Aa Dy (wo c7 (vL 1 DT Aa (wo c7 (vF BS Aa Dy (wo c7 (vL 0 DT Aa (wo c7 (BQ Tryz.call69 (PS F a.fArgs b.fArgs (ov (IE F a.fArgs b.fArgs)) (DJ (Cl (Cl (Cl g3 c5) c6) c7))) Aa (D4 Aa c7 Aa (wa Aa (Ao ?_))))))))))));exact BP (And.intro c5 (And.intro c6 c7))
    ·refine wf c7 (wf c7 (wf c7 (wf c7 (wf c7 (wv (r:=rB false) (A4 Aa c7 Aa) (wa Aa (Ao ?_)))))));exact BP (And.intro c5 (And.intro c6 c7))
   ·refine wf c6 (wf c6 (wf c6 (wf c6 (wf c6 (wv (r:=rB false) (A4 Aa c6 Aa) (wm Aa (wz Aa Aa (wz Aa Aa (wz Aa Aa (wz Aa Aa (wz Aa Aa (wv (r:=rB false) (A4 (b:=false) Aa Aa Aa) (wa Aa (Ao ?_))))))))))))));exact BP (And.intro c5 c6)
  ·refine wf c5 (wf c5 (wf c5 (wf c5 (wf c5 (wv (r:=rB false) (A4 Aa c5 Aa) (wm Aa (wz Aa Aa (wz Aa Aa (wz Aa Aa (wz Aa Aa (wz Aa Aa (wv (r:=rB false) (A4 (b:=false) Aa Aa Aa) (wm Aa (wz Aa Aa (wz Aa Aa (wz Aa Aa (wz Aa Aa (wz Aa Aa (wv (r:=rB false) (A4 (b:=false) Aa Aa Aa) (wa Aa (Ao ?_)))))))))))))))))))));exact BP c5
 refine Av ?_;obtain rfl:=Aw h4;exact Au (BC Tryz.results46 (AH Aa)) sN ⟨Aa,Aa⟩
end Go.Proofs.YtfbmdidnlhifjaaGreatDoor.Q
namespace Go.Proofs.YtfbmdidnlhifjaaGreatDoor
open Go
set_option linter.unusedVariables false
structure M6 where
 fTime:Int
 fL:(List AA)
 deriving DecidableEq,Inhabited
structure QQ where
 fKind:Int
 fOp:A3
 fNow:Int
 deriving DecidableEq,Inhabited
def HL (op:An):Option (Int):=
 Bq (decide (op=([114,101,97,100]:An))) (some 0) (Bq (decide (op=([119,114,105,116,101]:An))) (some 1) (Bq (decide (op=([97,100,100]:An))) (some 1) (Bq (decide (op=([99,97,115]:An))) (some 2) (some (-1)))))
def Dp (F:Nat)(op:A3)(ha:Int):Option (Stp (Int) (Out (Int) (Unit))):=
 Bq (decide (ha<(op.fArgs.length:Int))) (Bm (Cd ha (op.fArgs.length:Int))<|B5 (Gt F (Ae op.fArgs ha)) λhb=>Bq (!decide (hb=0)) (some (.out (.ret hb))) (Bm (BO .i64 (ha+1))<|some (.next (ha+1)))) (some (.out (.go ())))
def Eu :Option (Int):=
 some 0
def Gs (F:Nat)(op:A3):Option (Int):=
 B5 (HL op.fOp) λr2=>Bm ((Ht F op.fEntity).isSome)<|Bm (imp (!(!(ov (Ht F op.fEntity)))) ((Ht F op.fID).isSome))<|Bq (((!(ov (Ht F op.fEntity)))||((!(ov (Ht F op.fID)))||(decide (r2<0))))) (some 4) (Bq (!decide ((op.fArgs.length:Int)=r2)) (some 7) (B5 (Ck (λσ=>Dp F op σ) F 0) (BU λν=>Eu )))
def I0 (F:Nat)(state:(List Ac))(n:(List Ac)):Option ((List Ac)×A6):=
 Bm (Cd 0 (state.length:Int))<|Bm (imp (!decide (((Ae state 0).fKind)=1)) (imp (!(!decide (((Ae state 0).fKind)=3))) (Cd 0 (n.length:Int))))<|Bm (imp (!(!decide (((Ae state 0).fKind)=1))) (Cd 0 (n.length:Int)))<|Bq ((bif !decide (((Ae state 0).fKind)=1) then((!decide (((Ae state 0).fKind)=3))||(!decide (((Ae n 0).fKind)=3))) else !decide (((Ae n 0).fKind)=3))) (some (state,(A6.mk 7 ([]:List Ac)))) (Bm (Cd 0 (n.length:Int))<|Bm (BO .i64 (((Ae state 0).fInt)+((Ae n 0).fInt)))<|B5 (Pm F (((Ae state 0).fInt)+((Ae n 0).fInt))) λha=>Bq (!decide (ha.2=0)) (some (state,(A6.mk 8 ([]:List Ac)))) (some (ha.1,(A6.mk 0 ha.1))))
def LT (F:Nat)(state:(List Ac))(op:A3):Option ((List Ac)×A6×Int):=
 B5 (Gs F op) λr3=>Bq (decide (r3=0)) (B5 (Gt F state) λr8=>Bq (!decide (r8=0)) (some (([]:List Ac),(A6.mk 0 ([]:List Ac)),r8)) (Bq (decide (op.fOp=([119,114,105,116,101]:An))) (Bm (Cd 0 (op.fArgs.length:Int))<|B5 (Ns) λhd=>some (Ae op.fArgs 0,(A6.mk 0 hd),0)) (Bq (decide (op.fOp=([97,100,100]:An))) (Bm (Cd 0 (op.fArgs.length:Int))<|B5 (I0 F state (Ae op.fArgs 0)) λha=>some (ha.1,ha.2,0)) (Bq (decide (op.fOp=([99,97,115]:An))) (Bm (Cd 0 (op.fArgs.length:Int))<|B5 (DB F state (Ae op.fArgs 0)) λhe=>Bq (he) (Bm (Cd 1 (op.fArgs.length:Int))<|B5 (Ky true) λhf=>some (Ae op.fArgs 1,(A6.mk 0 hf),0)) (B5 (Ky false) λhg=>some (state,(A6.mk 0 hg),0))) (some (state,(A6.mk 0 state),0)))))) (Bq (!decide (r3=0)) (some (([]:List Ac),(A6.mk 0 ([]:List Ac)),r3)) (Bq (decide (op.fOp=([119,114,105,116,101]:An))) (Bm (Cd 0 (op.fArgs.length:Int))<|B5 (Ns) λhh=>some (Ae op.fArgs 0,(A6.mk 0 hh),0)) (Bq (decide (op.fOp=([97,100,100]:An))) (Bm (Cd 0 (op.fArgs.length:Int))<|B5 (I0 F state (Ae op.fArgs 0)) λhb=>some (hb.1,hb.2,0)) (Bq (decide (op.fOp=([99,97,115]:An))) (Bm (Cd 0 (op.fArgs.length:Int))<|B5 (DB F state (Ae op.fArgs 0)) λhi=>Bq (hi) (Bm (Cd 1 (op.fArgs.length:Int))<|B5 (Ky true) λhj=>some (Ae op.fArgs 1,(A6.mk 0 hj),0)) (B5 (Ky false) λhk=>some (state,(A6.mk 0 hk),0))) (some (state,(A6.mk 0 state),0))))))
def JN (id:An)(n:Int):Option (A3):=
 some (A3.mk ([120]:An) id ([97,100,100]:An) ([([(Ac.mk 3 n ([]:An) 0)]:List Ac)]:List (List Ac)))
def GP (a:(List An))(b:(List An))(ha:Int):Option (Stp (Int) (Out (Bool) (Unit))):=
 Bq (decide (ha<(a.length:Int))) (Bm (Cd ha (a.length:Int))<|Bm (Cd ha (b.length:Int))<|Bq (!decide ((Ae a ha)=(Ae b ha))) (some (.out (.ret false))) (Bm (BO .i64 (ha+1))<|some (.next (ha+1)))) (some (.out (.go ())))
def GO :Option (Bool):=
 some true
def Lk (F:Nat)(a:(List An))(b:(List An)):Option (Bool):=
 Bq (!decide ((a.length:Int)=(b.length:Int))) (some false) (B5 (Ck (λσ=>GP a b σ) F 0) (BU λν=>GO ))
def Eh (v:(List Ac))(ha:Int):Option (Stp (Int) (Out (Bool) (Unit))):=
 Bq (decide (ha<(v.length:Int))) (Bm (Cd ha (v.length:Int))<|Bq (decide (250<(((Ae v ha).fStr).length:Int))) (some (.out (.ret false))) (Bm (BO .i64 (ha+1))<|some (.next (ha+1)))) (some (.out (.go ())))
def GR :Option (Bool):=
 some true
def Eo (F:Nat)(v:(List Ac)):Option (Bool):=
 Bq (decide (100<(v.length:Int))) (some false) (B5 (Ck (λσ=>Eh v σ) F 0) (BU λν=>GR ))
def Eg (F:Nat)(op:A3)(ha:Int):Option (Stp (Int) (Out (Bool) (Unit))):=
 Bq (decide (ha<(op.fArgs.length:Int))) (Bm (Cd ha (op.fArgs.length:Int))<|B5 (Eo F (Ae op.fArgs ha)) λhb=>Bq (!hb) (some (.out (.ret false))) (Bm (BO .i64 (ha+1))<|some (.next (ha+1)))) (some (.out (.go ())))
def GQ :Option (Bool):=
 some true
def G1 (F:Nat)(op:A3):Option (Bool):=
 Bq (((decide (100<(op.fEntity.length:Int)))||((decide (100<(op.fID.length:Int)))||((decide (100<(op.fOp.length:Int)))||(decide (4<(op.fArgs.length:Int))))))) (some false) (B5 (Ck (λσ=>Eg F op σ) F 0) (BU λν=>GQ ))
def Dh (F:Nat)(a:A6)(b:A6):Option (Bool):=
 Bm (imp (decide (a.fErr=b.fErr)) ((DB F a.fValue b.fValue).isSome))<|some ((decide (a.fErr=b.fErr))&&(ov (DB F a.fValue b.fValue)))
end Go.Proofs.YtfbmdidnlhifjaaGreatDoor
namespace Go.Proofs.YtfbmdidnlhifjaaGreatDoor.Q
open Go Go.RowKit
set_option linter.unusedVariables false
set_option linter.unusedSimpArgs false
set_option maxRecDepth 100000
set_option maxHeartbeats 4000000
theorem R2:∃inf,Tryz.prog.info? 44=some inf∧inf.zero=some (.agg #[(.string ⟨#[]⟩),(.string ⟨#[]⟩),(.string ⟨#[]⟩),(.slice none 0 0),(.int .i64 0),(.slice none 0 0),(.int .i64 0),(.int .i64 0)])∧inf.size=8∧inf.bytes=120:=by
  have key:(Tryz.prog.info? 44).map (λi=>(i.zero,i.size,i.bytes))=some (some (.agg #[(.string ⟨#[]⟩),(.string ⟨#[]⟩),(.string ⟨#[]⟩),(.slice none 0 0),(.int .i64 0),(.slice none 0 0),(.int .i64 0),(.int .i64 0)]),8,120):=by kernel_rfl
  obtain⟨inf,h1,h2⟩:=Option.map_eq_some_iff.1 key;simp only[Prod.mk.injEq] at h2;exact⟨inf,h1,h2.1,h2.2.1,h2.2.2⟩
theorem QN (parts:List (Nat×Value)):Tryz.prog.built 25 parts=Instr.fill (λi=>(#[(0,1),(1,1),(2,1),(3,1)]:Array (Nat×Nat))[i]?) #[(.string ⟨#[]⟩),(.string ⟨#[]⟩),(.string ⟨#[]⟩),((.slice none 0 0))] parts:=by kernel_rfl
theorem HT {n:Nat}{c:Cx}{l:Fr}{H:List Ent}{d:Option Nat}{ty:TypeId}{pos:String}{af:Array Edge}{g:Option (Nat×Bool)}{x0:Operand}{r0:Rp}(h0:ev l x0=some r0)(u0:r0.one=true){x1:Operand}{r1:Rp}(h1:ev l x1=some r1)(u1:r1.one=true){x2:Operand}{r2:Rp}(h2:ev l x2=some r2)(u2:r2.one=true){x3:Operand}{r3:Rp}(h3:ev l x3=some r3)(u3:r3.one=true):Bo Tryz.prog n c l H { dst:=d,op:=.build 25 #[(0,x0),(1,x1),(2,x2),(3,x3)],type:=ty,pos:=pos,after:=af,guard:=g } (Bb [r0,r1,r2,r3]):=λa w Z ha _=>by
  have p0:=ha.ev h0;have c0:=Bz (r0.hone u0 Z _ p0);have p1:=ha.ev h1;have c1:=Bz (r1.hone u1 Z _ p1);have p2:=ha.ev h2;have c2:=Bz (r2.hone u2 Z _ p2);have p3:=ha.ev h3;have c3:=Bz (r3.hone u3 Z _ p3);have hb:Tryz.prog.built 25 [(0,a.eval x0),(1,a.eval x1),(2,a.eval x2),(3,a.eval x3)]=some #[a.eval x0,a.eval x1,a.eval x2,a.eval x3]:=by
    rw[QN];generalize a.eval x0=v0 at *;generalize a.eval x1=v1 at *;generalize a.eval x2=v2 at *;generalize a.eval x3=v3 at *;simp[Instr.fill,c0,c1,c2,c3]
  refine⟨.agg #[a.eval x0,a.eval x1,a.eval x2,a.eval x3],⟨[a.eval x0,a.eval x1,a.eval x2,a.eval x3],rfl,p0,p1,p2,p3,trivial⟩,?_⟩;have:=run_build w 25 #[(0,a.eval x0),(1,a.eval x1),(2,a.eval x2),(3,a.eval x3)] _ (by simpa using hb);simp[execOp,this]
theorem NE (parts:List (Nat×Value)):Tryz.prog.built 44 parts=Instr.fill (λi=>(#[(0,4),(4,2),(6,1),(7,1)]:Array (Nat×Nat))[i]?) #[(.string ⟨#[]⟩),(.string ⟨#[]⟩),(.string ⟨#[]⟩),((.slice none 0 0)),(.int .i64 0),((.slice none 0 0)),(.int .i64 0),(.int .i64 0)] parts:=by kernel_rfl
theorem EW {n:Nat}{c:Cx}{l:Fr}{H:List Ent}{d:Option Nat}{ty:TypeId}{pos:String}{af:Array Edge}{g:Option (Nat×Bool)}:Bo Tryz.prog n c l H { dst:=d,op:=.build 44 #[],type:=ty,pos:=pos,after:=af,guard:=g } (Bb [rS ([]:An),rS ([]:An),rS ([]:An),rv (.slice none 0 0),Ai 0,rv (.slice none 0 0),Ai 0,Ai 0]):=λa w Z ha _=>by
  have hb:Tryz.prog.built 44 []=some #[(.string ⟨#[]⟩),(.string ⟨#[]⟩),(.string ⟨#[]⟩),((.slice none 0 0)),(.int .i64 0),((.slice none 0 0)),(.int .i64 0),(.int .i64 0)]:=by
    rw[NE];simp[Instr.fill,Value.cells]
  refine⟨.agg #[(.string ⟨#[]⟩),(.string ⟨#[]⟩),(.string ⟨#[]⟩),((.slice none 0 0)),(.int .i64 0),((.slice none 0 0)),(.int .i64 0),(.int .i64 0)],⟨[(.string ⟨#[]⟩),(.string ⟨#[]⟩),(.string ⟨#[]⟩),((.slice none 0 0)),(.int .i64 0),((.slice none 0 0)),(.int .i64 0),(.int .i64 0)],rfl,rfl,rfl,rfl,rfl,rfl,rfl,rfl,rfl,trivial⟩,?_⟩;have:=run_build w 44 #[] _ (by simpa using hb);simp[execOp,this]
theorem Gh {n:Nat}{c:Cx}{l:Fr}{H:List Ent}{d:Option Nat}{ty:TypeId}{pos:String}{af:Array Edge}{g:Option (Nat×Bool)}{x0:Operand}{r0_0 r0_1 r0_2 r0_3:Rp}(h0:ev l x0=some (Bb [r0_0,r0_1,r0_2,r0_3])){x2:Operand}{r2:Rp}(h2:ev l x2=some r2)(u2:r2.one=true){x3:Operand}{r3:Rp}(h3:ev l x3=some r3)(u3:r3.one=true):Bo Tryz.prog n c l H { dst:=d,op:=.build 44 #[(0,x0),(2,x2),(3,x3)],type:=ty,pos:=pos,after:=af,guard:=g } (Bb [r0_0,r0_1,r0_2,r0_3,Ai 0,rv (.slice none 0 0),r2,r3]):=λa w Z ha _=>by
  obtain⟨us0,e0,q0⟩:=ha.ev h0;obtain⟨y0_0,y0_1,y0_2,y0_3,rfl,q0⟩:=AX.d4 q0;have p2:=ha.ev h2;have c2:=Bz (r2.hone u2 Z _ p2);have p3:=ha.ev h3;have c3:=Bz (r3.hone u3 Z _ p3);have cg:∀cs:Array Value,(Value.agg cs).cells=cs:=λ_=>rfl;have hb:Tryz.prog.built 44 [(0,a.eval x0),(2,a.eval x2),(3,a.eval x3)]=some #[y0_0,y0_1,y0_2,y0_3,(.int .i64 0),((.slice none 0 0)),a.eval x2,a.eval x3]:=by
    rw[NE];generalize a.eval x2=v2 at *;generalize a.eval x3=v3 at *;simp[Instr.fill,e0,c2,c3,cg]
  refine⟨.agg #[y0_0,y0_1,y0_2,y0_3,(.int .i64 0),((.slice none 0 0)),a.eval x2,a.eval x3],⟨[y0_0,y0_1,y0_2,y0_3,(.int .i64 0),((.slice none 0 0)),a.eval x2,a.eval x3],rfl,q0.1,q0.2.1,q0.2.2.1,q0.2.2.2.1,rfl,rfl,p2,p3,trivial⟩,?_⟩;have:=run_build w 44 #[(0,a.eval x0),(2,a.eval x2),(3,a.eval x3)] _ (by simpa using hb);simp[execOp,this]
theorem Of (op:An)(r:Int)(h:HL op=some r):Fn Tryz.prog GE 63 [rS op] [] (λR H=>R=Ai r∧H=[]):=by
 refine enter (n:=11) Tryz.func63 Aa Tryz.ntmps63 Aa (λw Z=>?_);unfold HL at h;refine Af (wa Aa (As (Aq (Af (wm Aa (As (AU (Af (wv (C0 Aa Aa) (wa Aa (As (cz h Aa (λc1 h2=>?_) (λc1 h3=>?_)))))))))))))
 ·refine Af (wa Aa (As (Av (AB (Ad ?_)))));obtain rfl:=Aw h2;exact Au (BC OO (AH Aa)) sN ⟨Aa,Aa⟩
 ·refine Aq (Af (wv (C0 Aa Aa) (wa Aa (As (cz h3 Aa (λc4 h5=>?_) (λc4 h6=>?_))))))
  ·refine A0 (AO (DY Aa c4 (Af (wa Aa (As (Av (AB (Ad ?_))))))));obtain rfl:=Aw h5;exact Au (BC OO (AH Aa)) sN ⟨Aa,Aa⟩
  ·refine Ar (wv (C0 Aa Aa) (wa Aa (As (cz h6 Aa (λc7 h8=>?_) (λc7 h9=>?_)))))
   ·refine Af (wa Aa (As (Av (AB (Ad ?_)))));obtain rfl:=Aw h8;exact Au (BC OO (AH Aa)) sN ⟨Aa,Aa⟩
   ·refine Af (wv (C0 Aa Aa) (wa Aa (As (cz h9 Aa (λha hb=>?_) (λha hd=>?_)))))
    ·refine Af (wa Aa (As (Av (AB (Ad ?_)))));obtain rfl:=Aw hb;exact Au (BC OO (AH Aa)) sN ⟨Aa,Aa⟩
    ·refine A0 (AV (AO (Af (wv (r:=Ai (-1)) (AC Aa) (As (Av ?_))))));obtain rfl:=Aw hd;exact Au (BC OO (AH Aa)) sN ⟨Aa,Aa⟩
theorem MJ (F:Nat)(op:A3)(r:Int)(h:Gs F op=some r):Fn Tryz.prog GE 40 [Bb (Aj op)] [] (λR H=>R=Ai r∧H=[]):=by
 refine enter (n:=44) Tryz.func40 Aa Tryz.ntmps40 Aa (λw Z=>?_);unfold Gs at h;refine Af (B6 Aa Aa (λb1=>?_));refine wa Aa (B1 (vF BS Aa Dm (vL 0 Dx Aa (ob h λr2 e4 h3=>BQ Tryz.call63 (Of op.fOp r2 e4) Aa (wa Aa (As (Aq (ck h3 λg5 h6=>ck h6 λg7 h8=>AL [(1,rP b1 0),(3,Ai r2),(22,rB ((!(ov (Ht F op.fEntity)))||((!(ov (Ht F op.fID)))||(decide (r2<0)))))] [.blk b1 (Aj op) 25] ?_ ?_))))))))
 ·refine Ar (vF BS Aa Dm (vL 0 Dx Aa (BQ Tryz.call64 (PL F op.fEntity (ov (Ht F op.fEntity)) (DJ g5)) Aa (wv (Cg Aa) (wm Aa (AQ (!(ov (Ht F op.fEntity))) (λc9=>?_) (λc9=>?_)))))))
  ·refine wf c9 (wf c9 (wf c9 (wf c9 (wv (r:=rB true) (At Aa c9 Aa) (wm Aa (wz Aa Aa (wz Aa Aa (wv (r:=rB true) (At (b:=true) Aa Aa Aa) (Ao ?_)))))))));exact BP c9
  ·refine wo c9 (vF BS Aa Dm (wo c9 (vL 0 Dx Aa (wo c9 (BQ Tryz.call64 (PL F op.fID (ov (Ht F op.fID)) (DJ (D3 g7 c9))) Aa (wo c9 (wv (Cg Aa) (Er Aa c9 Aa (wm Aa (AQ (!(ov (Ht F op.fID))) (λha=>?_) (λha=>?_)))))))))))
   ·refine wf ha (wf ha (wv (r:=rB true) (At Aa ha Aa) (Ao ?_)));exact BP (And.intro c9 ha)
   ·refine wo ha (wm Aa (wo ha (wv (CO Aa Aa) (Er Aa ha Aa (Ao ?_)))));exact BP (And.intro c9 ha)
 refine cz h8 Aa (λhh hi=>?_) (λhh hj=>?_)
 ·refine Af (wa Aa (As (Av (Ad ?_))));obtain rfl:=Aw hi;exact Au (BC Qi (AH Aa)) (sS sN) ⟨Aa,Aa⟩
 ·refine A0 (AO (Aq (Af (vF BS Aa Dy (vL 0 DT Aa (wv (Bi (ys:=op.fArgs) (enc:=Am) CR Aa) (wm Aa (wv (CZ Aa Aa) (As (cz hj Aa (λhk hl=>?_) (λhk hm=>?_)))))))))))
  ·refine Af (wa Aa (As (Av (Ad ?_))));obtain rfl:=Aw hl;exact Au (BC Qi (AH Aa)) (sS sN) ⟨Aa,Aa⟩
  ·refine A0 (AO (Aq (Af (wa Aa (As (AU (ob hm λhn ho hg=>B4 (S:=Nat×(Int)×(Unit)) (V:=(Unit)×(Unit)) 0 (λσ=>Ck (λσ=>Dp F op σ) σ.1 σ.2.1=some hn) (λσ=>[(1,rP b1 0),(4,Ai σ.2.1)]) (λσ=>[.blk b1 (Aj op) 25]) (λσ=>σ.1) (F,0,()) ho (AW.c Aa (AW.c Aa AW.nil)) (sC sN) (λσ=>Eu =some r) (λσ=>[]) (λσ=>[]) ?_ ?_)))))))
   ·rintro⟨hC,hb,⟨⟩⟩ hp;refine Co (l':=[(1,rP b1 0),(4,Ai hb)]) (H':=[.blk b1 (Aj op) 25]) Aa Aa ?_;obtain⟨hq,rfl,hr,hd,hf⟩:=CC hp;replace hd:Dp F op hb=some hr:=hd;unfold Dp at hd;refine Aq (Af (wm Aa (vF BS Aa Dy (vL 0 DT Aa (wv (Bi (ys:=op.fArgs) (enc:=Am) CR Aa) (wv (CO Aa Aa) (As (cz hd Aa (λhs ht=>?_) (λhs hu=>?_)))))))))
    ·refine A0 (AO (Aq (AU (Af (vF BS Aa Dy (vL 0 DT Aa (wm Aa (ck ht λhw hx=>wv (Bg (enc:=Am) (ys:=op.fArgs) CR CT Aa Aa hw) (wv (Ba Dz Aa Aa) (ob hx λhy hz h0=>BQ Tryz.call41 (J5 F (Ae op.fArgs hb) hy hz) Aa (wa Aa (B1 (wm Aa (wv (CZ Aa Aa) (As (cz h0 Aa (λh1 h2=>?_) (λh1 h4=>?_)))))))))))))))))
     ·refine Af (wm Aa (wa Aa (As (Av (AB (Ad (Ad (Bt ?_))))))));have h5:=BN h2 hf hg;refine AB (Ad ?_);obtain rfl:=Aw h5;exact Au (BC Qi (AH Aa)) (sS sN) ⟨Aa,Aa⟩
     ·refine A0 (AV (AO (Ar (wm Aa (ck h4 λh7 h9=>wv (B0 Aa Aa h7) (wa Aa (Ao ?_)))))));have hA:=Br h9 hf;exact AF (AK (hq,hb+1,()) ⟨hA,ST _⟩ (AW.c Aa (AW.c Aa AW.nil)) (sC sN))
    ·refine B7 (A7 ?_);have hB:=BZ hu hf hg;exact A7 (Bp (AK ((),()) hB AW.nil (sS sN)))
   ·rintro⟨⟨⟩,⟨⟩⟩ he;refine CB (l':=[]) (H':=[]) Aa Aa ?_;replace he:Eu =some r:=he;unfold Eu at he;refine Bn (AO (Af (wa Aa (As (Av ?_)))));obtain rfl:=Aw he;exact Au (BC Qi (AH Aa)) sN ⟨Aa,Aa⟩
theorem LV (F:Nat)(state:(List Ac))(n:(List Ac))(r:(List Ac)×A6)(h:I0 F state n=some r):Fn Tryz.prog GE 42 [AG 4 (Ay Ab state),AG 4 (Ay Ab n)] [] (λR H=>R=C4 [AG 4 (Ay Ab r.1),Bb (A1 r.2)]∧H=[]):=by
 refine enter (n:=49) Tryz.func42 Aa Tryz.ntmps42 Aa (λw Z=>?_);unfold I0 at h;refine Af (wa Aa (BA (cs:=[Ai 0,rv (.slice none 0 0)]) GX Aa Aa (λb1=>?_)));refine As (Aq (ck h λg2 h3=>ck h3 λg4 h5=>ck h5 λg6 h7=>AL [(0,AG 4 (Ay Ab state)),(1,AG 4 (Ay Ab n)),(5,rP b1 0),(26,rB (bif !decide (((Ae state 0).fKind)=1) then((!decide (((Ae state 0).fKind)=3))||(!decide (((Ae n 0).fKind)=3))) else !decide (((Ae n 0).fKind)=3)))] [.blk b1 [Ai 0,rv (.slice none 0 0)] 31] ?_ ?_))
 ·refine Ar (wm Aa (wv (Bg (enc:=Ab) (ys:=state) BF BJ Aa Aa g2) (wv (Be Bh Aa CS Aa Aa) (wv (Ba CU Aa Aa) (wv (CZ Aa Aa) (wm Aa (AQ (!decide (((Ae state 0).fKind)=1)) (λc8=>?_) (λc8=>?_))))))))
  ·refine wo c8 (wm Aa (wo c8 (wv (Bg (enc:=Ab) (ys:=state) BF BJ Aa Aa g2) (wo c8 (wv (Be Bh Aa CS Aa Aa) (wo c8 (wv (Ba CU Aa Aa) (wo c8 (wv (CZ Aa Aa) (D4 Aa c8 Aa (wm Aa (AQ (!decide (((Ae state 0).fKind)=3)) (λc9=>?_) (λc9=>?_)))))))))))))
   ·refine wf c9 (wf c9 (wf c9 (wf c9 (wf c9 (wv (r:=rB true) (At Aa c9 Aa) (Ao ?_))))));exact BP (And.intro c8 c9)
   ·refine wo c9 (wm Aa (wo c9 (wv (Bg (enc:=Ab) (ys:=n) BF BJ Aa Aa (D3 (Cl g4 c8) c9)) (wo c9 (wv (Be Bh Aa CS Aa Aa) (wo c9 (wv (Ba CU Aa Aa) (wo c9 (wv (CZ Aa Aa) (Er Aa c9 Aa (Ao ?_)))))))))));exact BP (And.intro c8 c9)
  ·refine wf c8 (wf c8 (wf c8 (wf c8 (wf c8 (wv (r:=rB false) (A4 Aa c8 Aa) (wm Aa (Bk (b:=false) Aa Aa Aa (wm Aa (Bk (b:=false) Aa Aa Aa (wv (Bg (enc:=Ab) (ys:=n) BF BJ Aa Aa (D3 g6 c8)) (Bk (b:=false) Aa Aa Aa (wv (Be Bh Aa CS Aa Aa) (Bk (b:=false) Aa Aa Aa (wv (Ba CU Aa Aa) (Bk (b:=false) Aa Aa Aa (wv (CZ Aa Aa) (wv (r:=rB (!decide (((Ae n 0).fKind)=3))) (A4 (b:=false) Aa Aa Aa) (Ao ?_))))))))))))))))));exact BP c8
 refine cz h7 Aa (λhb hd=>?_) (λhb he=>?_)
 ·refine Af (wm Aa (wv (r:=Bb [Ai 7,rv (.slice none 0 0)]) (CP Aa Aa) (wa Aa (A8 (i:=0) Bw Aa Aa Aa (AZ.c Aa) Aa Aa (cs':=[Ai 7,rv (.slice none 0 0)]) Aa (H':=[.blk b1 [Ai 7,rv (.slice none 0 0)] 31]) Aa (As (Av (Ad (WK.upBlk (i:=0) (cs':=[Ai 7,AG 4 (Ay Ab ([]:List Ac))]) Aa ⟨Up.refl _,Up.le (E7.nil _),trivial⟩ ?_))))))));obtain rfl:=Aw hd;exact Au (Il Tryz.results42 (AH Aa) (BD (i:=0) Cs Bw Aa Aa Aa)) (sS sN) ⟨Aa,Aa⟩
 ·refine A0 (AO (Aq (ck he λhf hg=>ck hg λhh hi=>ob hi λha hj hk=>DI [0,1,5] [⟨[],AG 4 (Ay Ab state),0⟩,⟨[0],Lb (Ab (Ae state 0)),0⟩,⟨[1],Lb [Ai ((Ae state 0).fInt),rS ((Ae state 0).fStr),Ai ((Ae state 0).fN)],0⟩,⟨[2],Ai ((Ae state 0).fInt),0⟩,⟨[],AG 4 (Ay Ab n),0⟩,⟨[4],Lb (Ab (Ae n 0)),0⟩,⟨[5],Lb [Ai ((Ae n 0).fInt),rS ((Ae n 0).fStr),Ai ((Ae n 0).fN)],0⟩,⟨[6],Ai ((Ae n 0).fInt),0⟩,⟨[3,7],Ai (((Ae state 0).fInt)+((Ae n 0).fInt)),0⟩,⟨[8],C4 [AG 4 (Ay Ab ha.1),Ai ha.2],0⟩,⟨[9],C4 [AG 4 (Ay Ab ha.1),Ai ha.2],0⟩,⟨[10],AG 4 (Ay Ab ha.1),0⟩,⟨[10],Ai ha.2,0⟩,⟨[11],AG 4 (Ay Ab ha.1),0⟩,⟨[12],Ai ha.2,0⟩] [6,7,0,5] ?_ ?_)))
  ·refine oq (A5 Aa) (oq (Bg (enc:=Ab) (ys:=state) BF BJ Aa Aa g2) (oq (Be Bh Aa Cq Aa Aa) (oq (Ba Dk Aa Aa) (oq (A5 Aa) (oq (Bg (enc:=Ab) (ys:=n) BF BJ Aa Aa hf) (oq (Be Bh Aa Cq Aa Aa) (oq (Ba Dk Aa Aa) (oq (B0 Aa Aa hh) (CN Aa (λH=>DC Tryz.call68 (Ru F (((Ae state 0).fInt)+((Ae n 0).fInt)) ha hj) Aa) ?_)))))))));refine oq (A5 Aa) (oq (AJ Aa Aa) (oq (AJ Aa Aa) (oq (AC Aa) (oq (AC Aa) ?_))));exact Du
  refine AO (Aq (Af (wm Aa (wv (CZ Aa Aa) (As (cz hk Aa (λhl hm=>?_) (λhl hn=>?_)))))))
  ·refine Af (wm Aa (wv (r:=Bb [Ai 8,rv (.slice none 0 0)]) (CP Aa Aa) (wa Aa (A8 (i:=0) Bw Aa Aa Aa (AZ.c Aa) Aa Aa (cs':=[Ai 8,rv (.slice none 0 0)]) Aa (H':=[.blk b1 [Ai 8,rv (.slice none 0 0)] 31]) Aa (As (Av (Ad (WK.upBlk (i:=0) (cs':=[Ai 8,AG 4 (Ay Ab ([]:List Ac))]) Aa ⟨Up.refl _,Up.le (E7.nil _),trivial⟩ ?_))))))));obtain rfl:=Aw hm;exact Au (Il Tryz.results42 (AH Aa) (BD (i:=0) Cs Bw Aa Aa Aa)) (sS sN) ⟨Aa,Aa⟩
  ·refine A0 (AO (Af (wm Aa (wm Aa (wv (r:=Bb [Ai 0,AG 4 (Ay Ab ha.1)]) (B9 Aa Aa) (wa Aa (A8 (i:=0) Bw Aa Aa Aa (AZ.c Aa) Aa Aa (cs':=[Ai 0,AG 4 (Ay Ab ha.1)]) Aa (H':=[.blk b1 [Ai 0,AG 4 (Ay Ab ha.1)] 31]) Aa (As (Av ?_)))))))));obtain rfl:=Aw hn;exact Au (Il Tryz.results42 (AH Aa) (BD (i:=0) Cs Bw Aa Aa Aa)) (sS sN) ⟨Aa,Aa⟩
theorem Qy (F:Nat)(state:(List Ac))(op:A3)(r:(List Ac)×A6×Int)(h:LT F state op=some r):Fn Tryz.prog GE 12 [AG 4 (Ay Ab state),Bb (Aj op)] [] (λR H=>R=C4 [AG 4 (Ay Ab r.1),Bb (A1 r.2.1),Ai r.2.2]∧H=[]):=by
 refine enter (n:=63) Tryz.func12 Aa Tryz.ntmps12 Aa (λw Z=>?_);unfold LT at h;refine Af (B6 Aa Aa (λb1=>?_));refine wa Aa (BA (cs:=[Ai 0,rv (.slice none 0 0)]) GX Aa Aa (λb2=>?_));refine wa Aa (B1 (wv (Bd (i:=1) Hh Ei Aa Aa Aa Aa) (ob h λr3 e5 h4=>BQ Tryz.call40 (MJ F op r3 e5) Aa (wa Aa (As (Aq (Af (wm Aa (wv (Bv Aa Aa) (As (cz h4 Aa (λc6 h7=>?_) (λc6 hl=>?_))))))))))))
 ·refine Ar (wm Aa (ob h7 λr8 hm h9=>BQ Tryz.call41 (J5 F state r8 hm) Aa (wa Aa (As (Aq (Af (wm Aa (wv (CZ Aa Aa) (As (cz h9 Aa (λhn ho=>?_) (λhn hp=>?_)))))))))))
  ·refine Af (wv (r:=Bb [Ai 0,rv (.slice none 0 0)]) (EX ) (wm Aa (wa Aa (A8 (i:=0) Bw Aa Aa Aa (AZ.c Aa) Aa Aa (cs':=[Ai 0,rv (.slice none 0 0)]) Aa (H':=[.blk b2 [Ai 0,rv (.slice none 0 0)] 31,.blk b1 (Aj op) 25]) Aa (wa Aa (As (Av (Ad (WK.up (d:=4) (r:=AG 4 (Ay Ab ([]:List Ac))) Aa (Up.le (E7.nil _)) (WK.upBlk (i:=0) (cs':=[Ai 0,AG 4 (Ay Ab ([]:List Ac))]) Aa ⟨Up.refl _,Up.le (E7.nil _),trivial⟩ ?_))))))))));obtain rfl:=Aw ho;exact Au (Jh IW (AH Aa) (BD (i:=0) Cs Bw Aa Aa Aa) (AH Aa)) (sS (sS sN)) ⟨Aa,Aa⟩
  ·refine A0 (AO (Aq (Af (vF BS Aa Dm (vL 1 Dx Aa (As (AU (Af (wv (C0 Aa Aa) (wa Aa (As (cz hp Aa (λhq hr=>?_) (λhq hs=>?_)))))))))))))
   ·refine Aq (ck hr λht hu=>ob hu λhd hw hx=>BV 7 [3,5,6] [⟨[],rP b1 3,none,none,none⟩,⟨[0],AG 1 (Ay Am op.fArgs),none,none,none⟩,⟨[1],Lb [AG 4 (Ay Ab (Ae op.fArgs 0))],none,none,none⟩,⟨[2],AG 4 (Ay Ab (Ae op.fArgs 0)),none,none,none⟩,⟨[],AG 4 (Ay Ab hd),none,none,none⟩,⟨[4],Bb [Ai 0,AG 4 (Ay Ab hd)],none,none,none⟩,⟨[3],AG 4 (Ay Ab (Ae op.fArgs 0)),none,none,none⟩] ?_ (λβ=>?_))
    ·refine Cf (AS BS Aa Dy Aa Aa) (HR (B3 (i:=1) DT Aa Aa Aa) (Cf (Bg (enc:=Am) (ys:=op.fArgs) CR CT Aa Aa ht) (Cf (Ba Dz Aa Aa) (Lg (DC Tryz.call34 (Nr hd hw) Aa) (Cf (B9 Aa Aa) (Cf (AC Aa) ?_))))));exact K0
    refine Ct (H1:=[.blk b2 [Ai 0,rv (.slice none 0 0)] 31,.blk b1 (Aj op) 25]) [24,25,26,27,28,29,4,3,5,6] ?_;refine A8 (i:=0) Bw Aa Aa Aa (AZ.c Aa) Aa Aa (cs':=[Ai 0,AG 4 (Ay Ab hd)]) Aa (H':=[.blk b2 [Ai 0,AG 4 (Ay Ab hd)] 31,.blk b1 (Aj op) 25]) Aa (wa Aa (As (Av (AB (Ad ?_)))));obtain rfl:=Aw hx;exact Au (Jh IW (AH Aa) (BD (i:=0) Cs Bw Aa Aa Aa) (AH Aa)) (sS (sS sN)) ⟨Aa,Aa⟩
   ·refine Af (wv (C0 Aa Aa) (wa Aa (As (cz hs Aa (λhy hz=>?_) (λhy h0=>?_)))))
    ·refine Af (wm Aa (vF BS Aa Dy (vL 1 DT Aa (ck hz λh1 h2=>wv (Bg (enc:=Am) (ys:=op.fArgs) CR CT Aa Aa h1) (wv (Ba Dz Aa Aa) (ob h2 λha h3 h5=>BQ Tryz.call42 (LV F state (Ae op.fArgs 0) ha h3) Aa (wm Aa (wv (AJ Aa Aa) (wv (AJ Aa Aa) (BA (cs:=[Ai 0,rv (.slice none 0 0)]) GX Aa Aa (λhj=>?_)))))))))));refine wa Aa (A8 (i:=0) Bw Aa Aa Aa (AZ.c Aa) Aa Aa (cs':=[Ai ha.2.fErr,AG 4 (Ay Ab ha.2.fValue)]) Aa (H':=[.blk hj (A1 ha.2) 31,.blk b2 [Ai 0,rv (.slice none 0 0)] 31,.blk b1 (Aj op) 25]) Aa (As (Aq (BV 3 [5,6,8,9] [⟨[],AG 4 (Ay Ab ha.1),none,none,none⟩,⟨[],Bb (A1 ha.2),none,none,none⟩,⟨[0],AG 4 (Ay Ab ha.1),none,none,none⟩] ?_ (λβ=>?_)))))
     ·refine Cf (A5 Aa) (HR (Bd (i:=0) Cs Bw Aa Aa Aa Aa) (Cf (AC Aa) ?_));exact K0
     refine Ct (H1:=[.blk hj (A1 ha.2) 31,.blk b2 [Ai 0,rv (.slice none 0 0)] 31,.blk b1 (Aj op) 25]) [41,42,4,5,6,8,9] ?_;refine A8 (i:=1) Bw Aa Aa Aa (AZ.c Aa) Aa Aa (cs':=[Ai ha.2.fErr,AG 4 (Ay Ab ha.2.fValue)]) Aa (H':=[.blk hj (A1 ha.2) 31,.blk b2 (A1 ha.2) 31,.blk b1 (Aj op) 25]) Aa (wa Aa (As (Av (AB (Ad ?_)))));obtain rfl:=Aw h5;exact Au (Jh IW (AH Aa) (BD (i:=1) Cs Bw Aa Aa Aa) (AH Aa)) (sS (sS (sS sN))) ⟨Aa,Aa⟩
    ·refine Af (wv (C0 Aa Aa) (wa Aa (As (cz h0 Aa (λh6 h8=>?_) (λh6 hA=>?_)))))
     ·refine Aq (Af (wm Aa (vF BS Aa Dy (vL 1 DT Aa (ck h8 λhB hC=>wv (Bg (enc:=Am) (ys:=op.fArgs) CR CT Aa Aa hB) (wv (Ba Dz Aa Aa) (ob hC λhD hE hG=>BQ Tryz.call13 (Ji F state (Ae op.fArgs 0) hD hE) Aa (As (cz hG Aa (λhH hI=>?_) (λhH hJ=>?_))))))))))
      ·refine Aq (ck hI λhK hL=>ob hL λhe hN hO=>BV 7 [3,5,6] [⟨[],rP b1 3,none,none,none⟩,⟨[0],AG 1 (Ay Am op.fArgs),none,none,none⟩,⟨[1],Lb [AG 4 (Ay Ab (Ae op.fArgs 1))],none,none,none⟩,⟨[2],AG 4 (Ay Ab (Ae op.fArgs 1)),none,none,none⟩,⟨[],AG 4 (Ay Ab he),none,none,none⟩,⟨[4],Bb [Ai 0,AG 4 (Ay Ab he)],none,none,none⟩,⟨[3],AG 4 (Ay Ab (Ae op.fArgs 1)),none,none,none⟩] ?_ (λβ=>?_))
       ·refine Cf (AS BS Aa Dy Aa Aa) (HR (B3 (i:=1) DT Aa Aa Aa) (Cf (Bg (enc:=Am) (ys:=op.fArgs) CR CT Aa Aa hK) (Cf (Ba Dz Aa Aa) (Lg (DC Tryz.call43 (Jk true he hN) Aa) (Cf (B9 Aa Aa) (Cf (AC Aa) ?_))))));exact K0
       refine Ct (H1:=[.blk b2 [Ai 0,rv (.slice none 0 0)] 31,.blk b1 (Aj op) 25]) [51,52,53,54,55,56,4,3,5,6] ?_;refine A8 (i:=0) Bw Aa Aa Aa (AZ.c Aa) Aa Aa (cs':=[Ai 0,AG 4 (Ay Ab he)]) Aa (H':=[.blk b2 [Ai 0,AG 4 (Ay Ab he)] 31,.blk b1 (Aj op) 25]) Aa (wa Aa (As (Av (Ad (AB (Ad ?_))))));obtain rfl:=Aw hO;exact Au (Jh IW (AH Aa) (BD (i:=0) Cs Bw Aa Aa Aa) (AH Aa)) (sS (sS sN)) ⟨Aa,Aa⟩
      ·refine A0 (AO (Af (wm Aa (ob hJ λhh hP hQ=>BQ Tryz.call43 (Jk false hh hP) Aa (wv (r:=Bb [Ai 0,AG 4 (Ay Ab hh)]) (B9 Aa Aa) (wa Aa (A8 (i:=0) Bw Aa Aa Aa (AZ.c Aa) Aa Aa (cs':=[Ai 0,AG 4 (Ay Ab hh)]) Aa (H':=[.blk b2 [Ai 0,AG 4 (Ay Ab hh)] 31,.blk b1 (Aj op) 25]) Aa (wa Aa (As (Av (AB (Ad ?_))))))))))));obtain rfl:=Aw hQ;exact Au (Jh IW (AH Aa) (BD (i:=0) Cs Bw Aa Aa Aa) (AH Aa)) (sS (sS sN)) ⟨Aa,Aa⟩
     ·refine A0 (AV (AO (Af (wm Aa (wm Aa (wv (r:=Bb [Ai 0,AG 4 (Ay Ab state)]) (B9 Aa Aa) (wa Aa (A8 (i:=0) Bw Aa Aa Aa (AZ.c Aa) Aa Aa (cs':=[Ai 0,AG 4 (Ay Ab state)]) Aa (H':=[.blk b2 [Ai 0,AG 4 (Ay Ab state)] 31,.blk b1 (Aj op) 25]) Aa (wa Aa (As (Av ?_)))))))))));obtain rfl:=Aw hA;exact Au (Jh IW (AH Aa) (BD (i:=0) Cs Bw Aa Aa Aa) (AH Aa)) (sS (sS sN)) ⟨Aa,Aa⟩
 ·refine A0 (AO (Aq (Af (wm Aa (wv (CZ Aa Aa) (As (cz hl Aa (λhR hS=>?_) (λhR hT=>?_))))))))
  ·refine Af (wv (r:=Bb [Ai 0,rv (.slice none 0 0)]) (EX ) (wm Aa (wa Aa (A8 (i:=0) Bw Aa Aa Aa (AZ.c Aa) Aa Aa (cs':=[Ai 0,rv (.slice none 0 0)]) Aa (H':=[.blk b2 [Ai 0,rv (.slice none 0 0)] 31,.blk b1 (Aj op) 25]) Aa (wa Aa (As (Av (Ad (WK.up (d:=4) (r:=AG 4 (Ay Ab ([]:List Ac))) Aa (Up.le (E7.nil _)) (WK.upBlk (i:=0) (cs':=[Ai 0,AG 4 (Ay Ab ([]:List Ac))]) Aa ⟨Up.refl _,Up.le (E7.nil _),trivial⟩ ?_))))))))));obtain rfl:=Aw hS;exact Au (Jh IW (AH Aa) (BD (i:=0) Cs Bw Aa Aa Aa) (AH Aa)) (sS (sS sN)) ⟨Aa,Aa⟩
  ·refine A0 (AO (Aq (Af (vF BS Aa Dm (vL 1 Dx Aa (As (AU (Af (wv (C0 Aa Aa) (wa Aa (As (cz hT Aa (λhU hV=>?_) (λhU hW=>?_)))))))))))))
   ·refine Aq (ck hV λhX hY=>ob hY λhf hZ ga=>BV 7 [3,5,6] [⟨[],rP b1 3,none,none,none⟩,⟨[0],AG 1 (Ay Am op.fArgs),none,none,none⟩,⟨[1],Lb [AG 4 (Ay Ab (Ae op.fArgs 0))],none,none,none⟩,⟨[2],AG 4 (Ay Ab (Ae op.fArgs 0)),none,none,none⟩,⟨[],AG 4 (Ay Ab hf),none,none,none⟩,⟨[4],Bb [Ai 0,AG 4 (Ay Ab hf)],none,none,none⟩,⟨[3],AG 4 (Ay Ab (Ae op.fArgs 0)),none,none,none⟩] ?_ (λβ=>?_))
    ·refine Cf (AS BS Aa Dy Aa Aa) (HR (B3 (i:=1) DT Aa Aa Aa) (Cf (Bg (enc:=Am) (ys:=op.fArgs) CR CT Aa Aa hX) (Cf (Ba Dz Aa Aa) (Lg (DC Tryz.call34 (Nr hf hZ) Aa) (Cf (B9 Aa Aa) (Cf (AC Aa) ?_))))));exact K0
    refine Ct (H1:=[.blk b2 [Ai 0,rv (.slice none 0 0)] 31,.blk b1 (Aj op) 25]) [24,25,26,27,28,29,4,3,5,6] ?_;refine A8 (i:=0) Bw Aa Aa Aa (AZ.c Aa) Aa Aa (cs':=[Ai 0,AG 4 (Ay Ab hf)]) Aa (H':=[.blk b2 [Ai 0,AG 4 (Ay Ab hf)] 31,.blk b1 (Aj op) 25]) Aa (wa Aa (As (Av (AB (Ad ?_)))));obtain rfl:=Aw ga;exact Au (Jh IW (AH Aa) (BD (i:=0) Cs Bw Aa Aa Aa) (AH Aa)) (sS (sS sN)) ⟨Aa,Aa⟩
   ·refine Af (wv (C0 Aa Aa) (wa Aa (As (cz hW Aa (λgb gc=>?_) (λgb gd=>?_)))))
    ·refine Af (wm Aa (vF BS Aa Dy (vL 1 DT Aa (ck gc λge gf=>wv (Bg (enc:=Am) (ys:=op.fArgs) CR CT Aa Aa ge) (wv (Ba Dz Aa Aa) (ob gf λhb gg gh=>BQ Tryz.call42 (LV F state (Ae op.fArgs 0) hb gg) Aa (wm Aa (wv (AJ Aa Aa) (wv (AJ Aa Aa) (BA (cs:=[Ai 0,rv (.slice none 0 0)]) GX Aa Aa (λhk=>?_)))))))))));refine wa Aa (A8 (i:=0) Bw Aa Aa Aa (AZ.c Aa) Aa Aa (cs':=[Ai hb.2.fErr,AG 4 (Ay Ab hb.2.fValue)]) Aa (H':=[.blk hk (A1 hb.2) 31,.blk b2 [Ai 0,rv (.slice none 0 0)] 31,.blk b1 (Aj op) 25]) Aa (As (Aq (BV 3 [5,6,8,9] [⟨[],AG 4 (Ay Ab hb.1),none,none,none⟩,⟨[],Bb (A1 hb.2),none,none,none⟩,⟨[0],AG 4 (Ay Ab hb.1),none,none,none⟩] ?_ (λβ=>?_)))))
     ·refine Cf (A5 Aa) (HR (Bd (i:=0) Cs Bw Aa Aa Aa Aa) (Cf (AC Aa) ?_));exact K0
     refine Ct (H1:=[.blk hk (A1 hb.2) 31,.blk b2 [Ai 0,rv (.slice none 0 0)] 31,.blk b1 (Aj op) 25]) [41,42,4,5,6,8,9] ?_;refine A8 (i:=1) Bw Aa Aa Aa (AZ.c Aa) Aa Aa (cs':=[Ai hb.2.fErr,AG 4 (Ay Ab hb.2.fValue)]) Aa (H':=[.blk hk (A1 hb.2) 31,.blk b2 (A1 hb.2) 31,.blk b1 (Aj op) 25]) Aa (wa Aa (As (Av (AB (Ad ?_)))));obtain rfl:=Aw gh;exact Au (Jh IW (AH Aa) (BD (i:=1) Cs Bw Aa Aa Aa) (AH Aa)) (sS (sS (sS sN))) ⟨Aa,Aa⟩
    ·refine Af (wv (C0 Aa Aa) (wa Aa (As (cz gd Aa (λgi gj=>?_) (λgi gl=>?_)))))
     ·refine Aq (Af (wm Aa (vF BS Aa Dy (vL 1 DT Aa (ck gj λgm gp=>wv (Bg (enc:=Am) (ys:=op.fArgs) CR CT Aa Aa gm) (wv (Ba Dz Aa Aa) (ob gp λgq gr gs=>BQ Tryz.call13 (Ji F state (Ae op.fArgs 0) gq gr) Aa (As (cz gs Aa (λgt gu=>?_) (λgt gv=>?_))))))))))
      ·refine Aq (ck gu λgw gx=>ob gx λhg gy gz=>BV 7 [3,5,6] [⟨[],rP b1 3,none,none,none⟩,⟨[0],AG 1 (Ay Am op.fArgs),none,none,none⟩,⟨[1],Lb [AG 4 (Ay Ab (Ae op.fArgs 1))],none,none,none⟩,⟨[2],AG 4 (Ay Ab (Ae op.fArgs 1)),none,none,none⟩,⟨[],AG 4 (Ay Ab hg),none,none,none⟩,⟨[4],Bb [Ai 0,AG 4 (Ay Ab hg)],none,none,none⟩,⟨[3],AG 4 (Ay Ab (Ae op.fArgs 1)),none,none,none⟩] ?_ (λβ=>?_))
       ·refine Cf (AS BS Aa Dy Aa Aa) (HR (B3 (i:=1) DT Aa Aa Aa) (Cf (Bg (enc:=Am) (ys:=op.fArgs) CR CT Aa Aa gw) (Cf (Ba Dz Aa Aa) (Lg (DC Tryz.call43 (Jk true hg gy) Aa) (Cf (B9 Aa Aa) (Cf (AC Aa) ?_))))));exact K0
       refine Ct (H1:=[.blk b2 [Ai 0,rv (.slice none 0 0)] 31,.blk b1 (Aj op) 25]) [51,52,53,54,55,56,4,3,5,6] ?_;refine A8 (i:=0) Bw Aa Aa Aa (AZ.c Aa) Aa Aa (cs':=[Ai 0,AG 4 (Ay Ab hg)]) Aa (H':=[.blk b2 [Ai 0,AG 4 (Ay Ab hg)] 31,.blk b1 (Aj op) 25]) Aa (wa Aa (As (Av (Ad (AB (Ad ?_))))));obtain rfl:=Aw gz;exact Au (Jh IW (AH Aa) (BD (i:=0) Cs Bw Aa Aa Aa) (AH Aa)) (sS (sS sN)) ⟨Aa,Aa⟩
      ·refine A0 (AO (Af (wm Aa (ob gv λhi g0 g1=>BQ Tryz.call43 (Jk false hi g0) Aa (wv (r:=Bb [Ai 0,AG 4 (Ay Ab hi)]) (B9 Aa Aa) (wa Aa (A8 (i:=0) Bw Aa Aa Aa (AZ.c Aa) Aa Aa (cs':=[Ai 0,AG 4 (Ay Ab hi)]) Aa (H':=[.blk b2 [Ai 0,AG 4 (Ay Ab hi)] 31,.blk b1 (Aj op) 25]) Aa (wa Aa (As (Av (AB (Ad ?_))))))))))));obtain rfl:=Aw g1;exact Au (Jh IW (AH Aa) (BD (i:=0) Cs Bw Aa Aa Aa) (AH Aa)) (sS (sS sN)) ⟨Aa,Aa⟩
     ·refine A0 (AV (AO (Af (wm Aa (wm Aa (wv (r:=Bb [Ai 0,AG 4 (Ay Ab state)]) (B9 Aa Aa) (wa Aa (A8 (i:=0) Bw Aa Aa Aa (AZ.c Aa) Aa Aa (cs':=[Ai 0,AG 4 (Ay Ab state)]) Aa (H':=[.blk b2 [Ai 0,AG 4 (Ay Ab state)] 31,.blk b1 (Aj op) 25]) Aa (wa Aa (As (Av ?_)))))))))));obtain rfl:=Aw gl;exact Au (Jh IW (AH Aa) (BD (i:=0) Cs Bw Aa Aa Aa) (AH Aa)) (sS (sS sN)) ⟨Aa,Aa⟩
theorem JM (id:An)(n:Int)(r:A3)(h:JN id n=some r):Fn Tryz.prog GE 35 [rS id,Ai n] [] (λR H=>R=Bb (Aj r)∧H=[]):=by
 refine enter (n:=11) Tryz.func35 Aa Tryz.ntmps35 Aa (λw Z=>?_);unfold JN at h;refine Af (BA (cs:=[rS ([]:An),rS ([]:An),rS ([]:An),rv (.slice none 0 0)]) Tryz.zeroValue25 Aa Aa (λb1=>?_));refine B1 (wm Aa (wm Aa (wv (r:=Bb [Ai 3,Ai n,rS ([]:An),Ai 0]) (Df Aa Aa Aa Aa) (Bj (ys:=([(Ac.mk 3 n ([]:An) 0)]:List Ac)) (enc:=Ab) (css:=[[Ai 3,Ai n,rS ([]:An),Ai 0]]) (xs:=[.tmp 7]) BF BJ GW Aa Aa Aa ⟨IK.agg ⟨Up.refl _,Up.refl _,Up.refl _,Up.refl _,trivial⟩,trivial⟩ Aa B2 Aa Aa Aa (λb2=>?_)))));refine WL.freeze (i:=0) Aa (Bj (ys:=([([(Ac.mk 3 n ([]:An) 0)]:List Ac)]:List (List Ac))) (enc:=Am) (css:=[[AG 4 (Ay Ab ([(Ac.mk 3 n ([]:An) 0)]:List Ac))]]) (xs:=[.tmp 8]) CR CT Tryz.zeroValue22 Aa Aa Aa ⟨IK.one Aa (Up.fact (i:=0) Aa),trivial⟩ Aa Dl Aa Aa Aa (λb3=>?_));refine wv (r:=Bb [rS ([120]:An),rS id,rS ([97,100,100]:An),rv (.slice (some ⟨b3,0,none⟩) 1 1)]) (HT Aa Aa Aa Aa Aa Aa Aa Aa) (A8 (i:=2) Ei Aa Aa Aa ⟨(Cc Aa),(Cc Aa),(Cc Aa),(HO (i:=0) Aa),trivial⟩ Aa Aa (cs':=[rS ([120]:An),rS id,rS ([97,100,100]:An),rv (.slice (some ⟨b3,0,none⟩) 1 1)]) Aa (H':=[.row (.slice (some ⟨b3,0,none⟩) 1 1) 22 1 (Ay Am ([([(Ac.mk 3 n ([]:An) 0)]:List Ac)]:List (List Ac))),.fact (.slice (some ⟨b2,0,none⟩) 1 1) (AG 4 (Ay Ab ([(Ac.mk 3 n ([]:An) 0)]:List Ac))),.blk b1 [rS ([120]:An),rS id,rS ([97,100,100]:An),rv (.slice (some ⟨b3,0,none⟩) 1 1)] 25]) Aa (As (Av (WK.freeze (i:=0) Aa (WK.upBlk (i:=2) (cs':=[rS ([120]:An),rS id,rS ([97,100,100]:An),AG 1 (Ay Am ([([(Ac.mk 3 n ([]:An) 0)]:List Ac)]:List (List Ac)))]) Aa ⟨Up.refl _,Up.refl _,Up.refl _,Up.fact (i:=0) Aa,trivial⟩ ?_)))));obtain rfl:=Aw h;exact Au (BC Tryz.results35 (BD (i:=2) Hh Ei Aa Aa Aa)) (sS (sS (sS sN))) ⟨Aa,Aa⟩
theorem Mo (F:Nat)(a:(List An))(b:(List An))(r:Bool)(h:Lk F a b=some r):Fn Tryz.prog GE 23 [AG 1 (Ay eS a),AG 1 (Ay eS b)] [] (λR H=>R=rB r∧H=[]):=by
 refine enter (n:=26) Tryz.func23 Aa Tryz.ntmps23 Aa (λw Z=>?_);unfold Lk at h;refine Af (wa Aa (As (Aq (Af (wm Aa (wv (Bi (ys:=a) (enc:=eS) KO Aa) (wm Aa (wv (Bi (ys:=b) (enc:=eS) KO Aa) (wv (CZ Aa Aa) (As (cz h Aa (λc1 h2=>?_) (λc1 h3=>?_))))))))))))
 ·refine Af (wa Aa (As (Av (Ad ?_))));obtain rfl:=Aw h2;exact Au (BC Tryz.results23 (AH Aa)) sN ⟨Aa,Aa⟩
 ·refine A0 (AO (Aq (Af (wm Aa (wv (Bi (ys:=a) (enc:=eS) KO Aa) (wv (r:=Ai 0) (A5 Aa) (As (AU (ob h3 λhg hh hf=>B4 (S:=Nat×(Int)×(Unit)) (V:=(Unit)×(Unit)) 0 (λσ=>Ck (λσ=>GP a b σ) σ.1 σ.2.1=some hg) (λσ=>[(0,AG 1 (Ay eS a)),(1,AG 1 (Ay eS b)),(12,Ai (a.length:Int)),(13,Ai σ.2.1)]) (λσ=>[]) (λσ=>σ.1) (F,0,()) hh (AW.c Aa (AW.c Aa (AW.c Aa (AW.c Aa AW.nil)))) sN (λσ=>GO =some r) (λσ=>[]) (λσ=>[]) ?_ ?_)))))))))
  ·rintro⟨h1,ha,⟨⟩⟩ hi;refine Co (l':=[(0,AG 1 (Ay eS a)),(1,AG 1 (Ay eS b)),(12,Ai (a.length:Int)),(13,Ai ha)]) (H':=[]) Aa Aa ?_;obtain⟨hj,rfl,hk,hb,he⟩:=CC hi;replace hb:GP a b ha=some hk:=hb;unfold GP at hb;refine Af (wv (CO Aa Aa) (As (Aq (cz hb Aa (λhl hm=>?_) (λhl hn=>?_)))))
   ·refine A0 (AO (Aq (AU (Af (wm Aa (wa Aa (As (Aq (ck hm λho hp=>ck hp λhq hr=>DI [0,1,5,12,13] [⟨[],AG 1 (Ay eS a),0⟩,⟨[],Ai ha,0⟩,⟨[0,1],Lb [rS (Ae a ha)],0⟩,⟨[2],rS (Ae a ha),0⟩,⟨[],AG 1 (Ay eS b),0⟩,⟨[],Ai ha,0⟩,⟨[4,5],Lb [rS (Ae b ha)],0⟩,⟨[6],rS (Ae b ha),0⟩,⟨[3,7],rB (!decide ((Ae a ha)=(Ae b ha))),0⟩] [24,0,1,12,13] ?_ ?_)))))))))
    ·refine oq (A5 Aa) (oq (A5 Aa) (oq (Bg (enc:=eS) (ys:=a) KO Dm Aa Aa ho) (oq (Ba Dx Aa Aa) (oq (A5 Aa) (oq (A5 Aa) (oq (Bg (enc:=eS) (ys:=b) KO Dm Aa Aa hq) (oq (Ba Dx Aa Aa) (oq (Ra Aa Aa) ?_))))))));exact Du
    refine AO (cz hr Aa (λhs ht=>?_) (λhs hu=>?_))
    ·refine Af (wa Aa (As (Av (AB (Ad (Ad (Bt ?_)))))));have hw:=BN ht he hf;refine AB (Ad ?_);obtain rfl:=Aw hw;exact Au (BC Tryz.results23 (AH Aa)) sN ⟨Aa,Aa⟩
    ·refine A0 (AV (AO (Ar (ck hu λhx hy=>wv (B0 Aa Aa hx) (wm Aa (Ao ?_))))));have hz:=Br hy he;exact AF (AK (hj,ha+1,()) ⟨hz,ST _⟩ (AW.c Aa (AW.c Aa (AW.c Aa (AW.c Aa AW.nil)))) sN)
   ·refine B7 (A7 ?_);have h0:=BZ hn he hf;exact A7 (Bp (AK ((),()) h0 AW.nil sN))
  ·rintro⟨⟨⟩,⟨⟩⟩ hd;refine CB (l':=[]) (H':=[]) Aa Aa ?_;replace hd:GO =some r:=hd;unfold GO at hd;refine Bn (AO (Af (wa Aa (As (Av ?_)))));obtain rfl:=Aw hd;exact Au (BC Tryz.results23 (AH Aa)) sN ⟨Aa,Aa⟩
theorem Mp (F:Nat)(v:(List Ac))(r:Bool)(h:Eo F v=some r):Fn Tryz.prog GE 8 [AG 4 (Ay Ab v)] [] (λR H=>R=rB r∧H=[]):=by
 refine enter (n:=20) Tryz.func8 Aa Tryz.ntmps8 Aa (λw Z=>?_);unfold Eo at h;refine Af (wa Aa (As (Aq (Af (wm Aa (wv (Bi (ys:=v) (enc:=Ab) BF Aa) (wv (De Aa Aa) (As (cz h Aa (λc1 h2=>?_) (λc1 h3=>?_))))))))))
 ·refine Af (wa Aa (As (Av (Ad ?_))));obtain rfl:=Aw h2;exact Au (BC Tryz.results8 (AH Aa)) sN ⟨Aa,Aa⟩
 ·refine A0 (AO (Aq (Af (wm Aa (wv (Bi (ys:=v) (enc:=Ab) BF Aa) (wv (r:=Ai 0) (A5 Aa) (As (AU (ob h3 λhg hh hf=>B4 (S:=Nat×(Int)×(Unit)) (V:=(Unit)×(Unit)) 0 (λσ=>Ck (λσ=>Eh v σ) σ.1 σ.2.1=some hg) (λσ=>[(0,AG 4 (Ay Ab v)),(8,Ai (v.length:Int)),(9,Ai σ.2.1)]) (λσ=>[]) (λσ=>σ.1) (F,0,()) hh (AW.c Aa (AW.c Aa (AW.c Aa AW.nil))) sN (λσ=>GR =some r) (λσ=>[]) (λσ=>[]) ?_ ?_)))))))))
  ·rintro⟨hy,hd,⟨⟩⟩ hi;refine Co (l':=[(0,AG 4 (Ay Ab v)),(8,Ai (v.length:Int)),(9,Ai hd)]) (H':=[]) Aa Aa ?_;obtain⟨hj,rfl,t37,ha,he⟩:=CC hi;replace ha:Eh v hd=some t37:=ha;unfold Eh at ha;refine Af (wv (CO Aa Aa) (As (Aq (cz ha Aa (λhk hl=>?_) (λhk hm=>?_)))))
   ·refine A0 (AO (Aq (AU (Af (wm Aa (wa Aa (B1 (wm Aa (wm Aa (ck hl λhn ho=>wv (Bg (enc:=Ab) (ys:=v) BF BJ Aa Aa hn) (wv (Be Bh Aa Dm Aa Aa) (wv (Ba Dx Aa Aa) (wv (Cb DM Aa) (wv (De Aa Aa) (As (cz ho Aa (λhp hq=>?_) (λhp hr=>?_)))))))))))))))))
    ·refine Af (wa Aa (As (Av (AB (Ad (Ad (Bt ?_)))))));have hs:=BN hq he hf;refine AB (Ad ?_);obtain rfl:=Aw hs;exact Au (BC Tryz.results8 (AH Aa)) sN ⟨Aa,Aa⟩
    ·refine A0 (AV (AO (Ar (ck hr λht hu=>wv (B0 Aa Aa ht) (wm Aa (Ao ?_))))));have hw:=Br hu he;exact AF (AK (hj,hd+1,()) ⟨hw,ST _⟩ (AW.c Aa (AW.c Aa (AW.c Aa AW.nil))) sN)
   ·refine B7 (A7 ?_);have hx:=BZ hm he hf;exact A7 (Bp (AK ((),()) hx AW.nil sN))
  ·rintro⟨⟨⟩,⟨⟩⟩ hb;refine CB (l':=[]) (H':=[]) Aa Aa ?_;replace hb:GR =some r:=hb;unfold GR at hb;refine Bn (AO (Af (wa Aa (As (Av ?_)))));obtain rfl:=Aw hb;exact Au (BC Tryz.results8 (AH Aa)) sN ⟨Aa,Aa⟩
theorem PD (F:Nat)(op:A3)(r:Bool)(h:G1 F op=some r):Fn Tryz.prog GE 9 [Bb (Aj op)] [] (λR H=>R=rB r∧H=[]):=by
 refine enter (n:=40) Tryz.func9 Aa Tryz.ntmps9 Aa (λw Z=>?_);unfold G1 at h;refine Af (B6 Aa Aa (λb1=>?_));refine wa Aa (As (Aq (AL [(1,rP b1 0),(25,rB ((decide (100<(op.fEntity.length:Int)))||((decide (100<(op.fID.length:Int)))||((decide (100<(op.fOp.length:Int)))||(decide (4<(op.fArgs.length:Int)))))))] [.blk b1 (Aj op) 25] ?_ ?_)))
 ·refine Ar (vF BS Aa Dm (vL 0 Dx Aa (wv (Cb DM Aa) (wv (De Aa Aa) (wm Aa (AQ (decide (100<(op.fEntity.length:Int))) (λc2=>?_) (λc2=>?_)))))))
  ·refine wf c2 (wf c2 (wf c2 (wf c2 (wv (r:=rB true) (At Aa c2 Aa) (wm Aa (wz Aa Aa (wz Aa Aa (wz Aa Aa (wz Aa Aa (wv (r:=rB true) (At (b:=true) Aa Aa Aa) (wm Aa (wz Aa Aa (wz Aa Aa (wz Aa Aa (wz Aa Aa (wv (r:=rB true) (At (b:=true) Aa Aa Aa) (Ao ?_)))))))))))))))));exact BP c2
  ·refine wo c2 (vF BS Aa Dm (wo c2 (vL 0 Dx Aa (wo c2 (wv (Cb DM Aa) (wo c2 (wv (De Aa Aa) (Er Aa c2 Aa (wm Aa (AQ (decide (100<(op.fID.length:Int))) (λc3=>?_) (λc3=>?_)))))))))))
   ·refine wf c3 (wf c3 (wf c3 (wf c3 (wv (r:=rB true) (At Aa c3 Aa) (wm Aa (wz Aa Aa (wz Aa Aa (wz Aa Aa (wz Aa Aa (wv (r:=rB true) (At (b:=true) Aa Aa Aa) (Ao ?_)))))))))));exact BP (And.intro c2 c3)
   ·refine wo c3 (vF BS Aa Dm (wo c3 (vL 0 Dx Aa (wo c3 (wv (Cb DM Aa) (wo c3 (wv (De Aa Aa) (Er Aa c3 Aa (wm Aa (AQ (decide (100<(op.fOp.length:Int))) (λc4=>?_) (λc4=>?_)))))))))))
    ·refine wf c4 (wf c4 (wf c4 (wf c4 (wv (r:=rB true) (At Aa c4 Aa) (Ao ?_)))));exact BP (And.intro c2 (And.intro c3 c4))
    ·refine wo c4 (vF BS Aa Dy (wo c4 (vL 0 DT Aa (wo c4 (wv (Bi (ys:=op.fArgs) (enc:=Am) CR Aa) (wo c4 (wv (De Aa Aa) (Er Aa c4 Aa (Ao ?_)))))))));exact BP (And.intro c2 (And.intro c3 c4))
 refine cz h Aa (λc5 h6=>?_) (λc5 h7=>?_)
 ·refine Af (wa Aa (As (Av (Ad ?_))));obtain rfl:=Aw h6;exact Au (BC Tryz.results9 (AH Aa)) (sS sN) ⟨Aa,Aa⟩
 ·refine A0 (AO (Aq (Af (vF BS Aa Dy (vL 0 DT Aa (wv (Bi (ys:=op.fArgs) (enc:=Am) CR Aa) (wv (r:=Ai 0) (A5 Aa) (As (AU (ob h7 λhg hh hf=>B4 (S:=Nat×(Int)×(Unit)) (V:=(Unit)×(Unit)) 0 (λσ=>Ck (λσ=>Eg F op σ) σ.1 σ.2.1=some hg) (λσ=>[(1,rP b1 0),(28,Ai (op.fArgs.length:Int)),(29,Ai σ.2.1)]) (λσ=>[.blk b1 (Aj op) 25]) (λσ=>σ.1) (F,0,()) hh (AW.c Aa (AW.c Aa (AW.c Aa AW.nil))) (sC sN) (λσ=>GQ =some r) (λσ=>[]) (λσ=>[]) ?_ ?_))))))))))
  ·rintro⟨h2,ha,⟨⟩⟩ hi;refine Co (l':=[(1,rP b1 0),(28,Ai (op.fArgs.length:Int)),(29,Ai ha)]) (H':=[.blk b1 (Aj op) 25]) Aa Aa ?_;obtain⟨hj,rfl,hk,hb,he⟩:=CC hi;replace hb:Eg F op ha=some hk:=hb;unfold Eg at hb;refine Af (wv (CO Aa Aa) (As (Aq (cz hb Aa (λhl hm=>?_) (λhl hn=>?_)))))
   ·refine A0 (AO (Aq (AU (Af (wm Aa (wa Aa (B1 (vF BS Aa Dy (vL 0 DT Aa (wm Aa (ck hm λho hp=>wv (Bg (enc:=Am) (ys:=op.fArgs) CR CT Aa Aa ho) (wv (Ba Dz Aa Aa) (ob hp λhq hr hs=>BQ Tryz.call8 (Mp F (Ae op.fArgs ha) hq hr) Aa (wv (Cg Aa) (As (cz hs Aa (λht hu=>?_) (λht hw=>?_)))))))))))))))))
    ·refine Af (wa Aa (As (Av (AB (Ad (Ad (Bt ?_)))))));have hx:=BN hu he hf;refine AB (Ad ?_);obtain rfl:=Aw hx;exact Au (BC Tryz.results9 (AH Aa)) (sS sN) ⟨Aa,Aa⟩
    ·refine A0 (AV (AO (Ar (ck hw λhy hz=>wv (B0 Aa Aa hy) (wm Aa (Ao ?_))))));have h0:=Br hz he;exact AF (AK (hj,ha+1,()) ⟨h0,ST _⟩ (AW.c Aa (AW.c Aa (AW.c Aa AW.nil))) (sC sN))
   ·refine B7 (A7 ?_);have h1:=BZ hn he hf;exact A7 (Bp (AK ((),()) h1 AW.nil (sS sN)))
  ·rintro⟨⟨⟩,⟨⟩⟩ hd;refine CB (l':=[]) (H':=[]) Aa Aa ?_;replace hd:GQ =some r:=hd;unfold GQ at hd;refine Bn (AO (Af (wa Aa (As (Av ?_)))));obtain rfl:=Aw hd;exact Au (BC Tryz.results9 (AH Aa)) sN ⟨Aa,Aa⟩
theorem MX (F:Nat)(a:A6)(b:A6)(r:Bool)(h:Dh F a b=some r):Fn Tryz.prog GE 14 [Bb (A1 a),Bb (A1 b)] [] (λR H=>R=rB r∧H=[]):=by
 refine enter (n:=17) Tryz.func14 Aa Tryz.ntmps14 Aa (λw Z=>?_);unfold Dh at h;refine Af (B6 Aa Aa (λb1=>?_));refine B6 Aa Aa (λb2=>?_);refine wa Aa (As (ck h λg3 h4=>AL [(4,rB ((decide (a.fErr=b.fErr))&&(ov (DB F a.fValue b.fValue))))] [] ?_ ?_))
 ·refine Ar (vF L7 Aa Tryz.sizeOf29 (vL 1 Tryz.isAgg29 Aa (vF L7 Aa Tryz.sizeOf29 (vL 0 Tryz.isAgg29 Aa (wv (Bv Aa Aa) (wm Aa (AQ (decide (a.fErr=b.fErr)) (λc5=>?_) (λc5=>?_))))))))
  ·refine wo c5 (vF L7 Aa CT (wo c5 (vL 1 Dz Aa (wo c5 (vF L7 Aa CT (wo c5 (vL 0 Dz Aa (wo c5 (BQ Tryz.call13 (Ji F a.fValue b.fValue (ov (DB F a.fValue b.fValue)) (DJ (Cl g3 c5))) Aa (D4 Aa c5 Aa (wa Aa (Ao ?_))))))))))));exact BP c5
  ·refine wf c5 (wf c5 (wf c5 (wf c5 (wf c5 (wv (r:=rB false) (A4 Aa c5 Aa) (wa Aa (Ao ?_)))))));exact BP c5
 refine Av ?_;obtain rfl:=Aw h4;exact Au (BC Tryz.results14 (AH Aa)) sN ⟨Aa,Aa⟩
end Go.Proofs.YtfbmdidnlhifjaaGreatDoor.Q
namespace Go.Proofs.YtfbmdidnlhifjaaGreatDoor
open Go
def MY {T:Type}(xs:List (An×T)):Bool:=decide (xs.length*16≤140737488355328)&&xs.all λp=>Q3 p.1
def K5 {T:Type}(xs:List (An×T)):List An:=(xs.map (·.1)).mergeSort λx y=>decide (x≤y)
end Go.Proofs.YtfbmdidnlhifjaaGreatDoor
namespace Go.Proofs.YtfbmdidnlhifjaaGreatDoor.Q
open Go Go.RowKit Go.ChangeMaps
set_option linter.unusedVariables false
set_option linter.unusedSimpArgs false
def RU:Value→Option (DataW Unit×List MemPlace):=λ_=>some (.nil,[])
theorem Rt {P:Program}{k:TypeId}(hkt:P.underlying k=some .string){e:MapEntry}{s:An}(he:e.key = .string (B s))(hs:s.length≤maxLen):WideElems.rd P k RU e=some (.string s,.nil):=by
 obtain⟨key,val,born⟩:=e;simp only at he;subst he;exact WideElems.rd_mk (yv:=(.nil,[])) (by simp[keyOf,hkt,mapKey,B];exact hs) rfl
theorem H0.rgs {P:Program}{k:TypeId}(hkt:P.underlying k=some .string){Z:Fz}:∀{f:List (An×Rp)} {es:List MapEntry},H0 Z f es→(∀p∈f,p.1.length≤maxLen)→es.map (WideElems.rg P k RU)=f.map (λp=>(Lit.string p.1,(.nil:DataW Unit)))∧(∀x∈es,∃y,WideElems.rd P k RU x=some y)∧es.map (·.key)=f.map λp=>Value.string (B p.1)
 | [],[],_,_=>⟨rfl,(λ_ h=>by cases h),rfl⟩
 | p::f,e::es,⟨⟨h1,_⟩,h2⟩,hk=>by
  obtain⟨a1,a2,a3⟩:=H0.rgs hkt h2 λq hq=>hk q (List.mem_cons_of_mem _ hq);have hr:=Rt hkt h1 (hk p (List.mem_cons_self ..));refine⟨?_,λx hx=>?_,?_⟩
  ·rw[Tu,Tu,a1,WideElems.rg_of hr]
  ·rcases List.mem_cons.1 hx with rfl | hx
   ·exact⟨_,hr⟩
   ·exact a2 x hx
  ·rw[Tu,Tu,a3,h1]
theorem Q1 {P:Program}{k:TypeId}(hkt:P.underlying k=some .string){w:World}{Z:Fz}{b:Nat}{m:List (An×Rp)}{es:Array MapEntry}{ck:Nat}(hb:w.heap[b]? =some (.map es ck))(hm:DH Z m es.toList ck)(hk:∀p∈m,p.1.length≤maxLen)(hsz:m.length≤maxLen) :
  ∃D0:DataW Unit,w.ownsMap P k RU b es.size D0∧(strKeys D0).Perm (m.map (·.1))∧Maps.size D0=m.length:=by
 obtain⟨h1,h2,h3,f,h4,h5⟩:=hm;obtain⟨a1,a2,a3⟩:=H0.rgs hkt h5 λp hp=>hk p (h4.subset hp);have hlen:es.size=m.length:=by
  have e:=congrArg List.length a3;simp only[SV,Array.length_toList] at e;rw[e];exact h4.length_eq
 have hkey:es.toList.Pairwise (λx y=>x.key≠y.key):=by
  have e:(es.toList.map (·.key)).Nodup:=by
   rw[a3];have hf:(f.map (·.1)).Nodup:=(h4.map _).nodup_iff.2 h1;have:f.map (λp=>Value.string (B p.1))=(f.map (·.1)).map λs=>Value.string (B s):=by rw[T0];rfl
   rw[this];refine List.Pairwise.map _ (λx y hxy e=>hxy ?_) hf;simp[B] at e;exact e
  exact List.pairwise_map.1 e
 refine⟨.map ((es.toList.map (WideElems.rg P k RU)).foldr DataW.insert []),⟨es,ck,hb,⟨by rw[hlen];exact hsz,(MapKept.stamped_iff es ck).2 ⟨h3,h2,hkey⟩,a2⟩,Tb _,rfl⟩,?_,?_⟩
 ·show(((es.toList.map (WideElems.rg P k RU)).foldr DataW.insert []).map λp=>strOf p.1).Perm _;rw[a1];refine((WideShapes.sorted_perm _).map _).trans ?_;rw[T0];exact h4.map _
 ·show((es.toList.map (WideElems.rg P k RU)).foldr DataW.insert []).length=_;rw[length_sorted,SV,Array.length_toList,hlen]
theorem ML {w:World}{a b:Nat}{e:TypeId}{sz n:Nat}{v:Value}{us:List Value}(h:w.ownsRow a e sz v n us)(hb:b≤a):w.ownsRow b e sz v n us:=by
 refine⟨h.1,?_⟩;rcases h.2 with hn | ⟨g,cap,cur,rfl,hg,rest⟩
 ·exact .inl hn
 ·exact .inr ⟨g,cap,cur,rfl,Nat.le_trans hb hg,rest⟩
theorem LZ {w:World}{a:Nat}{e:TypeId}{sz n:Nat}{v:Value}{us:List Value}(h:w.ownsRow a e sz v n us):∀k∈v.ownBlock.toList,a≤k:=by
 rcases h.2 with⟨rfl,_⟩ | ⟨g,cap,cur,rfl,hg,rest⟩
 ·intro k hk;simp[Value.ownBlock] at hk
 ·intro k hk;simp[Value.ownBlock] at hk;omega
theorem St.newrow {c:Cx}{H:List Ent}{Z:Fz}{w w':World}(h:St c H Z w)(hb:Below w.heap.size w w'){v:Value}{e:TypeId}{ys:List An}(hr:w'.ownsRow w.heap.size e 1 v ys.length (ys.map Go.Proofs.encStr)):St c (.row v e 1 (ys.map eS)::H) Z w':=by
 refine h.add hb.os hb.tape hb.output hb.size (λk hk=>hb.block k hk) ⟨λc hc=>?_,ys.map Go.Proofs.encStr,?_,?_⟩ (λk hk=>LZ hr k hk)
 ·obtain⟨y,_,rfl⟩:=List.mem_map.1 hc;rfl
 ·rw[SV];exact ML hr (Tn _)
 ·clear hr
  induction ys with
  | nil=>exact trivial
  | cons y r ih=>exact⟨by show Go.Proofs.encStr y=Value.string (B y);rfl,ih⟩
end Go.Proofs.YtfbmdidnlhifjaaGreatDoor.Q
namespace Go.Proofs.YtfbmdidnlhifjaaGreatDoor
open Go
set_option linter.unusedVariables false
structure AI where
 fNow:Int
 fEntities:(List (An×Int))
 fCalls:(List (An×Int))
 deriving DecidableEq,Inhabited
structure Ap where
 fState:(List Ac)
 fCalls:(List Int)
 fDone:Int
 deriving DecidableEq,Inhabited
def Rw :Option ((AI×(List Ap)×(List AA))):=
 some ((AI.mk 0 ([]:List (An×Int)) ([]:List (An×Int))),([]:List Ap),([]:List AA))
def Rc (d:AI):Option (Bool):=
 some true
def HV (F:Nat)(d:AI)(d_p1:(List Ap))(d_p2:(List AA))(op:A3)(now:Int):Option (Int×AI×(List Ap)×(List AA)):=
 B5 (I8 F op) λr2=>Bq (!decide (r2=0)) (some (r2,d,d_p1,d_p2)) (Bq (((decide (now<0))||(decide (1073741824<now)))) (some (2,d,d_p1,d_p2)) (Bq (decide (now<d.fNow)) (some (11,d,d_p1,d_p2)) (Bq (BG d.fCalls op.fID) (Bm (decide (0≤(A2 d.fCalls op.fID (-1))))<|Bm (Cd (A2 d.fCalls op.fID (-1)) (d_p2.length:Int))<|B5 (P0 F ((Ae d_p2 (A2 d.fCalls op.fID (-1))).fOp) op) λhb=>Bq (!hb) (some (19,d,d_p1,d_p2)) (some (0,(AI.mk now d.fEntities d.fCalls),d_p1,d_p2))) (Bq (((decide ((d.fCalls.length:Int)=256))||((!(BG d.fEntities op.fEntity))&&(decide ((d.fEntities.length:Int)=256))))) (some (3,d,d_p1,d_p2)) (Bq (!(BG d.fEntities op.fEntity)) (B5 (LI) λha=>B5 (JD F op) λhd=>Bm (Cd (d_p1.length:Int) ((d_p1++[(Ap.mk ha ([]:List Int) 0)]).length:Int))<|Bm (OJ 8 (((Ae (d_p1++[(Ap.mk ha ([]:List Int) 0)]) (d_p1.length:Int)).fCalls).length+([(d_p2.length:Int)]:List Int).length))<|some (0,(AI.mk now (AY d.fEntities op.fEntity (d_p1.length:Int)) (AY d.fCalls op.fID (d_p2.length:Int))),List.set (d_p1++[(Ap.mk ha ([]:List Int) 0)]) (Int.toNat (d_p1.length:Int)) (Ap.mk ((Ae (d_p1++[(Ap.mk ha ([]:List Int) 0)]) (d_p1.length:Int)).fState) (((Ae (d_p1++[(Ap.mk ha ([]:List Int) 0)]) (d_p1.length:Int)).fCalls)++([(d_p2.length:Int)]:List Int)) ((Ae (d_p1++[(Ap.mk ha ([]:List Int) 0)]) (d_p1.length:Int)).fDone)),d_p2++[(AA.mk hd (A6.mk 0 ([]:List Ac)) now (-1))])) (B5 (JD F op) λhe=>Bm (Cd (A2 d.fEntities op.fEntity (-1)) (d_p1.length:Int))<|Bm (OJ 8 (((Ae d_p1 (A2 d.fEntities op.fEntity (-1))).fCalls).length+([(d_p2.length:Int)]:List Int).length))<|some (0,(AI.mk now d.fEntities (AY d.fCalls op.fID (d_p2.length:Int))),List.set d_p1 (Int.toNat (A2 d.fEntities op.fEntity (-1))) (Ap.mk ((Ae d_p1 (A2 d.fEntities op.fEntity (-1))).fState) (((Ae d_p1 (A2 d.fEntities op.fEntity (-1))).fCalls)++([(d_p2.length:Int)]:List Int)) ((Ae d_p1 (A2 d.fEntities op.fEntity (-1))).fDone)),d_p2++[(AA.mk he (A6.mk 0 ([]:List Ac)) now (-1))])))))))
def Gx (F:Nat)(d:AI)(d_p1:(List Ap))(d_p2:(List AA))(e:An)(now:Int)(x5:Bool):Option (AA×Bool×AI×(List Ap)×(List AA)):=
 Bq (x5) (some ((AA.mk (A3.mk ([]:An) ([]:An) ([]:An) ([]:List (List Ac))) (A6.mk 0 ([]:List Ac)) 0 0),false,d,d_p1,d_p2)) (Bq (BG d.fEntities e) (Bm (Cd (A2 d.fEntities e (-1)) (d_p1.length:Int))<|Bq (decide (((Ae d_p1 (A2 d.fEntities e (-1))).fDone)=(((Ae d_p1 (A2 d.fEntities e (-1))).fCalls).length:Int))) (some ((AA.mk (A3.mk ([]:An) ([]:An) ([]:An) ([]:List (List Ac))) (A6.mk 0 ([]:List Ac)) 0 0),false,d,d_p1,d_p2)) (Bm (Cd ((Ae d_p1 (A2 d.fEntities e (-1))).fDone) (((Ae d_p1 (A2 d.fEntities e (-1))).fCalls).length:Int))<|Bm (decide (0≤(Ae ((Ae d_p1 (A2 d.fEntities e (-1))).fCalls) ((Ae d_p1 (A2 d.fEntities e (-1))).fDone))))<|Bm (Cd (Ae ((Ae d_p1 (A2 d.fEntities e (-1))).fCalls) ((Ae d_p1 (A2 d.fEntities e (-1))).fDone)) (d_p2.length:Int))<|B5 (RG F ((Ae d_p1 (A2 d.fEntities e (-1))).fState) ((Ae d_p2 (Ae ((Ae d_p1 (A2 d.fEntities e (-1))).fCalls) ((Ae d_p1 (A2 d.fEntities e (-1))).fDone))).fOp)) λhd=>Bq (!decide (hd.2.2=0)) (some ((AA.mk (A3.mk ([]:An) ([]:An) ([]:An) ([]:List (List Ac))) (A6.mk 0 ([]:List Ac)) 0 0),false,d,d_p1,d_p2)) (Bm (BO .i64 (((Ae d_p1 (A2 d.fEntities e (-1))).fDone)+1))<|OC (List.set d_p2 (Int.toNat (Ae ((Ae d_p1 (A2 d.fEntities e (-1))).fCalls) ((Ae d_p1 (A2 d.fEntities e (-1))).fDone))) (AA.mk ((Ae d_p2 (Ae ((Ae d_p1 (A2 d.fEntities e (-1))).fCalls) ((Ae d_p1 (A2 d.fEntities e (-1))).fDone))).fOp) hd.2.1 ((Ae d_p2 (Ae ((Ae d_p1 (A2 d.fEntities e (-1))).fCalls) ((Ae d_p1 (A2 d.fEntities e (-1))).fDone))).fFrom) ((Ae d_p2 (Ae ((Ae d_p1 (A2 d.fEntities e (-1))).fCalls) ((Ae d_p1 (A2 d.fEntities e (-1))).fDone))).fTo))) λhb=>Bm (Cd (Ae ((Ae d_p1 (A2 d.fEntities e (-1))).fCalls) ((Ae d_p1 (A2 d.fEntities e (-1))).fDone)) (hb.length:Int))<|OC (List.set hb (Int.toNat (Ae ((Ae d_p1 (A2 d.fEntities e (-1))).fCalls) ((Ae d_p1 (A2 d.fEntities e (-1))).fDone))) (AA.mk ((Ae hb (Ae ((Ae d_p1 (A2 d.fEntities e (-1))).fCalls) ((Ae d_p1 (A2 d.fEntities e (-1))).fDone))).fOp) ((Ae hb (Ae ((Ae d_p1 (A2 d.fEntities e (-1))).fCalls) ((Ae d_p1 (A2 d.fEntities e (-1))).fDone))).fAnswer) ((Ae hb (Ae ((Ae d_p1 (A2 d.fEntities e (-1))).fCalls) ((Ae d_p1 (A2 d.fEntities e (-1))).fDone))).fFrom) now)) λha=>Bm (Cd (Ae ((Ae d_p1 (A2 d.fEntities e (-1))).fCalls) ((Ae d_p1 (A2 d.fEntities e (-1))).fDone)) (ha.length:Int))<|B5 (Jn F (AA.mk ((Ae ha (Ae ((Ae d_p1 (A2 d.fEntities e (-1))).fCalls) ((Ae d_p1 (A2 d.fEntities e (-1))).fDone))).fOp) ((Ae ha (Ae ((Ae d_p1 (A2 d.fEntities e (-1))).fCalls) ((Ae d_p1 (A2 d.fEntities e (-1))).fDone))).fAnswer) ((Ae ha (Ae ((Ae d_p1 (A2 d.fEntities e (-1))).fCalls) ((Ae d_p1 (A2 d.fEntities e (-1))).fDone))).fFrom) ((Ae ha (Ae ((Ae d_p1 (A2 d.fEntities e (-1))).fCalls) ((Ae d_p1 (A2 d.fEntities e (-1))).fDone))).fTo))) λhe=>some (he,true,(AI.mk now d.fEntities d.fCalls),List.set d_p1 (Int.toNat (A2 d.fEntities e (-1))) (Ap.mk hd.1 ((Ae d_p1 (A2 d.fEntities e (-1))).fCalls) (((Ae d_p1 (A2 d.fEntities e (-1))).fDone)+1)),ha)))) (some ((AA.mk (A3.mk ([]:An) ([]:An) ([]:An) ([]:List (List Ac))) (A6.mk 0 ([]:List Ac)) 0 0),false,d,d_p1,d_p2)))
def N2 (F:Nat)(d:AI)(d_p1:(List Ap))(d_p2:(List AA))(e:An)(now:Int):Option (AA×Bool×AI×(List Ap)×(List AA)):=
 Bq (decide (now<d.fNow)) (Gx F d d_p1 d_p2 e now true) (Gx F d d_p1 d_p2 e now (decide (1073741824<now)))
def MR (d:AI)(d_p1:(List Ap))(d_p2:(List AA))(e:An):Option ((List Ac)):=
 Bq (BG d.fEntities e) (Bm (Cd (A2 d.fEntities e (-1)) (d_p1.length:Int))<|B5 (Cy ((Ae d_p1 (A2 d.fEntities e (-1))).fState)) λr7=>some r7) (B5 (LI) λha=>some ha)
def GM (F:Nat)(d:AI)(d_p1:(List Ap))(d_p2:(List AA))(e:An)(hb:(List AA))(ha:Int):Option (Stp ((List AA)×Int) (Out ((List AA)) ((List AA)))):=
 Bq (decide (ha<(((Ae d_p1 (A2 d.fEntities e (-1))).fCalls).length:Int))) (Bm (Cd ha (((Ae d_p1 (A2 d.fEntities e (-1))).fCalls).length:Int))<|Bm (decide (0≤(Ae ((Ae d_p1 (A2 d.fEntities e (-1))).fCalls) ha)))<|Bm (Cd (Ae ((Ae d_p1 (A2 d.fEntities e (-1))).fCalls) ha) (d_p2.length:Int))<|B5 (Jn F (AA.mk ((Ae d_p2 (Ae ((Ae d_p1 (A2 d.fEntities e (-1))).fCalls) ha)).fOp) ((Ae d_p2 (Ae ((Ae d_p1 (A2 d.fEntities e (-1))).fCalls) ha)).fAnswer) ((Ae d_p2 (Ae ((Ae d_p1 (A2 d.fEntities e (-1))).fCalls) ha)).fFrom) ((Ae d_p2 (Ae ((Ae d_p1 (A2 d.fEntities e (-1))).fCalls) ha)).fTo))) λhd=>Bm (OJ 120 (hb.length+([hd]:List AA).length))<|Bm (BO .i64 (ha+1))<|some (.next (hb++([hd]:List AA),ha+1))) (some (.out (.go hb)))
def GL (ha:(List AA)):Option ((List AA)):=
 some ha
def MU (F:Nat)(d:AI)(d_p1:(List Ap))(d_p2:(List AA))(e:An):Option ((List AA)):=
 Bq (!(BG d.fEntities e)) (some ([]:List AA)) (Bm (Cd (A2 d.fEntities e (-1)) (d_p1.length:Int))<|B5 (Ck (λσ=>GM F d d_p1 d_p2 e σ.1 σ.2) F (([]:List AA),0)) (BU λν=>GL ν))
def DE (ha:Int)(hb:(List An)):Option (Stp ((List An)×Int) (Out ((List An)) ((List An)))):=
 Bm (BO .i64 (ha+1))<|some (.next (hb,ha+1))
def Ez (r1:(List AA))(hb:(List An))(ha:Int):Option (Stp ((List An)×Int) (Out ((List An)) ((List An)))):=
 Bq (decide (ha<(r1.length:Int))) (Bm (Cd ha (r1.length:Int))<|Bq (decide (((Ae r1 ha).fTo)=(-1))) (Bm (OJ 16 (hb.length+([((Ae r1 ha).fOp).fID]:List An).length))<|DE ha (hb++([((Ae r1 ha).fOp).fID]:List An))) (DE ha hb)) (some (.out (.go hb)))
def Ey (ha:(List An)):Option ((List An)):=
 some ha
def JA (F:Nat)(d:AI)(d_p1:(List Ap))(d_p2:(List AA))(e:An):Option ((List An)):=
 B5 (MU F d d_p1 d_p2 e) λr1=>B5 (Ck (λσ=>Ez r1 σ.1 σ.2) F (([]:List An),0)) (BU λν=>Ey ν)
def MT (d:AI)(d_p1:(List Ap))(d_p2:(List AA)):Option ((List An)):=
 Bm (MY d.fEntities)<|some (K5 d.fEntities)
end Go.Proofs.YtfbmdidnlhifjaaGreatDoor
namespace Go.Proofs.YtfbmdidnlhifjaaGreatDoor.Q
open Go Go.RowKit
set_option linter.unusedVariables false
set_option linter.unusedSimpArgs false
set_option linter.unusedSectionVars false
section
variable {P : Program} {n : Nat} {c : Cx} {ops : Array Oper} {Q : Exit → Act → World → Prop} {rest : List Oper} {l : Fr} {H H' Hr : List Ent} {d k b rz : Nat} {ty t e re : TypeId} {pos : String} {af : Array Edge} {pv r : Value} {cs : List Rp} {ys : List (List Rp)} {K : Act → World → Prop} {cx : Code}
theorem Mu {ps:List (Nat×Value)}{i:Nat}{p:Nat×Value}(h:ps[i]? =some p):(KC ps).Perm ((p.1::p.2.ownBlock.toList)++KC (ps.eraseIdx i)):=by
 have:ps.Perm (p::ps.eraseIdx i):=by
  induction ps generalizing i with
  | nil=>cases h
  | cons x r ih=>
   cases i with
   | zero=>simp at h;subst h;exact SN _
   | succ i=>
    simp at h;exact((ih h).cons x).trans (List.Perm.swap p x _)
 exact this.flatMap_right _
theorem QH {ps:List (Nat×Value)}{i:Nat}{p q:Nat×Value}(h:ps[i]? =some p):(KC (ps.set i q)).Perm ((q.1::q.2.ownBlock.toList)++KC (ps.eraseIdx i)):=by
 have hi:=(List.getElem?_eq_some_iff.1 h).1;have h1:=Mu (ps:=ps.set i q) (i:=i) (p:=q) (by simp[hi]);have h2:(ps.set i q).eraseIdx i=ps.eraseIdx i:=by
  refine List.ext_getElem? λj=>?_;rw[List.getElem?_eraseIdx,List.getElem?_eraseIdx]
  split
  ·rw[List.getElem?_set_ne (by omega)]
  ·rw[List.getElem?_set_ne (by omega)]
 rw[h2] at h1;exact h1
theorem N9 (ps:List (Nat×Value))(q:Nat×Value):KC (ps++[q])=KC ps++(q.1::q.2.ownBlock.toList):=by
 unfold KC;rw[List.flatMap_append];simp
section
variable {Z : Fz} {w : World} {xs : List ((Value → List Rp) × List (List Rp))}
theorem St.takeout (h:St c (.poolw k pv e re rz xs none::Hr) Z w){i:Nat}(hi:i<xs.length) :
  ∃b r,Z.nm k i=some b∧St c (.blk b (xs[i].1 r) e::.row r re rz xs[i].2::.poolw k pv e re rz xs (some (i,(b,r)))::Hr) Z w:=by
 obtain⟨hl,hn,hm,_,hx⟩:=h.has (.poolw k pv e re rz xs none) (by simp);have hp:(Db pv)[i]? =some (Db pv)[i]:=SK (by omega);generalize(Db pv)[i]=p at hp;obtain⟨b,r⟩:=p;have hperm:=Mu hp;have hnd:=hperm.nodup hn;have hd:=List.pairwise_cons.1 h.dis;have gd:=List.pairwise_cons.1 h.gst.dis;obtain⟨⟨us,h1,h2⟩,h3,vs,h4,h5⟩:=hx i (b,r) xs[i] hp (SK hi) (λo ho=>by cases ho);rw[List.nodup_append] at hnd;have hin:∀q,q∈(b::r.ownBlock.toList)∨q∈KC ((Db pv).eraseIdx i)→q∈(Ent.poolw k pv e re rz xs none).foot:=λq hq=>hperm.symm.subset (List.mem_append.2 hq);have fb:∀q∈(Ent.blk b (xs[i].1 r) e).foot,q∈(Ent.poolw k pv e re rz xs none).foot:=λq hq=>hin q (.inl (by simp[Ent.foot] at hq;simp[hq]));have fr:∀q∈(Ent.row r re rz xs[i].2).foot,q∈(Ent.poolw k pv e re rz xs none).foot:=λq hq=>hin q (.inl (List.mem_cons_of_mem _ hq));have fo:∀q∈(Ent.poolw k pv e re rz xs (some (i,(b,r)))).foot,q∈(Ent.poolw k pv e re rz xs none).foot:=λq hq=>hin q (.inr hq);have hmem:∀en∈(.blk b (xs[i].1 r) e::.row r re rz xs[i].2::.poolw k pv e re rz xs (some (i,(b,r)))::Hr:List Ent),(∀q∈en.foot,q∈(Ent.poolw k pv e re rz xs none).foot)∨en∈Hr:=λen he=>by
  simp only[Ts] at he;rcases he with rfl | rfl | rfl | he
  ·exact .inl fb
  ·exact .inl fr
  ·exact .inl fo
  ·exact .inr he
 have hgk:∀en∈(.blk b (xs[i].1 r) e::.row r re rz xs[i].2::.poolw k pv e re rz xs (some (i,(b,r)))::Hr:List Ent),∀q∈en.gk,∃en'∈(.poolw k pv e re rz xs none::Hr:List Ent),q∈en'.gk∧en'.gn=en.gn:=λen he q hq=>by
  simp only[Ts] at he;rcases he with rfl | rfl | rfl | he
  ·cases hq
  ·cases hq
  ·exact⟨_,List.mem_cons_self ..,hq,rfl⟩
  ·exact⟨en,List.mem_cons_of_mem _ he,hq,rfl⟩
 refine⟨b,r,hm i _ hp,{ h with has:=λen he=>?_,own:=λen he q hq=>?_,dis:=?_,zdis:=λen he q hq=>?_,gst:=⟨λen he q hq=>?_,λen he q hq=>?_,?_,h.gst.new,λen he q hq j hj=>?_⟩ }⟩
 ·simp only[Ts] at he;rcases he with rfl | rfl | rfl | he
  ·exact⟨us,h1,h2⟩
  ·exact⟨h3,vs,h4,h5⟩
  ·exact⟨hl,hnd.2.1,hm,λo ho=>by cases ho;exact hp,λj p x hj hxj hne=>hx j p x hj hxj (λo ho=>by cases ho)⟩
  ·exact h.has en (List.mem_cons_of_mem _ he)
 ·rcases hmem en he with h6 | h6
  ·exact h.own _ (List.mem_cons_self ..) q (h6 q hq)
  ·exact h.own en (List.mem_cons_of_mem _ h6) q hq
 ·have hbr:=List.nodup_cons.1 hnd.1;refine List.pairwise_cons.2 ⟨λen he q hq hq'=>?_,List.pairwise_cons.2 ⟨λen he q hq hq'=>?_,List.pairwise_cons.2 ⟨λen he q hq hq'=>hd.1 en he q (fo q hq) hq',hd.2⟩⟩⟩
  ·have e1:q=b:=by simpa[Ent.foot] using hq
   subst e1;simp only[Ts] at he;rcases he with rfl | rfl | he
   ·exact hbr.1 hq'
   ·exact hnd.2.2 q (List.mem_cons_self ..) q hq' rfl
   ·exact hd.1 en he q (fb q hq) hq'
  ·simp only[Ts] at he;rcases he with rfl | he
   ·exact hnd.2.2 q (List.mem_cons_of_mem _ hq) q hq' rfl
   ·exact hd.1 en he q (fr q hq) hq'
 ·rcases hmem en he with h6 | h6
  ·exact h.zdis _ (List.mem_cons_self ..) q (h6 q hq)
  ·exact h.zdis en (List.mem_cons_of_mem _ h6) q hq
 ·obtain⟨en',h6,h7,_⟩:=hgk en he q hq;exact h.gst.own en' h6 q h7
 ·obtain⟨en',h6,h7,_⟩:=hgk en he q hq;exact h.gst.sz en' h6 q h7
 ·exact List.pairwise_cons.2 ⟨λ_ _ _ hq=>(by cases hq),List.pairwise_cons.2 ⟨λ_ _ _ hq=>(by cases hq),List.pairwise_cons.2 ⟨gd.1,gd.2⟩⟩⟩
 ·obtain⟨en',h6,h7,h8⟩:=hgk en he q hq;exact h.gst.cap en' h6 q h7 j (by rw[h8];exact hj)
theorem St.putback {i:Nat}{r0:Value}{y:(Value→List Rp)×List (List Rp)}(h:St c (.blk b cs e::.row r re rz ys::.poolw k pv e re rz xs (some (i,(b,r0)))::Hr) Z w)(hcs:y.1 r=cs)(hys:y.2=ys){pv':Value}(hpv:Db pv'=(Db pv).set i (b,r)) :
  Z.nm k i=some b∧St c (.poolw k pv' e re rz (xs.set i y) none::Hr) Z w:=by
 obtain⟨us,h1,h2⟩:=h.has (.blk b cs e) (by simp);obtain⟨h3,vs,h4,h5⟩:=h.has (.row r re rz ys) (by simp);obtain⟨hl,hn,hm,ho,hx⟩:=h.has (.poolw k pv e re rz xs (some (i,(b,r0)))) (by simp);have hp:(Db pv)[i]? =some (b,r0):=ho _ rfl;have hi:i<(Db pv).length:=(List.getElem?_eq_some_iff.1 hp).1;have hd:=List.pairwise_cons.1 h.dis;have hd2:=List.pairwise_cons.1 hd.2;have hd3:=List.pairwise_cons.1 hd2.2;have gd:=List.pairwise_cons.1 (List.pairwise_cons.1 (List.pairwise_cons.1 h.gst.dis).2).2;have hperm:=QH (q:=(b,r)) hp;have hback:∀q∈(Ent.poolw k pv' e re rz (xs.set i y) none).foot,q=b∨q∈r.ownBlock.toList∨q∈(Ent.poolw k pv e re rz xs (some (i,(b,r0)))).foot:=λq hq=>by
  have h6:q∈KC ((Db pv).set i (b,r)):=by rw[← hpv];exact hq
  rcases List.mem_append.1 (hperm.subset h6) with h7 | h7
  ·rcases List.mem_cons.1 h7 with h8 | h8
   ·exact .inl h8
   ·exact .inr (.inl h8)
  ·exact .inr (.inr h7)
 have hbr:b ∉ r.ownBlock.toList:=λhb=>hd.1 (.row r re rz ys) (by simp) b (by simp[Ent.foot]) hb;have hbo:b ∉ (Ent.poolw k pv e re rz xs (some (i,(b,r0)))).foot:=λhb=>hd.1 (.poolw k pv e re rz xs (some (i,(b,r0)))) (by simp) b (by simp[Ent.foot]) hb;have hro:∀q∈r.ownBlock.toList,q ∉ (Ent.poolw k pv e re rz xs (some (i,(b,r0)))).foot:=λq hq hq'=>hd2.1 (.poolw k pv e re rz xs (some (i,(b,r0)))) (by simp) q hq hq';have hrn:(r.ownBlock.toList).Nodup:=by cases r.ownBlock<;>simp
 refine⟨hm i _ hp,{ h with has:=λen he=>?_,own:=λen he q hq=>?_,dis:=List.pairwise_cons.2 ⟨λen he q hq hq'=>?_,hd3.2⟩,zdis:=λen he q hq=>?_,gst:=⟨λen he q hq=>?_,λen he q hq=>?_,List.pairwise_cons.2 ⟨gd.1,gd.2⟩,h.gst.new,λen he q hq j hj=>?_⟩ }⟩
 ·rcases List.mem_cons.1 he with rfl | he
  ·refine⟨by rw[hpv];simpa using hl,?_,λj p hj=>?_,λo ho=>(by cases ho),λj p x hj hxj _=>?_⟩
   ·show(KC (Db pv')).Nodup;rw[hpv];refine hperm.symm.nodup ?_;rw[List.nodup_append];exact⟨List.nodup_cons.2 ⟨hbr,hrn⟩,hn,λq hq q' hq' e=>by
     subst e;rcases List.mem_cons.1 hq with rfl | hq
     ·exact hbo hq'
     ·exact hro q hq hq'⟩
   ·rw[hpv,T6] at hj
    split at hj
    ·rename_i e1;subst e1;simp[hi] at hj;subst hj;exact(hm i _ hp:Z.nm k i=some b)
    ·exact hm j p hj
   ·rw[hpv,T6] at hj;rw[T6] at hxj
    by_cases e1:i=j
    ·subst e1;rw[Td rfl,Td hi] at hj;rw[Td rfl,Td (by omega)] at hxj
     cases hj;cases hxj
     subst hcs;subst hys;exact⟨⟨us,h1,h2⟩,h3,vs,h4,h5⟩
    ·rw[SX e1] at hj hxj;exact hx j p x hj hxj (λo ho=>by cases ho;exact e1)
  ·exact h.has en (by simp[he])
 ·rcases List.mem_cons.1 he with rfl | he
  ·rcases hback q hq with rfl | h6 | h6
   ·exact h.own (.blk q cs e) (by simp) q (by simp[Ent.foot])
   ·exact h.own (.row r re rz ys) (by simp) q h6
   ·exact h.own (.poolw k pv e re rz xs (some (i,(b,r0)))) (by simp) q h6
  ·exact h.own en (by simp[he]) q hq
 ·rcases hback q hq with rfl | h6 | h6
  ·exact hd.1 en (by simp[he]) q (by simp[Ent.foot]) hq'
  ·exact hd2.1 en (by simp[he]) q h6 hq'
  ·exact hd3.1 en he q h6 hq'
 ·rcases List.mem_cons.1 he with rfl | he
  ·rcases hback q hq with rfl | h6 | h6
   ·exact h.zdis (.blk q cs e) (by simp) q (by simp[Ent.foot])
   ·exact h.zdis (.row r re rz ys) (by simp) q h6
   ·exact h.zdis (.poolw k pv e re rz xs (some (i,(b,r0)))) (by simp) q h6
  ·exact h.zdis en (by simp[he]) q hq
 ·rcases List.mem_cons.1 he with rfl | he
  ·exact h.gst.own (.poolw k pv e re rz xs (some (i,(b,r0)))) (by simp) q hq
  ·exact h.gst.own en (by simp[he]) q hq
 ·rcases List.mem_cons.1 he with rfl | he
  ·exact h.gst.sz (.poolw k pv e re rz xs (some (i,(b,r0)))) (by simp) q hq
  ·exact h.gst.sz en (by simp[he]) q hq
 ·rcases List.mem_cons.1 he with rfl | he
  ·refine h.gst.cap (.poolw k pv e re rz xs (some (i,(b,r0)))) (by simp) q hq j ?_;have:(Db pv').length≤j:=hj;rw[hpv,List.length_set] at this;exact this
  ·exact h.gst.cap en (by simp[he]) q hq j hj
theorem St.putsame {i:Nat}(hi:i<xs.length)(h:St c (.blk b (xs[i].1 r) e::.row r re rz xs[i].2::.poolw k pv e re rz xs (some (i,(b,r)))::Hr) Z w):Z.nm k i=some b∧St c (.poolw k pv e re rz xs none::Hr) Z w:=by
 obtain⟨hl,hn,hm,ho,hx⟩:=h.has (.poolw k pv e re rz xs (some (i,(b,r)))) (by simp);have hp:(Db pv)[i]? =some (b,r):=ho _ rfl;have h1:=St.putback (y:=xs[i]) (pv':=pv) h rfl rfl (by
  refine(List.ext_getElem? λj=>?_);rw[T6]
  split
  ·rename_i e1;subst e1
   have:=(List.getElem?_eq_some_iff.1 hp).1;rw[Td this,hp]
  ·rfl)
 rw[List.set_getElem_self] at h1;exact h1
theorem St.adoptW {y:(Value→List Rp)×List (List Rp)}(h:St c (.blk b cs e::.row r re rz ys::.poolw k pv e re rz xs none::Hr) Z w)(hcs:y.1 r=cs)(hys:y.2=ys){pv':Value}(hpv:Db pv'=Db pv++[(b,r)]) :
  ∃Z',Fz.le Z Z'∧Z'.nm k xs.length=some b∧St c (.poolw k pv' e re rz (xs++[y]) none::Hr) Z' w:=by
 obtain⟨us,h1,h2⟩:=h.has (.blk b cs e) (by simp);obtain⟨h3,vs,h4,h5⟩:=h.has (.row r re rz ys) (by simp);obtain⟨hl,hn,hm,ho,hx⟩:=h.has (.poolw k pv e re rz xs none) (by simp);have hd:=List.pairwise_cons.1 h.dis;have hd2:=List.pairwise_cons.1 hd.2;have hd3:=List.pairwise_cons.1 hd2.2;have gd:=List.pairwise_cons.1 (List.pairwise_cons.1 (List.pairwise_cons.1 h.gst.dis).2).2;have hcap:=h.gst.cap (.poolw k pv e re rz xs none) (by simp) k (by simp[Ent.gk]);have hksz:=h.gst.sz (.poolw k pv e re rz xs none) (by simp) k (by simp[Ent.gk]);have hkown:=h.gst.own (.poolw k pv e re rz xs none) (by simp) k (by simp[Ent.gk])
 let Z':Fz:=⟨Z.f,λq i=>if q=k∧i=xs.length then some b else Z.nm q i⟩
 have hnew:Z'.nm k xs.length=some b:=by simp[Z']
 have hle:Fz.le Z Z':=⟨λ_ _ h=>h,λq i b' hq=>by
  by_cases hqi:q=k∧i=xs.length
  ·obtain⟨rfl,rfl⟩:=hqi;rw[hcap _ (by simp[Ent.gn,hl])] at hq;cases hq
  ·simpa[Z',hqi] using hq⟩
 have hbr:b ∉ r.ownBlock.toList:=λhb=>hd.1 (.row r re rz ys) (by simp) b (by simp[Ent.foot]) hb;have hbo:b ∉ (Ent.poolw k pv e re rz xs none).foot:=λhb=>hd.1 (.poolw k pv e re rz xs none) (by simp) b (by simp[Ent.foot]) hb;have hro:∀q∈r.ownBlock.toList,q ∉ (Ent.poolw k pv e re rz xs none).foot:=λq hq hq'=>hd2.1 (.poolw k pv e re rz xs none) (by simp) q hq hq';have hrn:(r.ownBlock.toList).Nodup:=by cases r.ownBlock<;>simp
 have hback:∀q∈(Ent.poolw k pv' e re rz (xs++[y]) none).foot,q=b∨q∈r.ownBlock.toList∨q∈(Ent.poolw k pv e re rz xs none).foot:=λq hq=>by
  have h6:q∈KC (Db pv++[(b,r)]):=by rw[← hpv];exact hq
  rw[N9] at h6;rcases List.mem_append.1 h6 with h7 | h7
  ·exact .inr (.inr h7)
  ·rcases List.mem_cons.1 h7 with h8 | h8
   ·exact .inl h8
   ·exact .inr (.inl h8)
 refine⟨Z',hle,hnew,{ h with has:=λen he=>?_,own:=λen he q hq=>?_,dis:=List.pairwise_cons.2 ⟨λen he q hq hq'=>?_,hd3.2⟩,frz:=⟨λb o hb=>h.frz.f b o hb,λq i b' hq=>?_⟩,le:=h.le.trans hle,new:=λb o hb=>h.new b o hb,zdis:=λen he q hq=>?_,env:=h.emono hle h.env,gst:=⟨λen he q hq=>?_,λen he q hq=>?_,List.pairwise_cons.2 ⟨gd.1,gd.2⟩,λq i b' hq=>?_,λen he q hq i hi=>?_⟩ }⟩
 ·rcases List.mem_cons.1 he with rfl | he
  ·refine⟨by rw[hpv];simp[hl],?_,λj p hj=>?_,λo ho=>(by cases ho),λj p x hj hxj _=>?_⟩
   ·show(KC (Db pv')).Nodup;rw[hpv,N9,List.nodup_append];exact⟨hn,List.nodup_cons.2 ⟨hbr,hrn⟩,λq hq q' hq' e=>by
     subst e;rcases List.mem_cons.1 hq' with rfl | hq'
     ·exact hbo hq
     ·exact hro q hq' hq⟩
   ·rw[hpv] at hj
    by_cases hjl:j<(Db pv).length
    ·rw[Tj hjl] at hj;exact hle.nm k j _ (hm j p hj)
    ·have hj2:j=(Db pv).length:=by have:=(List.getElem?_eq_some_iff.1 hj).1;simp at this;omega
     subst hj2;simp at hj;subst hj;rw[hl];exact hnew
   ·rw[hpv] at hj
    by_cases hjl:j<(Db pv).length
    ·rw[Tj hjl] at hj;rw[Tj (by omega)] at hxj;obtain⟨⟨us',g1,g2⟩,g3,vs',g4,g5⟩:=hx j p x hj hxj (λo ho=>by cases ho);exact⟨⟨us',g1,g2.mono hle⟩,g3,vs',g4,g5.mono hle⟩
    ·have hj2:j=(Db pv).length:=by have:=(List.getElem?_eq_some_iff.1 hj).1;simp at this;omega
     subst hj2;simp at hj;subst hj;rw[hl] at hxj;simp at hxj;subst hxj;subst hcs;subst hys;exact⟨⟨us,h1,h2.mono hle⟩,h3,vs,h4,h5.mono hle⟩
  ·exact Ent.keep (h.has en (by simp[he])) hle λ_ _=>rfl
 ·rcases List.mem_cons.1 he with rfl | he
  ·rcases hback q hq with rfl | h6 | h6
   ·exact h.own (.blk q cs e) (by simp) q (by simp[Ent.foot])
   ·exact h.own (.row r re rz ys) (by simp) q h6
   ·exact h.own (.poolw k pv e re rz xs none) (by simp) q h6
  ·exact h.own en (by simp[he]) q hq
 ·rcases hback q hq with rfl | h6 | h6
  ·exact hd.1 en (by simp[he]) q (by simp[Ent.foot]) hq'
  ·exact hd2.1 en (by simp[he]) q h6 hq'
  ·exact hd3.1 en he q h6 hq'
 ·by_cases hqi:q=k∧i=xs.length
  ·rw[hqi.1];exact hksz
  ·exact h.frz.nm q i b' (by simpa[Z',hqi] using hq)
 ·rcases List.mem_cons.1 he with rfl | he
  ·rcases hback q hq with rfl | h6 | h6
   ·exact h.zdis (.blk q cs e) (by simp) q (by simp[Ent.foot])
   ·exact h.zdis (.row r re rz ys) (by simp) q h6
   ·exact h.zdis (.poolw k pv e re rz xs none) (by simp) q h6
  ·exact h.zdis en (by simp[he]) q hq
 ·rcases List.mem_cons.1 he with rfl | he
  ·simp[Ent.gk] at hq;subst hq;exact hkown
  ·exact h.gst.own en (by simp[he]) q hq
 ·rcases List.mem_cons.1 he with rfl | he
  ·simp[Ent.gk] at hq;subst hq;exact hksz
  ·exact h.gst.sz en (by simp[he]) q hq
 ·by_cases hqi:q=k∧i=xs.length
  ·rw[hqi.1];exact .inr hkown
  ·exact h.gst.new q i b' (by simpa[Z',hqi] using hq)
 ·rcases List.mem_cons.1 he with rfl | he
  ·simp[Ent.gk] at hq;subst hq;have hi':(Db pv').length≤i:=hi;rw[hpv,SU] at hi';simp at hi';have hne : ¬ i=xs.length:=by omega
   simp only[Z',hne,and_false,if_false];exact hcap i (by simp[Ent.gn];omega)
  ·have hqk:q≠k:=λe1=>gd.1 en he k (by simp[Ent.gk]) (e1▸hq);simp only[Z',hqk,false_and,if_false];exact h.gst.cap en (by simp[he]) q hq i hi
end
def QX (l:Fr)(k:Nat)(i:Int):List Nat→Prop
 | []=>True
 | d::ds=>look l d=some (Es k i 0)∧QX l k i ds
def Sh (b:Nat):List Nat→Fr→Fr
 | [],l=>l
 | d::ds,l=>(d,rv (.pointer (some ⟨b,0,none⟩)))::Sh b ds l
def QP (k:Nat)(i:Int):List Nat→Fr→Fr
 | [],l=>l
 | d::ds,l=>(d,Es k i 0)::QP k i ds l
theorem Ng {Z:Fz}{a:Act}{i:Int}{l:Fr}(ha:Ch n l a Z)(h0:0≤i)(hn:Z.nm k i.toNat=some b):∀{ds:List Nat},QX l k i ds→Ch n (Sh b ds l) a Z
 | [],_=>ha
 | d::ds,⟨h1,h2⟩=>by
  have h3:=Ng ha h0 hn h2;refine⟨h3.size,h3.defers,λj u hj=>?_⟩;rw[Sh,BB] at hj
  split at hj
  ·rename_i e;subst e;simp at hj;subst hj
   obtain⟨v,h4,h5⟩:=ha.tm d _ h1
   change KM k i 0 Z v at h5
   unfold KM at h5;rw[SX (by omega)] at h5;obtain⟨b',g1,g2⟩:=h5;rw[hn] at g1;obtain rfl:=Option.some.inj g1;exact⟨v,h4,g2⟩
  ·exact h3.tm j u hj
theorem Hw {Z:Fz}{a:Act}{i:Int}{l:Fr}(ha:Ch n l a Z)(h0:0≤i)(hn:Z.nm k i.toNat=some b):∀{ds:List Nat},Ik l b ds→Ch n (QP k i ds l) a Z
 | [],_=>ha
 | d::ds,⟨h1,h2⟩=>by
  have h3:=Hw ha h0 hn h2;refine⟨h3.size,h3.defers,λj u hj=>?_⟩;rw[QP,BB] at hj
  split at hj
  ·rename_i e;subst e;simp at hj;subst hj
   obtain⟨v,h4,h5⟩:=ha.tm d _ h1;refine⟨v,h4,?_⟩;show KM k i 0 Z v;unfold KM;rw[SX (by omega)];exact⟨b,hn,h5⟩
  ·exact h3.tm j u hj
section
variable {β : Type} [Inhabited β] {xs : List β} {encw : β → (Value → List Rp) × List (List Rp)} {i : Int} {y : β}
theorem St.takeoutE {Z:Fz}{w:World}(hw:St c H Z w)(hp:H.Perm (.poolw k pv e re rz (xs.map encw) none::Hr))(hg:Cd i (xs.length:Int)=true) :
  ∃b r,0≤i∧Z.nm k i.toNat=some b∧St c (.blk b ((encw (Ae xs i)).1 r) e::.row r re rz (encw (Ae xs i)).2::.poolw k pv e re rz (xs.map encw) (some (i.toNat,(b,r)))::Hr) Z w:=by
 have h0:=(BL hg).1;have h1:i.toNat<xs.length:=by have:=(BL hg).2;omega
 obtain⟨b,r,h2,h3⟩:=(hw.perm hp).takeout (i:=i.toNat) (by simpa using h1);have e1:(xs.map encw)[i.toNat]'(by simpa using h1)=encw (Ae xs i):=by simp[Ae,h1]
 rw[e1] at h3;exact⟨b,r,h0,h2,h3⟩
theorem WL.takeout (hp:H.Perm (.poolw k pv e re rz (xs.map encw) none::Hr))(hg:Cd i (xs.length:Int)=true)(ds:List Nat)(hd:QX l k i ds)
  (h:∀b r,WL P n c ops Q rest (Sh b ds l) (.blk b ((encw (Ae xs i)).1 r) e::.row r re rz (encw (Ae xs i)).2::.poolw k pv e re rz (xs.map encw) (some (i.toNat,(b,r)))::Hr)):WL P n c ops Q rest l H:=λa w Z ha hw=>by
 obtain⟨b,r,h0,h1,h2⟩:=St.takeoutE hw hp hg;exact h b r a w Z (Ng ha h0 h1 hd) h2
theorem WC.takeout (hp:H.Perm (.poolw k pv e re rz (xs.map encw) none::Hr))(hg:Cd i (xs.length:Int)=true)(ds:List Nat)(hd:QX l k i ds)
  (h:∀b r,WC P n c cx Q (Sh b ds l) (.blk b ((encw (Ae xs i)).1 r) e::.row r re rz (encw (Ae xs i)).2::.poolw k pv e re rz (xs.map encw) (some (i.toNat,(b,r)))::Hr)):WC P n c cx Q l H:=λa w Z ha hw=>by
 obtain⟨b,r,h0,h1,h2⟩:=St.takeoutE hw hp hg;exact h b r a w Z (Ng ha h0 h1 hd) h2
theorem St.putbackE {Z:Fz}{w:World}{r0:Value}(hw:St c H Z w)(hp:H.Perm (.blk b cs e::.row r re rz ys::.poolw k pv e re rz (xs.map encw) (some (i.toNat,(b,r0)))::Hr))(hcs:(encw y).1 r=cs)(hys:(encw y).2=ys) :
  ∃pv',Z.nm k i.toNat=some b∧St c (.poolw k pv' e re rz ((xs.set i.toNat y).map encw) none::Hr) Z w:=by
 obtain⟨h1,h2⟩:=(hw.perm hp).putback (y:=encw y) (pv':=Q6 ((Db pv).set i.toNat (b,r))) hcs hys (Nu _);rw[← List.map_set] at h2;exact⟨_,h1,h2⟩
theorem WL.putback {r0:Value}(hp:H.Perm (.blk b cs e::.row r re rz ys::.poolw k pv e re rz (xs.map encw) (some (i.toNat,(b,r0)))::Hr))(hg:Cd i (xs.length:Int)=true)(ds:List Nat)(hd:Ik l b ds)(hcs:(encw y).1 r=cs)(hys:(encw y).2=ys)
  (h:∀pv',WL P n c ops Q rest (QP k i ds l) (.poolw k pv' e re rz ((xs.set i.toNat y).map encw) none::Hr)):WL P n c ops Q rest l H:=λa w Z ha hw=>by
 obtain⟨pv',h1,h2⟩:=St.putbackE hw hp hcs hys;exact h pv' a w Z (Hw ha (BL hg).1 h1 hd) h2
theorem WC.putback {r0:Value}(hp:H.Perm (.blk b cs e::.row r re rz ys::.poolw k pv e re rz (xs.map encw) (some (i.toNat,(b,r0)))::Hr))(hg:Cd i (xs.length:Int)=true)(ds:List Nat)(hd:Ik l b ds)(hcs:(encw y).1 r=cs)(hys:(encw y).2=ys)
  (h:∀pv',WC P n c cx Q (QP k i ds l) (.poolw k pv' e re rz ((xs.set i.toNat y).map encw) none::Hr)):WC P n c cx Q l H:=λa w Z ha hw=>by
 obtain⟨pv',h1,h2⟩:=St.putbackE hw hp hcs hys;exact h pv' a w Z (Hw ha (BL hg).1 h1 hd) h2
theorem WK.putback {r0:Value}(hp:H.Perm (.blk b cs e::.row r re rz ys::.poolw k pv e re rz (xs.map encw) (some (i.toNat,(b,r0)))::Hr))(hg:Cd i (xs.length:Int)=true)(ds:List Nat)(hd:Ik l b ds)(hcs:(encw y).1 r=cs)(hys:(encw y).2=ys)
  (h:∀pv',WK n c K (QP k i ds l) (.poolw k pv' e re rz ((xs.set i.toNat y).map encw) none::Hr)):WK n c K l H:=λa w Z ha hw=>by
 obtain⟨pv',h1,h2⟩:=St.putbackE hw hp hcs hys;exact h pv' a w Z (Hw ha (BL hg).1 h1 hd) h2
theorem St.putsameE {Z:Fz}{w:World}(hw:St c H Z w)(hp:H.Perm (.blk b cs e::.row r re rz ys::.poolw k pv e re rz (xs.map encw) (some (i.toNat,(b,r)))::Hr))(hg:Cd i (xs.length:Int)=true)(hcs:(encw (Ae xs i)).1 r=cs)(hys:(encw (Ae xs i)).2=ys) :
  Z.nm k i.toNat=some b∧St c (.poolw k pv e re rz (xs.map encw) none::Hr) Z w:=by
 have h1:i.toNat<xs.length:=by have:=BL hg;omega
 have e1:(xs.map encw)[i.toNat]'(by simpa using h1)=encw (Ae xs i):=by simp[Ae,h1]
 subst hcs;subst hys;have h2:=hw.perm hp;rw[← e1] at h2;exact St.putsame (by simpa using h1) h2
theorem WL.putsame (hp:H.Perm (.blk b cs e::.row r re rz ys::.poolw k pv e re rz (xs.map encw) (some (i.toNat,(b,r)))::Hr))(hg:Cd i (xs.length:Int)=true)(ds:List Nat)(hd:Ik l b ds)(hcs:(encw (Ae xs i)).1 r=cs)(hys:(encw (Ae xs i)).2=ys)
  (h:WL P n c ops Q rest (QP k i ds l) (.poolw k pv e re rz (xs.map encw) none::Hr)):WL P n c ops Q rest l H:=λa w Z ha hw=>by
 obtain⟨h1,h2⟩:=St.putsameE hw hp hg hcs hys;exact h a w Z (Hw ha (BL hg).1 h1 hd) h2
theorem WC.putsame (hp:H.Perm (.blk b cs e::.row r re rz ys::.poolw k pv e re rz (xs.map encw) (some (i.toNat,(b,r)))::Hr))(hg:Cd i (xs.length:Int)=true)(ds:List Nat)(hd:Ik l b ds)(hcs:(encw (Ae xs i)).1 r=cs)(hys:(encw (Ae xs i)).2=ys)
  (h:WC P n c cx Q (QP k i ds l) (.poolw k pv e re rz (xs.map encw) none::Hr)):WC P n c cx Q l H:=λa w Z ha hw=>by
 obtain⟨h1,h2⟩:=St.putsameE hw hp hg hcs hys;exact h a w Z (Hw ha (BL hg).1 h1 hd) h2
theorem WK.putsame (hp:H.Perm (.blk b cs e::.row r re rz ys::.poolw k pv e re rz (xs.map encw) (some (i.toNat,(b,r)))::Hr))(hg:Cd i (xs.length:Int)=true)(ds:List Nat)(hd:Ik l b ds)(hcs:(encw (Ae xs i)).1 r=cs)(hys:(encw (Ae xs i)).2=ys)
  (h:WK n c K (QP k i ds l) (.poolw k pv e re rz (xs.map encw) none::Hr)):WK n c K l H:=λa w Z ha hw=>by
 obtain⟨h1,h2⟩:=St.putsameE hw hp hg hcs hys;exact h a w Z (Hw ha (BL hg).1 h1 hd) h2
theorem St.adoptWE {Z:Fz}{w:World}(hw:St c H Z w)(hp:H.Perm (.blk b cs e::.row r re rz ys::.poolw k pv e re rz (xs.map encw) none::Hr))(hcs:(encw y).1 r=cs)(hys:(encw y).2=ys) :
  ∃Z' pv',Fz.le Z Z'∧Z'.nm k xs.length=some b∧St c (.poolw k pv' e re rz ((xs++[y]).map encw) none::Hr) Z' w:=by
 obtain⟨Z',h1,h2,h3⟩:=(hw.perm hp).adoptW (y:=encw y) (pv':=Q6 (Db pv++[(b,r)])) hcs hys (Nu _);rw[SV] at h2;exact⟨Z',_,h1,h2,by rw[List.map_append];exact h3⟩
theorem WL.adoptW (hp:H.Perm (.blk b cs e::.row r re rz ys::.poolw k pv e re rz (xs.map encw) none::Hr))(ds:List Nat)(hd:Ik l b ds)(hcs:(encw y).1 r=cs)(hys:(encw y).2=ys)
  (h:∀pv',WL P n c ops Q rest (Rg k xs.length ds l) (.poolw k pv' e re rz ((xs++[y]).map encw) none::Hr)):WL P n c ops Q rest l H:=λa w Z ha hw=>by
 obtain⟨Z',pv',h1,h2,h3⟩:=St.adoptWE hw hp hcs hys;exact h pv' a w Z' (IH (ha.mono h1) h2 hd) h3
theorem WC.adoptW (hp:H.Perm (.blk b cs e::.row r re rz ys::.poolw k pv e re rz (xs.map encw) none::Hr))(ds:List Nat)(hd:Ik l b ds)(hcs:(encw y).1 r=cs)(hys:(encw y).2=ys)
  (h:∀pv',WC P n c cx Q (Rg k xs.length ds l) (.poolw k pv' e re rz ((xs++[y]).map encw) none::Hr)):WC P n c cx Q l H:=λa w Z ha hw=>by
 obtain⟨Z',pv',h1,h2,h3⟩:=St.adoptWE hw hp hcs hys;exact h pv' a w Z' (IH (ha.mono h1) h2 hd) h3
end
theorem Gu:Db (.tuple #[])=[]:=rfl
theorem IY (hn:Nat.blt d n=true)(h:∀b,WL P n c ops Q rest ((d,rv (.map (some b)))::l) (.poolw b (.tuple #[]) e re rz [] none::.map b []::H)) :
  WL P n c ops Q ({ dst:=some d,op:=.makeMap t none,type:=ty,pos:=pos,after:=af,guard:=none }::rest) l H:=
 Ip (λa w Z ha hw=>by
  have h1:=hw.alloc (.map #[] 0) (e:=.map w.heap.size []) ⟨#[],0,by simpa using heap_alloc_new w _,by simp,by simp,by simp,[],SN _,trivial⟩ rfl;refine⟨_,w.alloc (.map #[] 0),_,_,Z,by simp[execOp,run_makeMap],Fz.le.refl _,rfl,?_,h w.heap.size⟩;have hz:∀i,Z.nm w.heap.size i=none:=λi=>by
   cases hq:Z.nm w.heap.size i with
   | none=>rfl
   | some b=>have:=hw.frz.nm _ _ _ hq;omega
  have hold:∀en∈(Ent.map w.heap.size []::H),∀q∈en.gk,q<w.heap.size:=λen he q hq=>by
   rcases List.mem_cons.1 he with rfl | he
   ·simp[Ent.gk] at hq
   ·exact hw.gst.sz en he q hq
  have hf:∀q,q ∉ (Ent.poolw w.heap.size (.tuple #[]) e re rz [] none).foot:=λq hq=>by simp[Ent.foot,Gu,MM,KC] at hq
  refine { h1 with has:=λen he=>?_,own:=λen he q hq=>?_,dis:=List.pairwise_cons.2 ⟨λen he q hq=>absurd hq (hf q),h1.dis⟩,zdis:=λen he q hq=>?_,gst:=⟨λen he q hq=>?_,λen he q hq=>?_,List.pairwise_cons.2 ⟨λen he q hq hq'=>?_,h1.gst.dis⟩,h1.gst.new,λen he q hq i hi=>?_⟩ }
  ·rcases List.mem_cons.1 he with rfl | he
   ·exact⟨by simp[Gu],by simp[Gu,MM,KC],by simp[Gu],λo ho=>(by cases ho),by simp[Gu]⟩
   ·exact h1.has en he
  ·rcases List.mem_cons.1 he with rfl | he
   ·exact absurd hq (hf q)
   ·exact h1.own en he q hq
  ·rcases List.mem_cons.1 he with rfl | he
   ·exact absurd hq (hf q)
   ·exact h1.zdis en he q hq
  ·rcases List.mem_cons.1 he with rfl | he
   ·simp[Ent.gk] at hq;subst hq;exact .inl hw.size
   ·exact h1.gst.own en he q hq
  ·rcases List.mem_cons.1 he with rfl | he
   ·simp[Ent.gk] at hq;subst hq;simp
   ·exact h1.gst.sz en he q hq
  ·simp[Ent.gk] at hq;subst hq;have:=hold en he _ hq';omega
  ·rcases List.mem_cons.1 he with rfl | he
   ·simp[Ent.gk] at hq;subst hq;exact hz i
   ·exact h1.gst.cap en he q hq i hi) hn
end
end Go.Proofs.YtfbmdidnlhifjaaGreatDoor.Q
namespace Go.Proofs
open Go.Shelf
def Tryz.sort73_ren:Go.Shelf.Ren:=⟨fun | 6=>73 | 8=>89 | 9=>88 | 19=>113 | 20=>114 | 21=>104 | 22=>105 | 23=>106 | 24=>107 | 25=>108 | 26=>109 | 27=>110 | 28=>111 | 29=>112 | 36=>120 | 31=>121 | 32=>122 | 37=>123 | 38=>124 | 39=>125 | 41=>131 | n=>n,fun | 27=>49 | 29=>9 | 3=>3 | 32=>134 | 26=>49 | 0=>0 | 44=>149 | 46=>151 | 4=>4 | 36=>142 | 35=>141 | 41=>101 | 5=>5 | 9=>9 | 53=>155 | 57=>159 | 63=>166 | 64=>167 | n=>n,fun | n=>n⟩
theorem Tryz.sort73:Go.Proofs.SlLaysM.n6 Tryz.prog Tryz.sort73_ren:={
 mixed:=by kernel_rfl
 f6:=⟨Tryz.f73.name,by decide,Tryz.func73.trans (congrArg some (by kernel_rfl))⟩
 f8:=Tryz.func89.trans (congrArg some (by kernel_rfl))
 f9:=⟨Tryz.f88.name,by decide,Tryz.func88.trans (congrArg some (by kernel_rfl))⟩
 f19:=Tryz.func113.trans (congrArg some (by kernel_rfl))
 f20:=Tryz.func114.trans (congrArg some (by kernel_rfl))
 f21:=⟨Tryz.f104.name,by decide,Tryz.func104.trans (congrArg some (by kernel_rfl))⟩
 f22:=⟨Tryz.f105.name,by decide,Tryz.func105.trans (congrArg some (by kernel_rfl))⟩
 f23:=⟨Tryz.f106.name,by decide,Tryz.func106.trans (congrArg some (by kernel_rfl))⟩
 f24:=⟨Tryz.f107.name,by decide,Tryz.func107.trans (congrArg some (by kernel_rfl))⟩
 f25:=⟨Tryz.f108.name,by decide,Tryz.func108.trans (congrArg some (by kernel_rfl))⟩
 f26:=⟨Tryz.f109.name,by decide,Tryz.func109.trans (congrArg some (by kernel_rfl))⟩
 f27:=⟨Tryz.f110.name,by decide,Tryz.func110.trans (congrArg some (by kernel_rfl))⟩
 f28:=⟨Tryz.f111.name,by decide,Tryz.func111.trans (congrArg some (by kernel_rfl))⟩
 f29:=⟨Tryz.f112.name,by decide,Tryz.func112.trans (congrArg some (by kernel_rfl))⟩
 f31:=Tryz.func121.trans (congrArg some (by kernel_rfl))
 f32:=Tryz.func122.trans (congrArg some (by kernel_rfl))
 f36:=⟨Tryz.f120.name,by decide,Tryz.func120.trans (congrArg some (by kernel_rfl))⟩
 f37:=⟨Tryz.f123.name,by decide,Tryz.func123.trans (congrArg some (by kernel_rfl))⟩
 f38:=⟨Tryz.f124.name,by decide,Tryz.func124.trans (congrArg some (by kernel_rfl))⟩
 f39:=⟨Tryz.f125.name,by decide,Tryz.func125.trans (congrArg some (by kernel_rfl))⟩
 f41:=⟨Tryz.f131.name,by decide,Tryz.func131.trans (congrArg some (by kernel_rfl))⟩
 t0:=Tryz.underlying0
 a0:=Tryz.isAgg0
 z0:=Tryz.sizeOf0
 v0:=Tryz.zeroValue0
 t3:=Tryz.underlying3
 a3:=Tryz.isAgg3
 z3:=Tryz.sizeOf3
 v3:=Tryz.zeroValue3
 t4:=Tryz.underlying4
 a4:=Tryz.isAgg4
 z4:=Tryz.sizeOf4
 v4:=Tryz.zeroValue4
 t5:=Tryz.underlying5
 a5:=Tryz.isAgg5
 z5:=Tryz.sizeOf5
 v5:=Tryz.zeroValue5
 t9:=Tryz.underlying9
 a9:=Tryz.isAgg9
 z9:=Tryz.sizeOf9
 v9:=Tryz.zeroValue9
 t26:=Tryz.underlying49
 a26:=Tryz.isAgg49
 z26:=Tryz.sizeOf49
 v26:=Tryz.zeroValue49
 t27:=Tryz.underlying49
 a27:=Tryz.isAgg49
 z27:=Tryz.sizeOf49
 v27:=Tryz.zeroValue49
 t29:=Tryz.underlying9
 a29:=Tryz.isAgg9
 z29:=Tryz.sizeOf9
 v29:=Tryz.zeroValue9
 t32:=Tryz.underlying134
 a32:=Tryz.isAgg134
 z32:=Tryz.sizeOf134
 v32:=Tryz.zeroValue134
 t35:=Tryz.underlying141
 a35:=Tryz.isAgg141
 z35:=Tryz.sizeOf141
 v35:=Tryz.zeroValue141
 t36:=Tryz.underlying142
 a36:=Tryz.isAgg142
 z36:=Tryz.sizeOf142
 v36:=Tryz.zeroValue142
 t41:=Tryz.underlying101
 a41:=Tryz.isAgg101
 z41:=Tryz.sizeOf101
 v41:=Tryz.zeroValue101
 t44:=Tryz.underlying149
 a44:=Tryz.isAgg149
 z44:=Tryz.sizeOf149
 v44:=Tryz.zeroValue149
 t46:=Tryz.underlying151
 a46:=Tryz.isAgg151
 z46:=Tryz.sizeOf151
 v46:=Tryz.zeroValue151
 t53:=Tryz.underlying155
 a53:=Tryz.isAgg155
 z53:=Tryz.sizeOf155
 v53:=Tryz.zeroValue155
 t57:=Tryz.underlying159
 a57:=Tryz.isAgg159
 z57:=Tryz.sizeOf159
 v57:=Tryz.zeroValue159
 t63:=Tryz.underlying166
 a63:=Tryz.isAgg166
 z63:=Tryz.sizeOf166
 v63:=Tryz.zeroValue166
 t64:=Tryz.underlying167
 a64:=Tryz.isAgg167
 z64:=Tryz.sizeOf167
 v64:=Tryz.zeroValue167 }
def Tryz.sorted49_ren:Go.Shelf.Ren:=⟨fun | 6=>49 | 8=>72 | 9=>73 | 11=>87 | 13=>89 | 12=>88 | 23=>113 | 24=>114 | 14=>104 | 15=>105 | 16=>106 | 17=>107 | 18=>108 | 19=>109 | 20=>110 | 21=>111 | 22=>112 | 25=>120 | 26=>121 | 27=>122 | 28=>123 | 29=>124 | 30=>125 | 31=>131 | n=>n,fun | 26=>9 | 28=>95 | 24=>49 | 0=>0 | 3=>3 | 37=>134 | 48=>149 | 50=>151 | 4=>4 | 40=>142 | 39=>141 | 45=>101 | 5=>5 | 9=>9 | 51=>155 | 55=>159 | 57=>166 | 58=>167 | 33=>103 | n=>n,fun | n=>n⟩
theorem Tryz.sorted49:Go.Proofs.SlLaysZ.n6 Tryz.prog Tryz.sorted49_ren:={
 mixed:=by kernel_rfl
 f6:=⟨Tryz.f49.name,by decide,Tryz.func49.trans (congrArg some (by kernel_rfl))⟩
 f8:=⟨Tryz.f72.name,by decide,Tryz.func72.trans (congrArg some (by kernel_rfl))⟩
 f11:=⟨Tryz.f87.name,by decide,Tryz.func87.trans (congrArg some (by kernel_rfl))⟩
 t0:=Tryz.underlying0
 a0:=Tryz.isAgg0
 z0:=Tryz.sizeOf0
 v0:=Tryz.zeroValue0
 t24:=Tryz.underlying49
 a24:=Tryz.isAgg49
 z24:=Tryz.sizeOf49
 v24:=Tryz.zeroValue49
 t26:=Tryz.underlying9
 a26:=Tryz.isAgg9
 z26:=Tryz.sizeOf9
 v26:=Tryz.zeroValue9
 t28:=Tryz.underlying95
 a28:=Tryz.isAgg95
 z28:=Tryz.sizeOf95
 v28:=Tryz.zeroValue95
 i26:=by kernel_rfl }
def Tryz.keys50_ren:Go.Shelf.Ren:=⟨fun | 7=>50 | 10=>74 | n=>n,fun | 23=>65 | 26=>9 | 3=>83 | 28=>95 | 0=>0 | 27=>94 | 33=>103 | 4=>4 | n=>n,fun | n=>n⟩
theorem Tryz.keys50:Go.Proofs.SlLaysZ.n7 Tryz.prog Tryz.keys50_ren:={
 mixed:=by kernel_rfl
 f7:=⟨Tryz.f50.name,by decide,Tryz.func50.trans (congrArg some (by kernel_rfl))⟩
 f10:=⟨Tryz.f74.name,by decide,Tryz.func74.trans (congrArg some (by kernel_rfl))⟩
 t0:=Tryz.underlying0
 a0:=Tryz.isAgg0
 z0:=Tryz.sizeOf0
 v0:=Tryz.zeroValue0
 t4:=Tryz.underlying4
 a4:=Tryz.isAgg4
 z4:=Tryz.sizeOf4
 v4:=Tryz.zeroValue4
 t23:=Tryz.underlying65
 a23:=Tryz.isAgg65
 z23:=Tryz.sizeOf65
 v23:=Tryz.zeroValue65
 t26:=Tryz.underlying9
 a26:=Tryz.isAgg9
 z26:=Tryz.sizeOf9
 v26:=Tryz.zeroValue9
 t27:=Tryz.underlying94
 a27:=Tryz.isAgg94
 z27:=Tryz.sizeOf94
 v27:=Tryz.zeroValue94
 t28:=Tryz.underlying95
 a28:=Tryz.isAgg95
 z28:=Tryz.sizeOf95
 v28:=Tryz.zeroValue95
 t33:=Tryz.underlying103
 a33:=Tryz.isAgg103
 z33:=Tryz.sizeOf103
 v33:=Tryz.zeroValue103 }
end Go.Proofs
namespace Go.Proofs.YtfbmdidnlhifjaaGreatDoor.Q
open Go Go.RowKit Go.Maps Go.Sort Go.Shelf Go.Proofs
set_option linter.unusedVariables false
set_option maxHeartbeats 1000000
theorem ME {Z:Fz}{v:Value}{vs:List Value}(h:AX Z [rv v] vs):vs=[v]:=AX.eq_rv (us:=[v]) h
theorem Ox {T:Type}(enc:T→Rp)(xs:List (An×T)):(AD enc xs).map (·.1)=xs.map (·.1):=by simp[AD]
theorem MV (b:Nat):Fn Tryz.prog GE 50 [rv (.map (some b))] [] (λR H=>∃k:Nat,R=rv (.func (.func 74) #[] #[.pointer (some ⟨k,0,none⟩)])∧H=[.blk k [rv (.map (some b))] 65]):=λw Z vs hv hs=>by
 have e:=ME hv;subst e;have hc:Calls Tryz.prog 50 #[.map (some b)] w (λe w'=>e = .returned (.func (.func 74) #[] #[.pointer (some ⟨w.heap.size,0,none⟩)])∧w'=w.alloc (.cells #[.map (some b)] 65)):=callsIn_wide.1 (AnyZ.keys_in Tryz.keys50 Fence.wide 5 trivial rfl (some b) w);refine hc.mono ?_;rintro e w' ⟨rfl,rfl⟩;exact⟨_,_,_,Z,rfl,⟨w.heap.size,rfl,rfl⟩,rfl,hs.alloc _ ⟨[.map (some b)],by simpa using heap_alloc_new w _,rfl,trivial⟩ rfl⟩
theorem MD (m:Nat):AnyZ.SortsIn Tryz.prog Tryz.sorted49_ren Fence.wide m:=
  ⟨λblk off cap ss W hH hblk hsz=>callsIn_wide.2 (AnyM.slices_Sort_string Tryz.sort73 blk off cap ss W hH hblk hsz),
   λp cap W=>callsIn_wide.2 (AnyM.slices_Sort_string_none Tryz.sort73 p cap W)⟩
theorem LM {T:Type}(enc:T→Rp)(xs:List (An×T))(k b:Nat)(hk:MY xs=true):Fn Tryz.prog GE 49 [rv (.func (.func 74) #[] #[.pointer (some ⟨k,0,none⟩)])] [.blk k [rv (.map (some b))] 65,.map b (AD enc xs)] (λR H=>∃v:Value,R=rv v∧H=[.row v 9 1 ((K5 xs).map eS),.blk k [rv (.map (some b))] 65,.map b (AD enc xs)]):=λw Z vs hv hs=>by
 have e:=ME hv;subst e;obtain⟨us,h1,h2⟩:=hs.ent (i:=0) rfl;have e2:=ME h2;subst e2;obtain⟨es,ck,h3,h4⟩:=hs.ent (i:=1) rfl;unfold MY at hk;simp only[SM,SI,Tm] at hk;have hlen:(AD enc xs).length=xs.length:=Gz enc xs;have hkl:∀p∈AD enc xs,p.1.length≤maxLen:=λp hp=>by
  obtain⟨y,hy,rfl⟩:=List.mem_map.1 hp;have:=hk.2 y hy;have e:maxLen=9223372036854775807:=rfl;rw[e];simpa[Q3] using this
 obtain⟨D0,d1,d2,d3⟩:=Q1 (k:=9) Tryz.underlying9 h3 h4 hkl (by rw[hlen];have:=hk.1;have e:maxLen=9223372036854775807:=rfl;omega);have hkb:k<w.heap.size:=(Array.getElem?_eq_some_iff.1 h1).1;have hcell:w.cell? ⟨k,0,none⟩=some (.map (some b)):=by simp[World.cell?,h1]
 have hseq:SeqGives Fence.wide 2 Tryz.prog 74 #[.pointer (some ⟨k,0,none⟩)] encStr (λss=>ss.Perm (strKeys D0)) (Maps.size D0) w:=
  AnyZ.keys_gives (ρ:=Tryz.keys50_ren) { Tryz.keys50 with } Fence.wide _ trivial rfl (by omega) k b es.size D0 w hkb hcell d1
 have hc:=AnyZ.sorted_in Tryz.sorted49 Fence.wide 5 trivial trivial trivial trivial rfl (by omega) (MD _) (enters_of Tryz.func73 (by kernel_rfl) rfl) 74 #[.pointer (some ⟨k,0,none⟩)] trivial (enters_of Tryz.func74 (by kernel_rfl) rfl) _ (Maps.size D0) (by rw[d3,hlen];have:=hk.1;have e:maxLen=9223372036854775807:=rfl;omega) (by rw[d3,hlen];exact hk.1) w hseq;refine(callsIn_wide.1 hc).mono ?_;rintro e w' ⟨v,ss,rfl,hS,hrow,hnil,hb⟩;have hp:ss.Perm (xs.map (·.1)):=hS.trans (by rw[← Ox enc xs];exact d2);have e1:ss.mergeSort (λx y=>decide (x≤y))=K5 xs:=mergeSort_of_perm hp;have e3:ss.length=(K5 xs).length:=by rw[← e1,List.length_mergeSort]
 rw[e1,e3] at hrow;exact⟨_,v,_,Z,rfl,⟨v,rfl,rfl⟩,rfl,hs.newrow hb hrow⟩
open Go Go.RowKit
set_option linter.unusedSimpArgs false
set_option maxRecDepth 100000
set_option maxHeartbeats 4000000
@[reducible] def Ah (kc:Nat) (x:Ap):(Value→List Rp)×List (List Rp):=(λr=>[AG 4 (Ay Ab x.fState),rv r,Ai x.fDone],Ay (eP kc) x.fCalls)
theorem PI:∃inf,Tryz.prog.info? 88=some inf∧inf.zero=some (.pointer none)∧inf.size=1∧inf.bytes=8:=by
  have key:(Tryz.prog.info? 88).map (λi=>(i.zero,i.size,i.bytes))=some (some (.pointer none),1,8):=by kernel_rfl
  obtain⟨inf,h1,h2⟩:=Option.map_eq_some_iff.1 key;simp only[Prod.mk.injEq] at h2;exact⟨inf,h1,h2.1,h2.2.1,h2.2.2⟩
theorem QM (parts:List (Nat×Value)):Tryz.prog.built 68 parts=Instr.fill (λi=>(#[(0,1),(1,1),(2,1)]:Array (Nat×Nat))[i]?) #[(.int .i64 0),((.map none)),((.map none))] parts:=by kernel_rfl
theorem Kh {n:Nat}{c:Cx}{l:Fr}{H:List Ent}{d:Option Nat}{ty:TypeId}{pos:String}{af:Array Edge}{g:Option (Nat×Bool)}{x1:Operand}{r1:Rp}(h1:ev l x1=some r1)(u1:r1.one=true){x2:Operand}{r2:Rp}(h2:ev l x2=some r2)(u2:r2.one=true):Bo Tryz.prog n c l H { dst:=d,op:=.build 68 #[(1,x1),(2,x2)],type:=ty,pos:=pos,after:=af,guard:=g } (Bb [Ai 0,r1,r2]):=λa w Z ha _=>by
  have p1:=ha.ev h1;have c1:=Bz (r1.hone u1 Z _ p1);have p2:=ha.ev h2;have c2:=Bz (r2.hone u2 Z _ p2);have hb:Tryz.prog.built 68 [(1,a.eval x1),(2,a.eval x2)]=some #[(.int .i64 0),a.eval x1,a.eval x2]:=by
    rw[QM];generalize a.eval x1=v1 at *;generalize a.eval x2=v2 at *;simp[Instr.fill,c1,c2]
  refine⟨.agg #[(.int .i64 0),a.eval x1,a.eval x2],⟨[(.int .i64 0),a.eval x1,a.eval x2],rfl,rfl,p1,p2,trivial⟩,?_⟩;have:=run_build w 68 #[(1,a.eval x1),(2,a.eval x2)] _ (by simpa using hb);simp[execOp,this]
theorem QL (parts:List (Nat×Value)):Tryz.prog.built 87 parts=Instr.fill (λi=>(#[(0,1),(1,1),(2,1)]:Array (Nat×Nat))[i]?) #[((.slice none 0 0)),((.slice none 0 0)),(.int .i64 0)] parts:=by kernel_rfl
theorem Mc {n:Nat}{c:Cx}{l:Fr}{H:List Ent}{d:Option Nat}{ty:TypeId}{pos:String}{af:Array Edge}{g:Option (Nat×Bool)}{x0:Operand}{r0:Rp}(h0:ev l x0=some r0)(u0:r0.one=true):Bo Tryz.prog n c l H { dst:=d,op:=.build 87 #[(0,x0)],type:=ty,pos:=pos,after:=af,guard:=g } (Bb [r0,rv (.slice none 0 0),Ai 0]):=λa w Z ha _=>by
  have p0:=ha.ev h0;have c0:=Bz (r0.hone u0 Z _ p0);have hb:Tryz.prog.built 87 [(0,a.eval x0)]=some #[a.eval x0,((.slice none 0 0)),(.int .i64 0)]:=by
    rw[QL];generalize a.eval x0=v0 at *;simp[Instr.fill,c0]
  refine⟨.agg #[a.eval x0,((.slice none 0 0)),(.int .i64 0)],⟨[a.eval x0,((.slice none 0 0)),(.int .i64 0)],rfl,p0,rfl,rfl,trivial⟩,?_⟩;have:=run_build w 87 #[(0,a.eval x0)] _ (by simpa using hb);simp[execOp,this]
theorem Rv  (r:(AI×(List Ap)×(List AA)))(h:Rw=some r):Fn Tryz.prog GE 16 [] [] (λR H=>∃u0:Nat,∃u0_1:Nat,∃u0_2:Nat,∃u0_p1:Value,∃u0_p2:Value,R=rP u0 0∧H=[.blk u0 [Ai r.1.fNow,rv (.map (some u0_1)),rv (.map (some u0_2))] 68,.map u0_1 (AD (mP u0_1) r.1.fEntities),.map u0_2 (AD (mP u0_2) r.1.fCalls),.poolw u0_1 u0_p1 87 88 1 (Ay (Ah u0_2) r.2.1) none,.pool u0_2 u0_p2 44 (Ay Al r.2.2)]):=by
 refine enter (n:=5) Tryz.func16 Aa Tryz.ntmps16 Aa (λw Z=>?_);unfold Rw at h;refine Af (wa Aa (B1 (IY (e:=87) (re:=88) (rz:=1) Aa (λb1=>?_))));refine Jz (e:=44) Aa (λb2=>?_);refine wv (r:=Bb [Ai 0,rv (.map (some b1)),rv (.map (some b2))]) (Kh Aa Aa Aa Aa) (B6 Aa Aa (λb3=>?_));refine wa Aa (As (Av (CA (H2:=[.blk b3 [Ai 0,rv (.map (some b1)),rv (.map (some b2))] 68,.map b1 (AD (mP b1) ([]:List (An×Int))),.map b2 (AD (mP b2) ([]:List (An×Int))),.poolw b1 (.tuple #[]) 87 88 1 (Ay (Ah b2) ([]:List Ap)) none,.pool b2 (.tuple #[]) 44 (Ay Al ([]:List AA))]) ((Ak (i:=0) Aa).trans (SH _ ((Ak (i:=3) Aa).trans (SH _ ((Ak (i:=1) Aa).trans (SH _ ((Ak (i:=1) Aa).trans (SH _ (SN _))))))))) ?_)));obtain rfl:=Aw h;exact Au (BC Tryz.results16 (AH Aa)) (sC (sC (sC (sC (sC sN))))) ⟨b3,b1,b2,(.tuple #[]),(.tuple #[]),Aa,Aa⟩
theorem HY (ha:Nat)(hb:Nat)(hd:Nat)(d:AI)(r:Bool)(h:Rc d=some r):Fn Tryz.prog GE 44 [rP ha 0] [.blk ha [Ai d.fNow,rv (.map (some hb)),rv (.map (some hd))] 68] (λR H=>R=rB r∧H=[.blk ha [Ai d.fNow,rv (.map (some hb)),rv (.map (some hd))] 68]):=by
 refine enter (n:=12) Tryz.func44 Aa Tryz.ntmps44 Aa (λw Z=>?_);unfold Rc at h;refine Af (wa Aa (As (AL [(2,rB true)] [.blk ha [Ai d.fNow,rv (.map (some hb)),rv (.map (some hd))] 68] ?_ ?_)))
 ·refine Ar (wm Aa (wv (r:=rB true) (Ol ⟨_,Tryz.underlying41⟩ Aa) (wm Aa (Bk (b:=true) Aa Aa Aa (wm Aa (Bk (b:=true) Aa Aa Aa (wv (Bc Aa) (Bk (b:=true) Aa Aa Aa (vF Gm Aa L9 (Bk (b:=true) Aa Aa Aa (vL 0 LD Aa (Bk (b:=true) Aa Aa Aa (wv (r:=rB true) (Om (v:=some hb) M7 Aa) (wv (r:=rB true) (At (b:=true) Aa Aa Aa) (wa Aa (Ao ?_))))))))))))))));exact wt
 refine Av ?_;obtain rfl:=Aw h;exact Au (BC Tryz.results44 (AH Aa)) (sC sN) ⟨Aa,Aa⟩
theorem I7 (F:Nat)(hd:Nat)(hb:Nat)(ha:Nat)(hi:Value)(hh:Value)(d:AI)(d_p1:(List Ap))(d_p2:(List AA))(op:A3)(now:Int)(r:Int×AI×(List Ap)×(List AA))(h:HV F d d_p1 d_p2 op now=some r):Fn Tryz.prog GE 18 [rP hd 0,Bb (Aj op),Ai now] [.blk hd [Ai d.fNow,rv (.map (some hb)),rv (.map (some ha))] 68,.map hb (AD (mP hb) d.fEntities),.map ha (AD (mP ha) d.fCalls),.poolw hb hi 87 88 1 (Ay (Ah ha) d_p1) none,.pool ha hh 44 (Ay Al d_p2)] (λR H=>∃w0_p1:Value,∃w0_p2:Value,R=Ai r.1∧H=[.blk hd [Ai r.2.1.fNow,rv (.map (some hb)),rv (.map (some ha))] 68,.map hb (AD (mP hb) r.2.1.fEntities),.map ha (AD (mP ha) r.2.1.fCalls),.poolw hb w0_p1 87 88 1 (Ay (Ah ha) r.2.2.1) none,.pool ha w0_p2 44 (Ay Al r.2.2.2)]):=by
 refine enter (n:=121) Tryz.func18 Aa Tryz.ntmps18 Aa (λw Z=>?_);unfold HV at h;refine Af (B6 Aa Aa (λb1=>?_));refine wa Aa (As (Aq (Af (wm Aa (M4 (Hr:=[.blk b1 (Aj op) 25,.map hb (AD (mP hb) d.fEntities),.map ha (AD (mP ha) d.fCalls),.poolw hb hi 87 88 1 (Ay (Ah ha) d_p1) none,.pool ha hh 44 (Ay Al d_p2)]) OS (HY hd hb ha d true Aa) Aa ((Ak (i:=1) Aa).trans (SH _ (SN _))) Aa ?_)))));rintro _ _ ⟨rfl,rfl⟩;refine wv (Cg Aa) (As (DZ Aa (Dg Aa) (A0 (AO (Aq (Af (wv (Bd (i:=1) Hh Ei Aa Aa Aa Aa) (ob h λr2 e4 h3=>BQ Tryz.call36 (Mh F op r2 e4) Aa (wa Aa (B1 (wm Aa (wv (CZ Aa Aa) (As (cz h3 Aa (λc5 h6=>?_) (λc5 h7=>?_)))))))))))))))
 ·refine Af (wm Aa (wa Aa (As (Av (Ad ?_)))));obtain rfl:=Aw h6;exact Au (BC LC (AH Aa)) (sC (sS (sC (sC (sC (sC sN)))))) ⟨hi,hh,Aa,Aa⟩
 ·refine A0 (AO (Aq (AL [(0,rP hd 0),(2,Ai now),(4,rP b1 0),(26,rB ((decide (now<0))||(decide (1073741824<now))))] [.blk hd [Ai d.fNow,rv (.map (some hb)),rv (.map (some ha))] 68,.blk b1 (Aj op) 25,.map hb (AD (mP hb) d.fEntities),.map ha (AD (mP ha) d.fCalls),.poolw hb hi 87 88 1 (Ay (Ah ha) d_p1) none,.pool ha hh 44 (Ay Al d_p2)] ?_ ?_)))
  ·refine Ar (wm Aa (wv (CO Aa Aa) (wm Aa (AQ (decide (now<0)) (λc8=>?_) (λc8=>?_)))))
   ·refine wf c8 (wf c8 (wv (r:=rB true) (At Aa c8 Aa) (Ao ?_)));exact BP c8
   ·refine wo c8 (wm Aa (wo c8 (wv (De Aa Aa) (Er Aa c8 Aa (Ao ?_)))));exact BP c8
  refine cz h7 Aa (λc9 h2=>?_) (λc9 h4=>?_)
  ·refine Af (wa Aa (As (Av (Ad ?_))));obtain rfl:=Aw h2;exact Au (BC LC (AH Aa)) (sC (sS (sC (sC (sC (sC sN)))))) ⟨hi,hh,Aa,Aa⟩
  ·refine A0 (AO (Aq (Af (wm Aa (wm Aa (wv (Bc Aa) (vF Gm Aa Cq (vL 0 Dk Aa (wv (CO Aa Aa) (As (cz h4 Aa (λh5 h8=>?_) (λh5 h9=>?_))))))))))))
   ·refine Af (wa Aa (As (Av (Ad ?_))));obtain rfl:=Aw h8;exact Au (BC LC (AH Aa)) (sC (sS (sC (sC (sC (sC sN)))))) ⟨hi,hh,Aa,Aa⟩
   ·refine A0 (AO (Aq (Aq (DI [0,2,4] [⟨[],rP hd 0,0⟩,⟨[0],rP hd 0,0⟩,⟨[1],rP hd 2,0⟩,⟨[2],rv (.map (some ha)),1⟩,⟨[],rP b1 1,0⟩,⟨[4],rS op.fID,1⟩,⟨[3,5],C4 [Es ha (A2 d.fCalls op.fID (-1)) 0,rB (BG d.fCalls op.fID)],1⟩,⟨[6],C4 [Es ha (A2 d.fCalls op.fID (-1)) 0,rB (BG d.fCalls op.fID)],0⟩,⟨[7],Es ha (A2 d.fCalls op.fID (-1)) 0,0⟩,⟨[7],rB (BG d.fCalls op.fID),0⟩,⟨[8],Es ha (A2 d.fCalls op.fID (-1)) 0,0⟩,⟨[9],rB (BG d.fCalls op.fID),0⟩] [8,9,0,2,4] ?_ ?_))))
    ·refine oq (A5 Aa) (oq (Bc Aa) (oq (AS Gm Aa Qh Aa Aa) (of (B3 (i:=0) Ql Aa Aa Aa) (oq (AS BS Aa Dm Aa Aa) (of (B3 (i:=1) Dx Aa Aa Aa) (of (GC (enc:=(mP ha)) (xs:=d.fCalls) (z:=(-1)) (i:=3) Qe DM Rl (P7 ha) Aa Aa Aa) (oq (A5 Aa) (oq (AJ Aa Aa) (oq (AJ Aa Aa) (oq (AC Aa) (oq (AC Aa) ?_)))))))))));exact Du
    refine AO (Af (wm Aa (As (cz h9 Aa (λhA hB=>?_) (λhA hC=>?_)))))
    ·refine Aq (Aq (ck hB λg17 hD=>ck hD λg19 hE=>BV 5 [0,2,4,8] [⟨[],Es ha (A2 d.fCalls op.fID (-1)) 0,none,none,none⟩,⟨[0],Es ha (A2 d.fCalls op.fID (-1)) 0,none,none,none⟩,⟨[1],Es ha (A2 d.fCalls op.fID (-1)) 0,none,none,none⟩,⟨[2],Bb (Aj ((Ae d_p2 (A2 d.fCalls op.fID (-1))).fOp)),none,none,none⟩,⟨[],Bb (Aj op),none,none,none⟩] ?_ (λβ=>?_)))
     ·refine Cf (A5 Aa) (Cf (CY Aa g17) (Cf (Lh Io Aa Ei Aa g17 Aa) (HR (GD (enc:=Al) (xs:=d_p2) (j:=5) Hh Ei Aa Aa g19 Aa Aa) (HR (Bd (i:=1) Hh Ei Aa Aa Aa Aa) ?_))));exact K0
     refine Ct (H1:=[.blk hd [Ai d.fNow,rv (.map (some hb)),rv (.map (some ha))] 68,.blk b1 (Aj op) 25,.map hb (AD (mP hb) d.fEntities),.map ha (AD (mP ha) d.fCalls),.poolw hb hi 87 88 1 (Ay (Ah ha) d_p1) none,.pool ha hh 44 (Ay Al d_p2)]) [44,45,46,47,48,0,2,4,8] ?_;refine ob hE λhG hH hI=>BQ Tryz.call46 (Q5 F ((Ae d_p2 (A2 d.fCalls op.fID (-1))).fOp) op hG hH) Aa (wv (Cg Aa) (As (cz hI Aa (λhJ hK=>?_) (λhJ hL=>?_))))
     ·refine Af (wa Aa (As (Av (Ad (Ad ?_)))));obtain rfl:=Aw hK;exact Au (BC LC (AH Aa)) (sC (sS (sC (sC (sC (sC sN)))))) ⟨hi,hh,Aa,Aa⟩
     ·refine A0 (AO (Af (wm Aa (wm Aa (wv (Bc Aa) (vF Gm Aa Cq (BR (i:=0) Cq Aa Aa (Cc Aa) Aa Aa (cs':=[Ai now,rv (.map (some hb)),rv (.map (some ha))]) Aa (H':=[.blk hd [Ai now,rv (.map (some hb)),rv (.map (some ha))] 68,.blk b1 (Aj op) 25,.map hb (AD (mP hb) d.fEntities),.map ha (AD (mP ha) d.fCalls),.poolw hb hi 87 88 1 (Ay (Ah ha) d_p1) none,.pool ha hh 44 (Ay Al d_p2)]) Aa (B1 (wa Aa (As (Av (Ad ?_))))))))))));obtain rfl:=Aw hL;exact Au (BC LC (AH Aa)) (sC (sS (sC (sC (sC (sC sN)))))) ⟨hi,hh,Aa,Aa⟩
    ·refine A0 (AO (Aq (DI [0,2,4] [⟨[],rP hd 0,0⟩,⟨[0],rP hd 0,0⟩,⟨[1],rP hd 1,0⟩,⟨[2],rv (.map (some hb)),1⟩,⟨[],rP b1 0,0⟩,⟨[4],rS op.fEntity,1⟩,⟨[3,5],C4 [Es hb (A2 d.fEntities op.fEntity (-1)) 0,rB (BG d.fEntities op.fEntity)],1⟩,⟨[6],C4 [Es hb (A2 d.fEntities op.fEntity (-1)) 0,rB (BG d.fEntities op.fEntity)],0⟩,⟨[7],Es hb (A2 d.fEntities op.fEntity (-1)) 0,0⟩,⟨[7],rB (BG d.fEntities op.fEntity),0⟩,⟨[8],Es hb (A2 d.fEntities op.fEntity (-1)) 0,0⟩,⟨[9],rB (BG d.fEntities op.fEntity),0⟩] [10,11,0,2,4] ?_ ?_)))
     ·refine oq (A5 Aa) (oq (Bc Aa) (oq (AS Gm Aa L9 Aa Aa) (of (B3 (i:=0) LD Aa Aa Aa) (oq (AS BS Aa Dm Aa Aa) (of (B3 (i:=1) Dx Aa Aa Aa) (of (GC (enc:=(mP hb)) (xs:=d.fEntities) (z:=(-1)) (i:=2) M7 DM Qd (P7 hb) Aa Aa Aa) (oq (A5 Aa) (oq (AJ Aa Aa) (oq (AJ Aa Aa) (oq (AC Aa) (oq (AC Aa) ?_)))))))))));exact Du
     refine AO (Aq (AL [(0,rP hd 0),(2,Ai now),(4,rP b1 0),(10,Es hb (A2 d.fEntities op.fEntity (-1)) 0),(11,rB (BG d.fEntities op.fEntity)),(82,rB ((decide ((d.fCalls.length:Int)=256))||((!(BG d.fEntities op.fEntity))&&(decide ((d.fEntities.length:Int)=256)))))] [.blk hd [Ai d.fNow,rv (.map (some hb)),rv (.map (some ha))] 68,.blk b1 (Aj op) 25,.map hb (AD (mP hb) d.fEntities),.map ha (AD (mP ha) d.fCalls),.poolw hb hi 87 88 1 (Ay (Ah ha) d_p1) none,.pool ha hh 44 (Ay Al d_p2)] ?_ ?_))
     ·refine Ar (wm Aa (wv (Bc Aa) (vF Gm Aa Qh (vL 0 Ql Aa (wv (r:=Ai (d.fCalls.length:Int)) (Pw (N:=d.fCalls.length) (i:=3) Qe Aa Aa (Gz _ _)) (wv (Bv Aa Aa) (wm Aa (AQ (decide ((d.fCalls.length:Int)=256)) (λhk=>?_) (λhk=>?_)))))))))
      ·refine wf hk (wf hk (wf hk (wu (wu (wu (wu (wu (wu (wf hk (wv (r:=rB true) (At Aa hk Aa) (Ao ?_)))))))))));exact BP hk
      ·refine wo hk (wm Aa (wo hk (wv (Cg Aa) (wo hk (wm Aa (AQ (!(BG d.fEntities op.fEntity)) (λhj=>?_) (λhj=>?_)))))))
       ·refine wo hj (wm Aa (wo hj (wv (Bc Aa) (wo hj (vF Gm Aa L9 (wo hj (vL 0 LD Aa (wo hj (wv (r:=Ai (d.fEntities.length:Int)) (Pw (N:=d.fEntities.length) (i:=2) M7 Aa Aa (Gz _ _)) (wo hj (wv (Bv Aa Aa) (wo hk (D4 Aa hj Aa (Er Aa hk Aa (Ao ?_)))))))))))))));exact BP (And.intro hk hj)
       ·refine wf hj (wf hj (wf hj (wf hj (wf hj (wf hj (wo hk (wv (r:=rB false) (A4 Aa hj Aa) (Er Aa hk Aa (Ao ?_)))))))));exact BP (And.intro hk hj)
     refine cz hC Aa (λhN hO=>?_) (λhN hP=>?_)
     ·refine Af (wa Aa (As (Av (Ad ?_))));obtain rfl:=Aw hO;exact Au (BC LC (AH Aa)) (sC (sS (sC (sC (sC (sC sN)))))) ⟨hi,hh,Aa,Aa⟩
     ·refine A0 (AO (Aq (Af (wm Aa (wv (Cg Aa) (As (cz hP Aa (λhQ hR=>?_) (λhQ hS=>?_))))))))
      ·refine Af (ob hR λhe hT hU=>BQ Tryz.call47 (KT he hT) Aa (wv (r:=Bb [AG 4 (Ay Ab he),rv (.slice none 0 0),Ai 0]) (Mc Aa Aa) (B6 Aa Aa (λhw=>?_))));refine wa Aa (As (BV 7 [0,2,4,10] [⟨[],rP hd 0,none,none,none⟩,⟨[0],rP hd 0,none,none,none⟩,⟨[1],rP hd 1,none,none,none⟩,⟨[2],rv (.map (some hb)),none,none,none⟩,⟨[],rP b1 0,none,none,none⟩,⟨[4],rS op.fEntity,none,none,none⟩,⟨[],rP hw 0,none,none,none⟩] ?_ (λβ=>?_)))
       ·refine Cf (A5 Aa) (Cf (Bc Aa) (Cf (AS Gm Aa L9 Aa Aa) (HR (B3 (i:=1) LD Aa Aa Aa) (Cf (AS BS Aa Dm Aa Aa) (HR (B3 (i:=2) Dx Aa Aa Aa) (Cf (A5 Aa) ?_))))));exact K0
       refine Ct (H1:=[.blk hw [AG 4 (Ay Ab he),rv (.slice none 0 0),Ai 0] 87,.blk hd [Ai d.fNow,rv (.map (some hb)),rv (.map (some ha))] 68,.blk b1 (Aj op) 25,.map hb (AD (mP hb) d.fEntities),.map ha (AD (mP ha) d.fCalls),.poolw hb hi 87 88 1 (Ay (Ah ha) d_p1) none,.pool ha hh 44 (Ay Al d_p2)]) [88,89,90,91,92,93,94,0,2,4,10] ?_;refine WL.nilrow (e:=88) (sz:=1) (WL.adoptW (encw:=(Ah ha)) (xs:=d_p1) (y:=(Ap.mk he ([]:List Int) 0)) (Hr:=[.blk hd [Ai d.fNow,rv (.map (some hb)),rv (.map (some ha))] 68,.blk b1 (Aj op) 25,.map hb (AD (mP hb) d.fEntities),.map ha (AD (mP ha) d.fCalls),.pool ha hh 44 (Ay Al d_p2)]) ((Ak (i:=1) Aa).trans (SH _ ((Ak (i:=0) Aa).trans (SH _ ((Ak (i:=4) Aa).trans (SH _ (SN _))))))) [10,94] ⟨Aa,Aa,trivial⟩ Aa Aa (λhp=>?_));refine Je (enc:=(mP hb)) (xs:=d.fEntities) (v:=(d_p1.length:Int)) (i:=3) M7 DM Aa Aa Aa Aa (H':=[.poolw hb hp 87 88 1 (Ay (Ah ha) (d_p1++[(Ap.mk he ([]:List Int) 0)])) none,.blk hd [Ai d.fNow,rv (.map (some hb)),rv (.map (some ha))] 68,.blk b1 (Aj op) 25,.map hb (AD (mP hb) (AY d.fEntities op.fEntity (d_p1.length:Int))),.map ha (AD (mP ha) d.fCalls),.pool ha hh 44 (Ay Al d_p2)]) Aa (B1 (wm Aa (wm Aa (wv (Bc Aa) (vF Gm Aa Cq (BR (i:=1) Cq Aa Aa (Cc Aa) Aa Aa (cs':=[Ai now,rv (.map (some hb)),rv (.map (some ha))]) Aa (H':=[.poolw hb hp 87 88 1 (Ay (Ah ha) (d_p1++[(Ap.mk he ([]:List Int) 0)])) none,.blk hd [Ai now,rv (.map (some hb)),rv (.map (some ha))] 68,.blk b1 (Aj op) 25,.map hb (AD (mP hb) (AY d.fEntities op.fEntity (d_p1.length:Int))),.map ha (AD (mP ha) d.fCalls),.pool ha hh 44 (Ay Al d_p2)]) Aa (B1 (wv (Bd (i:=2) Hh Ei Aa Aa Aa Aa) (ob hU λhf hV hW=>BQ Tryz.call48 (JC F op hf hV) Aa (wm Aa (wv (r:=Bb [rS hf.fEntity,rS hf.fID,rS hf.fOp,AG 1 (Ay Am hf.fArgs),Ai 0,rv (.slice none 0 0),Ai now,Ai (-1)]) (Gh Aa Aa Aa Aa Aa) (B6 Aa Aa (λhx=>?_)))))))))))));refine wa Aa (B1 (wm Aa (wm Aa (ck hW λhy hX=>WL.takeout (encw:=(Ah ha)) (xs:=d_p1++[(Ap.mk he ([]:List Int) 0)]) (i:=(d_p1.length:Int)) (Hr:=[.blk hx [rS hf.fEntity,rS hf.fID,rS hf.fOp,AG 1 (Ay Am hf.fArgs),Ai 0,rv (.slice none 0 0),Ai now,Ai (-1)] 44,.blk hd [Ai now,rv (.map (some hb)),rv (.map (some ha))] 68,.blk b1 (Aj op) 25,.map hb (AD (mP hb) (AY d.fEntities op.fEntity (d_p1.length:Int))),.map ha (AD (mP ha) d.fCalls),.pool ha hh 44 (Ay Al d_p2)]) ((Ak (i:=1) Aa).trans (SH _ (SN _))) hy [10,94,104,105] ⟨Aa,Aa,Aa,Aa,trivial⟩ (λhl hn=>?_)))));refine KQ (H':=[.blk hl [AG 4 (Ay Ab ((Ae (d_p1++[(Ap.mk he ([]:List Int) 0)]) (d_p1.length:Int)).fState)),rv hn,Ai ((Ae (d_p1++[(Ap.mk he ([]:List Int) 0)]) (d_p1.length:Int)).fDone)] 87,.row hn 88 1 (Ay (eP ha) ((Ae (d_p1++[(Ap.mk he ([]:List Int) 0)]) (d_p1.length:Int)).fCalls)),.poolw hb hp 87 88 1 (Ay (Ah ha) (d_p1++[(Ap.mk he ([]:List Int) 0)])) (some (C6 (d_p1.length:Int),(hl,hn))),.blk hx [rS hf.fEntity,rS hf.fID,rS hf.fOp,AG 1 (Ay Am hf.fArgs),Ai 0,rv (.slice none 0 0),Ai now,Ai (-1)] 44,.blk hd [Ai now,rv (.map (some hb)),rv (.map (some ha))] 68,.blk b1 (Aj op) 25,.map hb (AD (mP hb) (AY d.fEntities op.fEntity (d_p1.length:Int))),.map ha (AD (mP ha) d.fCalls),.pool ha hh 44 (Ay Al d_p2)]) Aa (wv (Bc Aa) (vF H3 Aa KP (vL 0 OT Aa (wm Aa (WL.upBlk (i:=3) (cs':=[rS hf.fEntity,rS hf.fID,rS hf.fOp,AG 1 (Ay Am hf.fArgs),Ai 0,AG 4 (Ay Ab ([]:List Ac)),Ai now,Ai (-1)]) Aa ⟨Up.refl _,Up.refl _,Up.refl _,Up.refl _,Up.refl _,Up.le (E7.nil _),Up.refl _,Up.refl _,trivial⟩ (WL.adopt (enc:=Al) (xs:=d_p2) (y:=(AA.mk hf (A6.mk 0 ([]:List Ac)) now (-1))) (Hr:=[.blk hl [AG 4 (Ay Ab ((Ae (d_p1++[(Ap.mk he ([]:List Int) 0)]) (d_p1.length:Int)).fState)),rv hn,Ai ((Ae (d_p1++[(Ap.mk he ([]:List Int) 0)]) (d_p1.length:Int)).fDone)] 87,.row hn 88 1 (Ay (eP ha) ((Ae (d_p1++[(Ap.mk he ([]:List Int) 0)]) (d_p1.length:Int)).fCalls)),.poolw hb hp 87 88 1 (Ay (Ah ha) (d_p1++[(Ap.mk he ([]:List Int) 0)])) (some (C6 (d_p1.length:Int),(hl,hn))),.blk hd [Ai now,rv (.map (some hb)),rv (.map (some ha))] 68,.blk b1 (Aj op) 25,.map hb (AD (mP hb) (AY d.fEntities op.fEntity (d_p1.length:Int))),.map ha (AD (mP ha) d.fCalls)]) ((Ak (i:=3) Aa).trans (SH _ ((Ak (i:=7) Aa).trans (SH _ (SN _))))) [12,103,109] ⟨Aa,Aa,Aa,trivial⟩ Aa (λhs=>?_)))))));refine Bj (ys:=([(d_p2.length:Int)]:List Int)) (enc:=(eP ha)) (css:=[[Es ha (d_p2.length:Int) 0]]) (xs:=[.tmp 109]) L5 Qg Rl Aa Aa Aa ⟨IK.one Aa (Up.refl _),trivial⟩ Aa (Ls ha) Aa Aa Aa (λht=>?_);refine ck hX λhY hZ=>Exists.elim PI λinf hinf=>D9 (xs:=(Ae (d_p1++[(Ap.mk he ([]:List Int) 0)]) (d_p1.length:Int)).fCalls) (ys:=([(d_p2.length:Int)]:List Int)) (enc:=(eP ha)) (i:=3) L5 hinf.1 hinf.2.1 hinf.2.2.1 hinf.2.2.2 Aa Aa Aa Aa Aa (NJ.w (i:=0) Aa Aa) (Ls ha) (PT ha) hY Aa (λhq=>?_);refine wv (Bc Aa) (vF H3 Aa KP (BR (i:=3) KP Aa Aa (HO (i:=0) Aa) Aa Aa (cs':=[AG 4 (Ay Ab ((Ae (d_p1++[(Ap.mk he ([]:List Int) 0)]) (d_p1.length:Int)).fState)),rv hq,Ai ((Ae (d_p1++[(Ap.mk he ([]:List Int) 0)]) (d_p1.length:Int)).fDone)]) Aa (H':=[.row hq 88 1 (Ay (eP ha) (((Ae (d_p1++[(Ap.mk he ([]:List Int) 0)]) (d_p1.length:Int)).fCalls)++([(d_p2.length:Int)]:List Int))),.row (.slice (some ⟨ht,0,none⟩) 1 1) 88 1 (Ay (eP ha) ([(d_p2.length:Int)]:List Int)),.pool ha hs 44 (Ay Al (d_p2++[(AA.mk hf (A6.mk 0 ([]:List Ac)) now (-1))])),.blk hl [AG 4 (Ay Ab ((Ae (d_p1++[(Ap.mk he ([]:List Int) 0)]) (d_p1.length:Int)).fState)),rv hq,Ai ((Ae (d_p1++[(Ap.mk he ([]:List Int) 0)]) (d_p1.length:Int)).fDone)] 87,.poolw hb hp 87 88 1 (Ay (Ah ha) (d_p1++[(Ap.mk he ([]:List Int) 0)])) (some (C6 (d_p1.length:Int),(hl,hn))),.blk hd [Ai now,rv (.map (some hb)),rv (.map (some ha))] 68,.blk b1 (Aj op) 25,.map hb (AD (mP hb) (AY d.fEntities op.fEntity (d_p1.length:Int))),.map ha (AD (mP ha) d.fCalls)]) Aa (As (Aq (BV 7 [0,4,12] [⟨[],rP hd 0,none,none,none⟩,⟨[0],rP hd 0,none,none,none⟩,⟨[1],rP hd 2,none,none,none⟩,⟨[2],rv (.map (some ha)),none,none,none⟩,⟨[],rP b1 1,none,none,none⟩,⟨[4],rS op.fID,none,none,none⟩,⟨[],Es ha (d_p2.length:Int) 0,none,none,none⟩] ?_ (λβ=>?_))))))
       ·refine Cf (A5 Aa) (Cf (Bc Aa) (Cf (AS Gm Aa Qh Aa Aa) (HR (B3 (i:=5) Ql Aa Aa Aa) (Cf (AS BS Aa Dm Aa Aa) (HR (B3 (i:=6) Dx Aa Aa Aa) (Cf (A5 Aa) ?_))))));exact K0
       refine Ct (H1:=[.row hq 88 1 (Ay (eP ha) (((Ae (d_p1++[(Ap.mk he ([]:List Int) 0)]) (d_p1.length:Int)).fCalls)++([(d_p2.length:Int)]:List Int))),.row (.slice (some ⟨ht,0,none⟩) 1 1) 88 1 (Ay (eP ha) ([(d_p2.length:Int)]:List Int)),.pool ha hs 44 (Ay Al (d_p2++[(AA.mk hf (A6.mk 0 ([]:List Ac)) now (-1))])),.blk hl [AG 4 (Ay Ab ((Ae (d_p1++[(Ap.mk he ([]:List Int) 0)]) (d_p1.length:Int)).fState)),rv hq,Ai ((Ae (d_p1++[(Ap.mk he ([]:List Int) 0)]) (d_p1.length:Int)).fDone)] 87,.poolw hb hp 87 88 1 (Ay (Ah ha) (d_p1++[(Ap.mk he ([]:List Int) 0)])) (some (C6 (d_p1.length:Int),(hl,hn))),.blk hd [Ai now,rv (.map (some hb)),rv (.map (some ha))] 68,.blk b1 (Aj op) 25,.map hb (AD (mP hb) (AY d.fEntities op.fEntity (d_p1.length:Int))),.map ha (AD (mP ha) d.fCalls)]) [114,115,116,117,118,119,120,0,4,12] ?_;refine Je (enc:=(mP ha)) (xs:=d.fCalls) (v:=(d_p2.length:Int)) (i:=8) Qe DM Aa Aa Aa Aa (H':=[.row hq 88 1 (Ay (eP ha) (((Ae (d_p1++[(Ap.mk he ([]:List Int) 0)]) (d_p1.length:Int)).fCalls)++([(d_p2.length:Int)]:List Int))),.row (.slice (some ⟨ht,0,none⟩) 1 1) 88 1 (Ay (eP ha) ([(d_p2.length:Int)]:List Int)),.pool ha hs 44 (Ay Al (d_p2++[(AA.mk hf (A6.mk 0 ([]:List Ac)) now (-1))])),.blk hl [AG 4 (Ay Ab ((Ae (d_p1++[(Ap.mk he ([]:List Int) 0)]) (d_p1.length:Int)).fState)),rv hq,Ai ((Ae (d_p1++[(Ap.mk he ([]:List Int) 0)]) (d_p1.length:Int)).fDone)] 87,.poolw hb hp 87 88 1 (Ay (Ah ha) (d_p1++[(Ap.mk he ([]:List Int) 0)])) (some (C6 (d_p1.length:Int),(hl,hn))),.blk hd [Ai now,rv (.map (some hb)),rv (.map (some ha))] 68,.blk b1 (Aj op) 25,.map hb (AD (mP hb) (AY d.fEntities op.fEntity (d_p1.length:Int))),.map ha (AD (mP ha) (AY d.fCalls op.fID (d_p2.length:Int)))]) Aa (B1 (wa Aa (As (Av (WK.putback (y:=(Ap.mk ((Ae (d_p1++[(Ap.mk he ([]:List Int) 0)]) (d_p1.length:Int)).fState) (((Ae (d_p1++[(Ap.mk he ([]:List Int) 0)]) (d_p1.length:Int)).fCalls)++([(d_p2.length:Int)]:List Int)) ((Ae (d_p1++[(Ap.mk he ([]:List Int) 0)]) (d_p1.length:Int)).fDone))) (encw:=(Ah ha)) (xs:=d_p1++[(Ap.mk he ([]:List Int) 0)]) (i:=(d_p1.length:Int)) (Hr:=[.row (.slice (some ⟨ht,0,none⟩) 1 1) 88 1 (Ay (eP ha) ([(d_p2.length:Int)]:List Int)),.pool ha hs 44 (Ay Al (d_p2++[(AA.mk hf (A6.mk 0 ([]:List Ac)) now (-1))])),.blk hd [Ai now,rv (.map (some hb)),rv (.map (some ha))] 68,.blk b1 (Aj op) 25,.map hb (AD (mP hb) (AY d.fEntities op.fEntity (d_p1.length:Int))),.map ha (AD (mP ha) (AY d.fCalls op.fID (d_p2.length:Int)))]) ((Ak (i:=3) Aa).trans (SH _ ((Ak (i:=0) Aa).trans (SH _ ((Ak (i:=2) Aa).trans (SH _ (SN _))))))) hy [] trivial Aa Aa (λv53=>?_))))));refine CA (H2:=[.blk hd [Ai now,rv (.map (some hb)),rv (.map (some ha))] 68,.map hb (AD (mP hb) (AY d.fEntities op.fEntity (d_p1.length:Int))),.map ha (AD (mP ha) (AY d.fCalls op.fID (d_p2.length:Int))),.poolw hb v53 87 88 1 (Ay (Ah ha) (List.set (d_p1++[(Ap.mk he ([]:List Int) 0)]) (C6 (d_p1.length:Int)) (Ap.mk ((Ae (d_p1++[(Ap.mk he ([]:List Int) 0)]) (d_p1.length:Int)).fState) (((Ae (d_p1++[(Ap.mk he ([]:List Int) 0)]) (d_p1.length:Int)).fCalls)++([(d_p2.length:Int)]:List Int)) ((Ae (d_p1++[(Ap.mk he ([]:List Int) 0)]) (d_p1.length:Int)).fDone)))) none,.pool ha hs 44 (Ay Al (d_p2++[(AA.mk hf (A6.mk 0 ([]:List Ac)) now (-1))])),.row (.slice (some ⟨ht,0,none⟩) 1 1) 88 1 (Ay (eP ha) ([(d_p2.length:Int)]:List Int)),.blk b1 (Aj op) 25]) ((Ak (i:=3) Aa).trans (SH _ ((Ak (i:=4) Aa).trans (SH _ ((Ak (i:=4) Aa).trans (SH _ ((Ak (i:=0) Aa).trans (SH _ ((Ak (i:=1) Aa).trans (SH _ (SN _))))))))))) ?_;obtain rfl:=Aw hZ;exact Au (BC LC (AH Aa)) (sC (sC (sC (sC (sC (sS (sS sN))))))) ⟨v53,hs,Aa,Aa⟩
      ·refine A0 (AO (Af (wm Aa (wm Aa (wv (Bc Aa) (vF Gm Aa Cq (BR (i:=0) Cq Aa Aa (Cc Aa) Aa Aa (cs':=[Ai now,rv (.map (some hb)),rv (.map (some ha))]) Aa (H':=[.blk hd [Ai now,rv (.map (some hb)),rv (.map (some ha))] 68,.blk b1 (Aj op) 25,.map hb (AD (mP hb) d.fEntities),.map ha (AD (mP ha) d.fCalls),.poolw hb hi 87 88 1 (Ay (Ah ha) d_p1) none,.pool ha hh 44 (Ay Al d_p2)]) Aa (B1 (wv (Bd (i:=1) Hh Ei Aa Aa Aa Aa) (ob hS λhg ga gb=>BQ Tryz.call48 (JC F op hg ga) Aa (wm Aa (wv (r:=Bb [rS hg.fEntity,rS hg.fID,rS hg.fOp,AG 1 (Ay Am hg.fArgs),Ai 0,rv (.slice none 0 0),Ai now,Ai (-1)]) (Gh Aa Aa Aa Aa Aa) (B6 Aa Aa (λhz=>?_))))))))))))));refine wa Aa (B1 (wm Aa (wm Aa (ck gb λh0 gc=>WL.takeout (encw:=(Ah ha)) (xs:=d_p1) (i:=A2 d.fEntities op.fEntity (-1)) (Hr:=[.blk hz [rS hg.fEntity,rS hg.fID,rS hg.fOp,AG 1 (Ay Am hg.fArgs),Ai 0,rv (.slice none 0 0),Ai now,Ai (-1)] 44,.blk hd [Ai now,rv (.map (some hb)),rv (.map (some ha))] 68,.blk b1 (Aj op) 25,.map hb (AD (mP hb) d.fEntities),.map ha (AD (mP ha) d.fCalls),.pool ha hh 44 (Ay Al d_p2)]) ((Ak (i:=5) Aa).trans (SH _ (SN _))) h0 [10,104,105] ⟨Aa,Aa,Aa,trivial⟩ (λhm ho=>?_)))));refine KQ (H':=[.blk hm [AG 4 (Ay Ab ((Ae d_p1 (A2 d.fEntities op.fEntity (-1))).fState)),rv ho,Ai ((Ae d_p1 (A2 d.fEntities op.fEntity (-1))).fDone)] 87,.row ho 88 1 (Ay (eP ha) ((Ae d_p1 (A2 d.fEntities op.fEntity (-1))).fCalls)),.poolw hb hi 87 88 1 (Ay (Ah ha) d_p1) (some (C6 (A2 d.fEntities op.fEntity (-1)),(hm,ho))),.blk hz [rS hg.fEntity,rS hg.fID,rS hg.fOp,AG 1 (Ay Am hg.fArgs),Ai 0,rv (.slice none 0 0),Ai now,Ai (-1)] 44,.blk hd [Ai now,rv (.map (some hb)),rv (.map (some ha))] 68,.blk b1 (Aj op) 25,.map hb (AD (mP hb) d.fEntities),.map ha (AD (mP ha) d.fCalls),.pool ha hh 44 (Ay Al d_p2)]) Aa (wv (Bc Aa) (vF H3 Aa KP (vL 0 OT Aa (wm Aa (WL.upBlk (i:=3) (cs':=[rS hg.fEntity,rS hg.fID,rS hg.fOp,AG 1 (Ay Am hg.fArgs),Ai 0,AG 4 (Ay Ab ([]:List Ac)),Ai now,Ai (-1)]) Aa ⟨Up.refl _,Up.refl _,Up.refl _,Up.refl _,Up.refl _,Up.le (E7.nil _),Up.refl _,Up.refl _,trivial⟩ (WL.adopt (enc:=Al) (xs:=d_p2) (y:=(AA.mk hg (A6.mk 0 ([]:List Ac)) now (-1))) (Hr:=[.blk hm [AG 4 (Ay Ab ((Ae d_p1 (A2 d.fEntities op.fEntity (-1))).fState)),rv ho,Ai ((Ae d_p1 (A2 d.fEntities op.fEntity (-1))).fDone)] 87,.row ho 88 1 (Ay (eP ha) ((Ae d_p1 (A2 d.fEntities op.fEntity (-1))).fCalls)),.poolw hb hi 87 88 1 (Ay (Ah ha) d_p1) (some (C6 (A2 d.fEntities op.fEntity (-1)),(hm,ho))),.blk hd [Ai now,rv (.map (some hb)),rv (.map (some ha))] 68,.blk b1 (Aj op) 25,.map hb (AD (mP hb) d.fEntities),.map ha (AD (mP ha) d.fCalls)]) ((Ak (i:=3) Aa).trans (SH _ ((Ak (i:=7) Aa).trans (SH _ (SN _))))) [12,103,109] ⟨Aa,Aa,Aa,trivial⟩ Aa (λv64=>?_)))))));refine Bj (ys:=([(d_p2.length:Int)]:List Int)) (enc:=(eP ha)) (css:=[[Es ha (d_p2.length:Int) 0]]) (xs:=[.tmp 109]) L5 Qg Rl Aa Aa Aa ⟨IK.one Aa (Up.refl _),trivial⟩ Aa (Ls ha) Aa Aa Aa (λhu=>?_);refine ck gc λgd ge=>Exists.elim PI λinf hinf=>D9 (xs:=(Ae d_p1 (A2 d.fEntities op.fEntity (-1))).fCalls) (ys:=([(d_p2.length:Int)]:List Int)) (enc:=(eP ha)) (i:=3) L5 hinf.1 hinf.2.1 hinf.2.2.1 hinf.2.2.2 Aa Aa Aa Aa Aa (NJ.w (i:=0) Aa Aa) (Ls ha) (PT ha) gd Aa (λhr=>?_);refine wv (Bc Aa) (vF H3 Aa KP (BR (i:=3) KP Aa Aa (HO (i:=0) Aa) Aa Aa (cs':=[AG 4 (Ay Ab ((Ae d_p1 (A2 d.fEntities op.fEntity (-1))).fState)),rv hr,Ai ((Ae d_p1 (A2 d.fEntities op.fEntity (-1))).fDone)]) Aa (H':=[.row hr 88 1 (Ay (eP ha) (((Ae d_p1 (A2 d.fEntities op.fEntity (-1))).fCalls)++([(d_p2.length:Int)]:List Int))),.row (.slice (some ⟨hu,0,none⟩) 1 1) 88 1 (Ay (eP ha) ([(d_p2.length:Int)]:List Int)),.pool ha v64 44 (Ay Al (d_p2++[(AA.mk hg (A6.mk 0 ([]:List Ac)) now (-1))])),.blk hm [AG 4 (Ay Ab ((Ae d_p1 (A2 d.fEntities op.fEntity (-1))).fState)),rv hr,Ai ((Ae d_p1 (A2 d.fEntities op.fEntity (-1))).fDone)] 87,.poolw hb hi 87 88 1 (Ay (Ah ha) d_p1) (some (C6 (A2 d.fEntities op.fEntity (-1)),(hm,ho))),.blk hd [Ai now,rv (.map (some hb)),rv (.map (some ha))] 68,.blk b1 (Aj op) 25,.map hb (AD (mP hb) d.fEntities),.map ha (AD (mP ha) d.fCalls)]) Aa (As (Aq (BV 7 [0,4,12] [⟨[],rP hd 0,none,none,none⟩,⟨[0],rP hd 0,none,none,none⟩,⟨[1],rP hd 2,none,none,none⟩,⟨[2],rv (.map (some ha)),none,none,none⟩,⟨[],rP b1 1,none,none,none⟩,⟨[4],rS op.fID,none,none,none⟩,⟨[],Es ha (d_p2.length:Int) 0,none,none,none⟩] ?_ (λβ=>?_))))))
       ·refine Cf (A5 Aa) (Cf (Bc Aa) (Cf (AS Gm Aa Qh Aa Aa) (HR (B3 (i:=5) Ql Aa Aa Aa) (Cf (AS BS Aa Dm Aa Aa) (HR (B3 (i:=6) Dx Aa Aa Aa) (Cf (A5 Aa) ?_))))));exact K0
       refine Ct (H1:=[.row hr 88 1 (Ay (eP ha) (((Ae d_p1 (A2 d.fEntities op.fEntity (-1))).fCalls)++([(d_p2.length:Int)]:List Int))),.row (.slice (some ⟨hu,0,none⟩) 1 1) 88 1 (Ay (eP ha) ([(d_p2.length:Int)]:List Int)),.pool ha v64 44 (Ay Al (d_p2++[(AA.mk hg (A6.mk 0 ([]:List Ac)) now (-1))])),.blk hm [AG 4 (Ay Ab ((Ae d_p1 (A2 d.fEntities op.fEntity (-1))).fState)),rv hr,Ai ((Ae d_p1 (A2 d.fEntities op.fEntity (-1))).fDone)] 87,.poolw hb hi 87 88 1 (Ay (Ah ha) d_p1) (some (C6 (A2 d.fEntities op.fEntity (-1)),(hm,ho))),.blk hd [Ai now,rv (.map (some hb)),rv (.map (some ha))] 68,.blk b1 (Aj op) 25,.map hb (AD (mP hb) d.fEntities),.map ha (AD (mP ha) d.fCalls)]) [114,115,116,117,118,119,120,0,4,12] ?_;refine Je (enc:=(mP ha)) (xs:=d.fCalls) (v:=(d_p2.length:Int)) (i:=8) Qe DM Aa Aa Aa Aa (H':=[.row hr 88 1 (Ay (eP ha) (((Ae d_p1 (A2 d.fEntities op.fEntity (-1))).fCalls)++([(d_p2.length:Int)]:List Int))),.row (.slice (some ⟨hu,0,none⟩) 1 1) 88 1 (Ay (eP ha) ([(d_p2.length:Int)]:List Int)),.pool ha v64 44 (Ay Al (d_p2++[(AA.mk hg (A6.mk 0 ([]:List Ac)) now (-1))])),.blk hm [AG 4 (Ay Ab ((Ae d_p1 (A2 d.fEntities op.fEntity (-1))).fState)),rv hr,Ai ((Ae d_p1 (A2 d.fEntities op.fEntity (-1))).fDone)] 87,.poolw hb hi 87 88 1 (Ay (Ah ha) d_p1) (some (C6 (A2 d.fEntities op.fEntity (-1)),(hm,ho))),.blk hd [Ai now,rv (.map (some hb)),rv (.map (some ha))] 68,.blk b1 (Aj op) 25,.map hb (AD (mP hb) d.fEntities),.map ha (AD (mP ha) (AY d.fCalls op.fID (d_p2.length:Int)))]) Aa (B1 (wa Aa (As (Av (WK.putback (y:=(Ap.mk ((Ae d_p1 (A2 d.fEntities op.fEntity (-1))).fState) (((Ae d_p1 (A2 d.fEntities op.fEntity (-1))).fCalls)++([(d_p2.length:Int)]:List Int)) ((Ae d_p1 (A2 d.fEntities op.fEntity (-1))).fDone))) (encw:=(Ah ha)) (xs:=d_p1) (i:=A2 d.fEntities op.fEntity (-1)) (Hr:=[.row (.slice (some ⟨hu,0,none⟩) 1 1) 88 1 (Ay (eP ha) ([(d_p2.length:Int)]:List Int)),.pool ha v64 44 (Ay Al (d_p2++[(AA.mk hg (A6.mk 0 ([]:List Ac)) now (-1))])),.blk hd [Ai now,rv (.map (some hb)),rv (.map (some ha))] 68,.blk b1 (Aj op) 25,.map hb (AD (mP hb) d.fEntities),.map ha (AD (mP ha) (AY d.fCalls op.fID (d_p2.length:Int)))]) ((Ak (i:=3) Aa).trans (SH _ ((Ak (i:=0) Aa).trans (SH _ ((Ak (i:=2) Aa).trans (SH _ (SN _))))))) h0 [] trivial Aa Aa (λh1=>?_))))));refine CA (H2:=[.blk hd [Ai now,rv (.map (some hb)),rv (.map (some ha))] 68,.map hb (AD (mP hb) d.fEntities),.map ha (AD (mP ha) (AY d.fCalls op.fID (d_p2.length:Int))),.poolw hb h1 87 88 1 (Ay (Ah ha) (List.set d_p1 (C6 (A2 d.fEntities op.fEntity (-1))) (Ap.mk ((Ae d_p1 (A2 d.fEntities op.fEntity (-1))).fState) (((Ae d_p1 (A2 d.fEntities op.fEntity (-1))).fCalls)++([(d_p2.length:Int)]:List Int)) ((Ae d_p1 (A2 d.fEntities op.fEntity (-1))).fDone)))) none,.pool ha v64 44 (Ay Al (d_p2++[(AA.mk hg (A6.mk 0 ([]:List Ac)) now (-1))])),.row (.slice (some ⟨hu,0,none⟩) 1 1) 88 1 (Ay (eP ha) ([(d_p2.length:Int)]:List Int)),.blk b1 (Aj op) 25]) ((Ak (i:=3) Aa).trans (SH _ ((Ak (i:=4) Aa).trans (SH _ ((Ak (i:=4) Aa).trans (SH _ ((Ak (i:=0) Aa).trans (SH _ ((Ak (i:=1) Aa).trans (SH _ (SN _))))))))))) ?_;obtain rfl:=Aw ge;exact Au (BC LC (AH Aa)) (sC (sC (sC (sC (sC (sS (sS sN))))))) ⟨h1,v64,Aa,Aa⟩
theorem N1 (F:Nat)(hi:Nat)(hb:Nat)(ha:Nat)(hk:Value)(hg:Value)(d:AI)(d_p1:(List Ap))(d_p2:(List AA))(e:An)(now:Int)(r:AA×Bool×AI×(List Ap)×(List AA))(h:N2 F d d_p1 d_p2 e now=some r):Fn Tryz.prog GE 17 [rP hi 0,rS e,Ai now] [.blk hi [Ai d.fNow,rv (.map (some hb)),rv (.map (some ha))] 68,.map hb (AD (mP hb) d.fEntities),.map ha (AD (mP ha) d.fCalls),.poolw hb hk 87 88 1 (Ay (Ah ha) d_p1) none,.pool ha hg 44 (Ay Al d_p2)] (λR H=>∃w0_p1:Value,∃w0_p2:Value,R=C4 [Bb (Al r.1),rB r.2.1]∧H=[.blk hi [Ai r.2.2.1.fNow,rv (.map (some hb)),rv (.map (some ha))] 68,.map hb (AD (mP hb) r.2.2.1.fEntities),.map ha (AD (mP ha) r.2.2.1.fCalls),.poolw hb w0_p1 87 88 1 (Ay (Ah ha) r.2.2.2.1) none,.pool ha w0_p2 44 (Ay Al r.2.2.2.2)]):=by
 refine enter (n:=107) Tryz.func17 Aa Tryz.ntmps17 Aa (λw Z=>?_);unfold N2 at h;refine Af (BA (cs:=[rS ([]:An),rS ([]:An),rS ([]:An),rv (.slice none 0 0),Ai 0,rv (.slice none 0 0),Ai 0,Ai 0]) NN Aa Aa (λb1=>?_));refine wa Aa (As (Aq (Ej (S:=(Bool)×(Unit)) (λσ=>Gx F d d_p1 d_p2 e now σ.1=some r) (λσ=>[(0,rP hi 0),(1,rS e),(2,Ai now),(6,rP b1 0),(28,rB σ.1)]) (λσ=>[.blk hi [Ai d.fNow,rv (.map (some hb)),rv (.map (some ha))] 68,.blk b1 [rS ([]:An),rS ([]:An),rS ([]:An),rv (.slice none 0 0),Ai 0,rv (.slice none 0 0),Ai 0,Ai 0] 44,.map hb (AD (mP hb) d.fEntities),.map ha (AD (mP ha) d.fCalls),.poolw hb hk 87 88 1 (Ay (Ah ha) d_p1) none,.pool ha hg 44 (Ay Al d_p2)]) ?_ ?_)))
 ·refine Ar (wm Aa (M4 (Hr:=[.blk b1 [rS ([]:An),rS ([]:An),rS ([]:An),rv (.slice none 0 0),Ai 0,rv (.slice none 0 0),Ai 0,Ai 0] 44,.map hb (AD (mP hb) d.fEntities),.map ha (AD (mP ha) d.fCalls),.poolw hb hk 87 88 1 (Ay (Ah ha) d_p1) none,.pool ha hg 44 (Ay Al d_p2)]) OS (HY hi hb ha d true Aa) Aa ((Ak (i:=1) Aa).trans (SH _ (SN _))) Aa ?_));rintro _ _ ⟨rfl,rfl⟩;refine wv (Cg Aa) (wm Aa (Bk (b:=!true) Aa Aa (Dg Aa) (wm Aa (Bk (b:=!true) Aa Aa (Dg Aa) (wm Aa (Bk (b:=!true) Aa Aa (Dg Aa) (wv (Bc Aa) (Bk (b:=!true) Aa Aa (Dg Aa) (vF Gm Aa Cq (Bk (b:=!true) Aa Aa (Dg Aa) (vL 0 Dk Aa (Bk (b:=!true) Aa Aa (Dg Aa) (wv (CO Aa Aa) (wv (r:=rB (decide (now<d.fNow))) (A4 (b:=!true) Aa (Dg Aa) Aa) (wm Aa (bz h (λc6 h7=>?_) (λc6 h8=>?_)))))))))))))))))
  ·exact wf c6 (wf c6 (wv (r:=rB true) (At Aa c6 Aa) (Ao (AF (AK (true,()) h7 (AW.c5 Aa Aa Aa Aa Aa AW.nil) (sC (sC (sC (sC (sC (sC sN)))))))))))
  ·exact wo c6 (wm Aa (wo c6 (wv (De Aa Aa) (Er Aa c6 Aa (Ao (AF (AK (decide (1073741824<now),()) h8 (AW.c5 Aa Aa Aa Aa Aa AW.nil) (sC (sC (sC (sC (sC (sC sN)))))))))))))
 ·rintro⟨x5,⟨⟩⟩ h9;refine Co (l':=[(0,rP hi 0),(1,rS e),(2,Ai now),(6,rP b1 0),(28,rB x5)]) (H':=[.blk hi [Ai d.fNow,rv (.map (some hb)),rv (.map (some ha))] 68,.blk b1 [rS ([]:An),rS ([]:An),rS ([]:An),rv (.slice none 0 0),Ai 0,rv (.slice none 0 0),Ai 0,Ai 0] 44,.map hb (AD (mP hb) d.fEntities),.map ha (AD (mP ha) d.fCalls),.poolw hb hk 87 88 1 (Ay (Ah ha) d_p1) none,.pool ha hg 44 (Ay Al d_p2)]) Aa Aa ?_;replace h9:Gx F d d_p1 d_p2 e now x5=some r:=h9;unfold Gx at h9;refine cz h9 Aa (λhu hw=>?_) (λhu hx=>?_)
  ·refine Af (wv (r:=Bb [rS ([]:An),rS ([]:An),rS ([]:An),rv (.slice none 0 0),Ai 0,rv (.slice none 0 0),Ai 0,Ai 0]) (EW ) (A8 (i:=1) E0 Aa Aa Aa (AZ.c Aa) Aa Aa (cs':=[rS ([]:An),rS ([]:An),rS ([]:An),rv (.slice none 0 0),Ai 0,rv (.slice none 0 0),Ai 0,Ai 0]) Aa (H':=[.blk hi [Ai d.fNow,rv (.map (some hb)),rv (.map (some ha))] 68,.blk b1 [rS ([]:An),rS ([]:An),rS ([]:An),rv (.slice none 0 0),Ai 0,rv (.slice none 0 0),Ai 0,Ai 0] 44,.map hb (AD (mP hb) d.fEntities),.map ha (AD (mP ha) d.fCalls),.poolw hb hk 87 88 1 (Ay (Ah ha) d_p1) none,.pool ha hg 44 (Ay Al d_p2)]) Aa (wa Aa (As (Av (Ad (WK.upBlk (i:=1) (cs':=[rS ([]:An),rS ([]:An),rS ([]:An),AG 1 (Ay Am ([]:List (List Ac))),Ai 0,AG 4 (Ay Ab ([]:List Ac)),Ai 0,Ai 0]) Aa ⟨Up.refl _,Up.refl _,Up.refl _,Up.le (E7.nil _),Up.refl _,Up.le (E7.nil _),Up.refl _,Up.refl _,trivial⟩ ?_)))))));obtain rfl:=Aw hw;exact Au (Il OQ (BD (i:=1) Ka E0 Aa Aa Aa) (AH Aa)) (sC (sS (sC (sC (sC (sC sN)))))) ⟨hk,hg,Aa,Aa⟩
  ·refine A0 (AO (Af (wm Aa (wv (Bc Aa) (vF Gm Aa L9 (vL 0 LD Aa (wm Aa (wv (r:=C4 [Es hb (A2 d.fEntities e (-1)) 0,rB (BG d.fEntities e)]) (GC (enc:=(mP hb)) (xs:=d.fEntities) (z:=(-1)) (i:=2) M7 DM Qd (P7 hb) Aa Aa Aa) (wm Aa (wv (AJ Aa Aa) (wv (AJ Aa Aa) (wa Aa (wa Aa (As (Aq (Aq (bz hx (λhj hy=>?_) (λhj hz=>?_))))))))))))))))))
   ·refine ck hy λhq h0=>WC.takeout (encw:=(Ah ha)) (xs:=d_p1) (i:=A2 d.fEntities e (-1)) (Hr:=[.blk hi [Ai d.fNow,rv (.map (some hb)),rv (.map (some ha))] 68,.blk b1 [rS ([]:An),rS ([]:An),rS ([]:An),rv (.slice none 0 0),Ai 0,rv (.slice none 0 0),Ai 0,Ai 0] 44,.map hb (AD (mP hb) d.fEntities),.map ha (AD (mP ha) d.fCalls),.pool ha hg 44 (Ay Al d_p2)]) ((Ak (i:=4) Aa).trans (SH _ (SN _))) hq [8,37] ⟨Aa,Aa,trivial⟩ (λhe hf=>?_);refine Co (l':=_) (H':=[.blk he [AG 4 (Ay Ab ((Ae d_p1 (A2 d.fEntities e (-1))).fState)),rv hf,Ai ((Ae d_p1 (A2 d.fEntities e (-1))).fDone)] 87,.row hf 88 1 (Ay (eP ha) ((Ae d_p1 (A2 d.fEntities e (-1))).fCalls)),.poolw hb hk 87 88 1 (Ay (Ah ha) d_p1) (some (C6 (A2 d.fEntities e (-1)),(he,hf))),.blk hi [Ai d.fNow,rv (.map (some hb)),rv (.map (some ha))] 68,.blk b1 [rS ([]:An),rS ([]:An),rS ([]:An),rv (.slice none 0 0),Ai 0,rv (.slice none 0 0),Ai 0,Ai 0] 44,.map hb (AD (mP hb) d.fEntities),.map ha (AD (mP ha) d.fCalls),.pool ha hg 44 (Ay Al d_p2)]) Aa Aa (DI [0,2,6,8,9] [⟨[],rB (BG d.fEntities e),0⟩,⟨[0],rB (!(BG d.fEntities e)),0⟩,⟨[1],rB (!(BG d.fEntities e)),0⟩,⟨[2],rP he 0,0⟩,⟨[3,2],rP he 0,0⟩,⟨[4,2],rP he 2,0⟩,⟨[5,2],Ai ((Ae d_p1 (A2 d.fEntities e (-1))).fDone),1⟩,⟨[2],rP he 0,0⟩,⟨[7,2],rP he 0,0⟩,⟨[8,2],rP he 1,0⟩,⟨[9,2],rv hf,1⟩,⟨[10,2],Ai (((Ae d_p1 (A2 d.fEntities e (-1))).fCalls).length:Int),1⟩,⟨[6,11,2],rB (decide (((Ae d_p1 (A2 d.fEntities e (-1))).fDone)=(((Ae d_p1 (A2 d.fEntities e (-1))).fCalls).length:Int))),0⟩,⟨[2,12],rB (decide (((Ae d_p1 (A2 d.fEntities e (-1))).fDone)=(((Ae d_p1 (A2 d.fEntities e (-1))).fCalls).length:Int))),0⟩] [52,0,2,6,8] ?_ ?_)
    ·refine oq (A5 Aa) (oq (Cg Aa) (oq (A5 Aa) (CN Aa (λH=>Ev (b:=!(BG d.fEntities e)) Aa Aa (Dg hj) (HQ (A5 Aa))) ?_)));refine CN Aa (λH=>Ev (b:=!(BG d.fEntities e)) Aa Aa (Dg hj) (HQ (Bc Aa))) ?_;refine CN Aa (λH=>Ev (b:=!(BG d.fEntities e)) Aa Aa (Dg hj) (HQ (AS H3 Aa Cq Aa Aa))) ?_;refine Nz Aa (Ev (b:=!(BG d.fEntities e)) Aa Aa (Dg hj) (HQ (B3 (i:=0) Dk Aa Aa Aa))) ?_;refine CN Aa (λH=>Ev (b:=!(BG d.fEntities e)) Aa Aa (Dg hj) (HQ (A5 Aa))) ?_;refine CN Aa (λH=>Ev (b:=!(BG d.fEntities e)) Aa Aa (Dg hj) (HQ (Bc Aa))) ?_;refine CN Aa (λH=>Ev (b:=!(BG d.fEntities e)) Aa Aa (Dg hj) (HQ (AS H3 Aa KP Aa Aa))) ?_;refine Nz Aa (Ev (b:=!(BG d.fEntities e)) Aa Aa (Dg hj) (HQ (B3 (i:=0) OT Aa Aa Aa))) ?_;refine Nz Aa (Ev (b:=!(BG d.fEntities e)) Aa Aa (Dg hj) (HQ (DD (ys:=(Ae d_p1 (A2 d.fEntities e (-1))).fCalls) (enc:=(eP ha)) (i:=1) L5 Aa Aa))) ?_;refine CN Aa (λH=>Ev (b:=!(BG d.fEntities e)) Aa Aa (Dg hj) (HQ (Bv Aa Aa))) ?_;refine oq (A4 (b:=!(BG d.fEntities e)) Aa (Dg hj) Aa) ?_;exact Du
    refine AO (cz h0 Aa (λh1 h2=>?_) (λh1 h3=>?_))
    ·refine Af (wv (r:=Bb [rS ([]:An),rS ([]:An),rS ([]:An),rv (.slice none 0 0),Ai 0,rv (.slice none 0 0),Ai 0,Ai 0]) (EW ) (A8 (i:=4) E0 Aa Aa Aa (AZ.c Aa) Aa Aa (cs':=[rS ([]:An),rS ([]:An),rS ([]:An),rv (.slice none 0 0),Ai 0,rv (.slice none 0 0),Ai 0,Ai 0]) Aa (H':=[.blk he [AG 4 (Ay Ab ((Ae d_p1 (A2 d.fEntities e (-1))).fState)),rv hf,Ai ((Ae d_p1 (A2 d.fEntities e (-1))).fDone)] 87,.row hf 88 1 (Ay (eP ha) ((Ae d_p1 (A2 d.fEntities e (-1))).fCalls)),.poolw hb hk 87 88 1 (Ay (Ah ha) d_p1) (some (C6 (A2 d.fEntities e (-1)),(he,hf))),.blk hi [Ai d.fNow,rv (.map (some hb)),rv (.map (some ha))] 68,.blk b1 [rS ([]:An),rS ([]:An),rS ([]:An),rv (.slice none 0 0),Ai 0,rv (.slice none 0 0),Ai 0,Ai 0] 44,.map hb (AD (mP hb) d.fEntities),.map ha (AD (mP ha) d.fCalls),.pool ha hg 44 (Ay Al d_p2)]) Aa (wa Aa (As (Av (Ad (WK.putsame (encw:=(Ah ha)) (xs:=d_p1) (i:=A2 d.fEntities e (-1)) (Hr:=[.blk hi [Ai d.fNow,rv (.map (some hb)),rv (.map (some ha))] 68,.blk b1 [rS ([]:An),rS ([]:An),rS ([]:An),rv (.slice none 0 0),Ai 0,rv (.slice none 0 0),Ai 0,Ai 0] 44,.map hb (AD (mP hb) d.fEntities),.map ha (AD (mP ha) d.fCalls),.pool ha hg 44 (Ay Al d_p2)]) (SN _) hq [8] ⟨Aa,trivial⟩ Aa Aa (WK.upBlk (i:=2) (cs':=[rS ([]:An),rS ([]:An),rS ([]:An),AG 1 (Ay Am ([]:List (List Ac))),Ai 0,AG 4 (Ay Ab ([]:List Ac)),Ai 0,Ai 0]) Aa ⟨Up.refl _,Up.refl _,Up.refl _,Up.le (E7.nil _),Up.refl _,Up.le (E7.nil _),Up.refl _,Up.refl _,trivial⟩ (CA (H2:=[.blk hi [Ai d.fNow,rv (.map (some hb)),rv (.map (some ha))] 68,.map hb (AD (mP hb) d.fEntities),.map ha (AD (mP ha) d.fCalls),.poolw hb hk 87 88 1 (Ay (Ah ha) d_p1) none,.pool ha hg 44 (Ay Al d_p2),.blk b1 [rS ([]:An),rS ([]:An),rS ([]:An),AG 1 (Ay Am ([]:List (List Ac))),Ai 0,AG 4 (Ay Ab ([]:List Ac)),Ai 0,Ai 0] 44]) ((Ak (i:=1) Aa).trans (SH _ ((Ak (i:=2) Aa).trans (SH _ ((Ak (i:=2) Aa).trans (SH _ ((Ak (i:=0) Aa).trans (SH _ ((Ak (i:=1) Aa).trans (SH _ (SN _))))))))))) ?_)))))))));obtain rfl:=Aw h2;exact Au (Il OQ (BD (i:=5) Ka E0 Aa Aa Aa) (AH Aa)) (sC (sC (sC (sC (sC (sS sN)))))) ⟨hk,hg,Aa,Aa⟩
    ·refine A0 (AO (Aq (ck h3 λhr h4=>DI [0,2,6,8] [⟨[],rP he 0,0⟩,⟨[0],rP he 0,0⟩,⟨[1],rP he 1,0⟩,⟨[2],rv hf,1⟩,⟨[],rP he 0,0⟩,⟨[4],rP he 0,0⟩,⟨[5],rP he 2,0⟩,⟨[6],Ai ((Ae d_p1 (A2 d.fEntities e (-1))).fDone),1⟩,⟨[3,7],rv (DS 1 hf (C6 ((Ae d_p1 (A2 d.fEntities e (-1))).fDone)) 0),1⟩,⟨[8],Es ha (Ae ((Ae d_p1 (A2 d.fEntities e (-1))).fCalls) ((Ae d_p1 (A2 d.fEntities e (-1))).fDone)) 0,1⟩,⟨[9],Es ha (Ae ((Ae d_p1 (A2 d.fEntities e (-1))).fCalls) ((Ae d_p1 (A2 d.fEntities e (-1))).fDone)) 0,0⟩] [10,0,2,6,8] ?_ ?_)))
     ·refine oq (A5 Aa) (oq (Bc Aa) (oq (AS H3 Aa KP Aa Aa) (of (B3 (i:=0) OT Aa Aa Aa) (oq (A5 Aa) (oq (Bc Aa) (oq (AS H3 Aa Cq Aa Aa) (of (B3 (i:=0) Dk Aa Aa Aa) (of (I4 (i:=1) L5 Qg Aa Aa Aa (B8 hr)) (of (E3 (enc:=(eP ha)) (ys:=(Ae d_p1 (A2 d.fEntities e (-1))).fCalls) (i:=1) (j:=(Ae d_p1 (A2 d.fEntities e (-1))).fDone) Tryz.isAgg88 Aa Aa hr Aa) (oq (AC Aa) ?_))))))))));exact Du
     refine AO (Aq (ck h4 λhp h5=>ck h5 λhs h6=>ob h6 λhd hA hB=>BV 16 [0,2,6,8,10] [⟨[],rP he 0,none,none,none⟩,⟨[0],rP he 0,none,none,none⟩,⟨[1],rP he 0,none,none,none⟩,⟨[2],AG 4 (Ay Ab ((Ae d_p1 (A2 d.fEntities e (-1))).fState)),none,none,none⟩,⟨[],Es ha (Ae ((Ae d_p1 (A2 d.fEntities e (-1))).fCalls) ((Ae d_p1 (A2 d.fEntities e (-1))).fDone)) 0,none,none,none⟩,⟨[4],Es ha (Ae ((Ae d_p1 (A2 d.fEntities e (-1))).fCalls) ((Ae d_p1 (A2 d.fEntities e (-1))).fDone)) 0,none,none,none⟩,⟨[5],Es ha (Ae ((Ae d_p1 (A2 d.fEntities e (-1))).fCalls) ((Ae d_p1 (A2 d.fEntities e (-1))).fDone)) 0,none,none,none⟩,⟨[6],Bb (Aj ((Ae d_p2 (Ae ((Ae d_p1 (A2 d.fEntities e (-1))).fCalls) ((Ae d_p1 (A2 d.fEntities e (-1))).fDone))).fOp)),none,none,none⟩,⟨[3,7],C4 [AG 4 (Ay Ab hd.1),Bb (A1 hd.2.1),Ai hd.2.2],none,none,none⟩,⟨[8],C4 [AG 4 (Ay Ab hd.1),Bb (A1 hd.2.1),Ai hd.2.2],none,none,none⟩,⟨[9],AG 4 (Ay Ab hd.1),none,none,none⟩,⟨[9],Bb (A1 hd.2.1),none,none,none⟩,⟨[9],Ai hd.2.2,none,none,none⟩,⟨[],rv undef,some ([Ai 0,rv (.slice none 0 0)],31),some (15,[Ai hd.2.1.fErr,AG 4 (Ay Ab hd.2.1.fValue)]),none⟩,⟨[10],AG 4 (Ay Ab hd.1),none,none,none⟩,⟨[11],rv undef,none,none,some 13⟩] ?_ (λβ=>?_)))
     ·refine Cf (A5 Aa) (Cf (Bc Aa) (Cf (AS H3 Aa CT Aa Aa) (HR (B3 (i:=0) Dz Aa Aa Aa) (Cf (A5 Aa) (Cf (CY Aa hp) (Cf (Lh Io Aa Ei Aa hp Aa) (HR (GD (enc:=Al) (xs:=d_p2) (j:=7) Hh Ei Aa Aa hs Aa Aa) (Lg (DC Tryz.call11 (Rd F ((Ae d_p1 (A2 d.fEntities e (-1))).fState) ((Ae d_p2 (Ae ((Ae d_p1 (A2 d.fEntities e (-1))).fCalls) ((Ae d_p1 (A2 d.fEntities e (-1))).fDone))).fOp) hd hA) Aa) (Cf (A5 Aa) (Cf (AJ Aa Aa) (Cf (AJ Aa Aa) (Cf (AJ Aa Aa) (RK (M1 (cs:=[Ai 0,rv (.slice none 0 0)]) GX Aa) (Cf (AC Aa) (SD (fun {hm hh}=>Ma (C8 (i:=0) Bw Aa Aa Aa (AZ.c Aa) Aa Aa (cs':=[Ai hd.2.1.fErr,AG 4 (Ay Ab hd.2.1.fValue)]) Aa (H':=.blk hm (A1 hd.2.1) 31::hh) Aa)) ?_)))))))))))))));exact K0
     refine Ct (H1:=[.blk he [AG 4 (Ay Ab ((Ae d_p1 (A2 d.fEntities e (-1))).fState)),rv hf,Ai ((Ae d_p1 (A2 d.fEntities e (-1))).fDone)] 87,.row hf 88 1 (Ay (eP ha) ((Ae d_p1 (A2 d.fEntities e (-1))).fCalls)),.poolw hb hk 87 88 1 (Ay (Ah ha) d_p1) (some (C6 (A2 d.fEntities e (-1)),(he,hf))),.blk hi [Ai d.fNow,rv (.map (some hb)),rv (.map (some ha))] 68,.blk b1 [rS ([]:An),rS ([]:An),rS ([]:An),rv (.slice none 0 0),Ai 0,rv (.slice none 0 0),Ai 0,Ai 0] 44,.map hb (AD (mP hb) d.fEntities),.map ha (AD (mP ha) d.fCalls),.pool ha hg 44 (Ay Al d_p2),.blk (β 13) (A1 hd.2.1) 31]) [65,66,67,68,69,70,71,72,73,64,74,75,76,12,11,0,2,6,8,10] ?_;generalize β 13=hm;refine wa Aa (As (Aq (Af (wm Aa (wv (CZ Aa Aa) (As (cz hB Aa (λhC hD=>?_) (λhC hE=>?_))))))))
     ·refine Af (wv (r:=Bb [rS ([]:An),rS ([]:An),rS ([]:An),rv (.slice none 0 0),Ai 0,rv (.slice none 0 0),Ai 0,Ai 0]) (EW ) (A8 (i:=4) E0 Aa Aa Aa (AZ.c Aa) Aa Aa (cs':=[rS ([]:An),rS ([]:An),rS ([]:An),rv (.slice none 0 0),Ai 0,rv (.slice none 0 0),Ai 0,Ai 0]) Aa (H':=[.blk he [AG 4 (Ay Ab ((Ae d_p1 (A2 d.fEntities e (-1))).fState)),rv hf,Ai ((Ae d_p1 (A2 d.fEntities e (-1))).fDone)] 87,.row hf 88 1 (Ay (eP ha) ((Ae d_p1 (A2 d.fEntities e (-1))).fCalls)),.poolw hb hk 87 88 1 (Ay (Ah ha) d_p1) (some (C6 (A2 d.fEntities e (-1)),(he,hf))),.blk hi [Ai d.fNow,rv (.map (some hb)),rv (.map (some ha))] 68,.blk b1 [rS ([]:An),rS ([]:An),rS ([]:An),rv (.slice none 0 0),Ai 0,rv (.slice none 0 0),Ai 0,Ai 0] 44,.map hb (AD (mP hb) d.fEntities),.map ha (AD (mP ha) d.fCalls),.pool ha hg 44 (Ay Al d_p2),.blk hm (A1 hd.2.1) 31]) Aa (wa Aa (As (Av (Ad (WK.putsame (encw:=(Ah ha)) (xs:=d_p1) (i:=A2 d.fEntities e (-1)) (Hr:=[.blk hi [Ai d.fNow,rv (.map (some hb)),rv (.map (some ha))] 68,.blk b1 [rS ([]:An),rS ([]:An),rS ([]:An),rv (.slice none 0 0),Ai 0,rv (.slice none 0 0),Ai 0,Ai 0] 44,.map hb (AD (mP hb) d.fEntities),.map ha (AD (mP ha) d.fCalls),.pool ha hg 44 (Ay Al d_p2),.blk hm (A1 hd.2.1) 31]) (SN _) hq [8,65,66,67] ⟨Aa,Aa,Aa,Aa,trivial⟩ Aa Aa (WK.upBlk (i:=2) (cs':=[rS ([]:An),rS ([]:An),rS ([]:An),AG 1 (Ay Am ([]:List (List Ac))),Ai 0,AG 4 (Ay Ab ([]:List Ac)),Ai 0,Ai 0]) Aa ⟨Up.refl _,Up.refl _,Up.refl _,Up.le (E7.nil _),Up.refl _,Up.le (E7.nil _),Up.refl _,Up.refl _,trivial⟩ (CA (H2:=[.blk hi [Ai d.fNow,rv (.map (some hb)),rv (.map (some ha))] 68,.map hb (AD (mP hb) d.fEntities),.map ha (AD (mP ha) d.fCalls),.poolw hb hk 87 88 1 (Ay (Ah ha) d_p1) none,.pool ha hg 44 (Ay Al d_p2),.blk b1 [rS ([]:An),rS ([]:An),rS ([]:An),AG 1 (Ay Am ([]:List (List Ac))),Ai 0,AG 4 (Ay Ab ([]:List Ac)),Ai 0,Ai 0] 44,.blk hm (A1 hd.2.1) 31]) ((Ak (i:=1) Aa).trans (SH _ ((Ak (i:=2) Aa).trans (SH _ ((Ak (i:=2) Aa).trans (SH _ ((Ak (i:=0) Aa).trans (SH _ ((Ak (i:=1) Aa).trans (SH _ (SN _))))))))))) ?_)))))))));obtain rfl:=Aw hD;exact Au (Il OQ (BD (i:=5) Ka E0 Aa Aa Aa) (AH Aa)) (sC (sC (sC (sC (sC (sS (sS sN))))))) ⟨hk,hg,Aa,Aa⟩
     ·refine A0 (AO (Af (wm Aa (wm Aa (wv (Bc Aa) (vF H3 Aa CT (BR (i:=0) CT Aa Aa (Cc Aa) Aa Aa (cs':=[AG 4 (Ay Ab hd.1),rv hf,Ai ((Ae d_p1 (A2 d.fEntities e (-1))).fDone)]) Aa (H':=[.blk he [AG 4 (Ay Ab hd.1),rv hf,Ai ((Ae d_p1 (A2 d.fEntities e (-1))).fDone)] 87,.row hf 88 1 (Ay (eP ha) ((Ae d_p1 (A2 d.fEntities e (-1))).fCalls)),.poolw hb hk 87 88 1 (Ay (Ah ha) d_p1) (some (C6 (A2 d.fEntities e (-1)),(he,hf))),.blk hi [Ai d.fNow,rv (.map (some hb)),rv (.map (some ha))] 68,.blk b1 [rS ([]:An),rS ([]:An),rS ([]:An),rv (.slice none 0 0),Ai 0,rv (.slice none 0 0),Ai 0,Ai 0] 44,.map hb (AD (mP hb) d.fEntities),.map ha (AD (mP ha) d.fCalls),.pool ha hg 44 (Ay Al d_p2),.blk hm (A1 hd.2.1) 31]) Aa (B1 (wm Aa (wv (Bc Aa) (vF H3 Aa Cq (vL 0 Dk Aa (ck hE λhG hH=>wv (B0 Aa Aa hG) (wv (Bc Aa) (vF H3 Aa Cq (BR (i:=0) Cq Aa Aa (Cc Aa) Aa Aa (cs':=[AG 4 (Ay Ab hd.1),rv hf,Ai (((Ae d_p1 (A2 d.fEntities e (-1))).fDone)+1)]) Aa (H':=[.blk he [AG 4 (Ay Ab hd.1),rv hf,Ai (((Ae d_p1 (A2 d.fEntities e (-1))).fDone)+1)] 87,.row hf 88 1 (Ay (eP ha) ((Ae d_p1 (A2 d.fEntities e (-1))).fCalls)),.poolw hb hk 87 88 1 (Ay (Ah ha) d_p1) (some (C6 (A2 d.fEntities e (-1)),(he,hf))),.blk hi [Ai d.fNow,rv (.map (some hb)),rv (.map (some ha))] 68,.blk b1 [rS ([]:An),rS ([]:An),rS ([]:An),rv (.slice none 0 0),Ai 0,rv (.slice none 0 0),Ai 0,Ai 0] 44,.map hb (AD (mP hb) d.fEntities),.map ha (AD (mP ha) d.fCalls),.pool ha hg 44 (Ay Al d_p2),.blk hm (A1 hd.2.1) 31]) Aa (B1 (wm Aa (wm Aa (wv (Bc Aa) (vF Gm Aa Cq (BR (i:=3) Cq Aa Aa (Cc Aa) Aa Aa (cs':=[Ai now,rv (.map (some hb)),rv (.map (some ha))]) Aa (H':=[.blk he [AG 4 (Ay Ab hd.1),rv hf,Ai (((Ae d_p1 (A2 d.fEntities e (-1))).fDone)+1)] 87,.row hf 88 1 (Ay (eP ha) ((Ae d_p1 (A2 d.fEntities e (-1))).fCalls)),.poolw hb hk 87 88 1 (Ay (Ah ha) d_p1) (some (C6 (A2 d.fEntities e (-1)),(he,hf))),.blk hi [Ai now,rv (.map (some hb)),rv (.map (some ha))] 68,.blk b1 [rS ([]:An),rS ([]:An),rS ([]:An),rv (.slice none 0 0),Ai 0,rv (.slice none 0 0),Ai 0,Ai 0] 44,.map hb (AD (mP hb) d.fEntities),.map ha (AD (mP ha) d.fCalls),.pool ha hg 44 (Ay Al d_p2),.blk hm (A1 hd.2.1) 31]) Aa ?_))))))))))))))))))))));refine B1 (wm Aa (wm Aa (wv (Bd (i:=8) Cs Bw Aa Aa Aa Aa) (wm Aa (wv (r:=Es ha (Ae ((Ae d_p1 (A2 d.fEntities e (-1))).fCalls) ((Ae d_p1 (A2 d.fEntities e (-1))).fDone)) 0) (CY Aa hp) (wv (r:=Es ha (Ae ((Ae d_p1 (A2 d.fEntities e (-1))).fCalls) ((Ae d_p1 (A2 d.fEntities e (-1))).fDone)) 4) (Lh Io Aa Bw Aa hp Aa) (MB (enc:=Al) (xs:=d_p2) (y':=(AA.mk ((Ae d_p2 (Ae ((Ae d_p1 (A2 d.fEntities e (-1))).fCalls) ((Ae d_p1 (A2 d.fEntities e (-1))).fDone))).fOp) hd.2.1 ((Ae d_p2 (Ae ((Ae d_p1 (A2 d.fEntities e (-1))).fCalls) ((Ae d_p1 (A2 d.fEntities e (-1))).fDone))).fFrom) ((Ae d_p2 (Ae ((Ae d_p1 (A2 d.fEntities e (-1))).fCalls) ((Ae d_p1 (A2 d.fEntities e (-1))).fDone))).fTo))) (j:=7) Bw Aa Aa Aa (AZ.c Aa) Aa hs Aa Aa (H':=[.blk he [AG 4 (Ay Ab hd.1),rv hf,Ai (((Ae d_p1 (A2 d.fEntities e (-1))).fDone)+1)] 87,.row hf 88 1 (Ay (eP ha) ((Ae d_p1 (A2 d.fEntities e (-1))).fCalls)),.poolw hb hk 87 88 1 (Ay (Ah ha) d_p1) (some (C6 (A2 d.fEntities e (-1)),(he,hf))),.blk hi [Ai now,rv (.map (some hb)),rv (.map (some ha))] 68,.blk b1 [rS ([]:An),rS ([]:An),rS ([]:An),rv (.slice none 0 0),Ai 0,rv (.slice none 0 0),Ai 0,Ai 0] 44,.map hb (AD (mP hb) d.fEntities),.map ha (AD (mP ha) d.fCalls),.pool ha hg 44 (Ay Al (List.set d_p2 (C6 (Ae ((Ae d_p1 (A2 d.fEntities e (-1))).fCalls) ((Ae d_p1 (A2 d.fEntities e (-1))).fDone))) (AA.mk ((Ae d_p2 (Ae ((Ae d_p1 (A2 d.fEntities e (-1))).fCalls) ((Ae d_p1 (A2 d.fEntities e (-1))).fDone))).fOp) hd.2.1 ((Ae d_p2 (Ae ((Ae d_p1 (A2 d.fEntities e (-1))).fCalls) ((Ae d_p1 (A2 d.fEntities e (-1))).fDone))).fFrom) ((Ae d_p2 (Ae ((Ae d_p1 (A2 d.fEntities e (-1))).fCalls) ((Ae d_p1 (A2 d.fEntities e (-1))).fDone))).fTo)))),.blk hm (A1 hd.2.1) 31]) Aa (bd hH λho hI hJ=>?_))))))));rw[← hI];refine wv (r:=Es ha (Ae ((Ae d_p1 (A2 d.fEntities e (-1))).fCalls) ((Ae d_p1 (A2 d.fEntities e (-1))).fDone)) 0) (CY Aa hp) (wv (r:=Es ha (Ae ((Ae d_p1 (A2 d.fEntities e (-1))).fCalls) ((Ae d_p1 (A2 d.fEntities e (-1))).fDone)) 7) (Lh Io Aa Cq Aa hp Aa) (ck hJ λhK hL=>NT (enc:=Al) (xs:=ho) (y':=(AA.mk ((Ae ho (Ae ((Ae d_p1 (A2 d.fEntities e (-1))).fCalls) ((Ae d_p1 (A2 d.fEntities e (-1))).fDone))).fOp) ((Ae ho (Ae ((Ae d_p1 (A2 d.fEntities e (-1))).fCalls) ((Ae d_p1 (A2 d.fEntities e (-1))).fDone))).fAnswer) ((Ae ho (Ae ((Ae d_p1 (A2 d.fEntities e (-1))).fCalls) ((Ae d_p1 (A2 d.fEntities e (-1))).fDone))).fFrom) now)) (j:=7) Cq Aa Aa (Cc Aa) Aa hK Aa Aa (H':=[.blk he [AG 4 (Ay Ab hd.1),rv hf,Ai (((Ae d_p1 (A2 d.fEntities e (-1))).fDone)+1)] 87,.row hf 88 1 (Ay (eP ha) ((Ae d_p1 (A2 d.fEntities e (-1))).fCalls)),.poolw hb hk 87 88 1 (Ay (Ah ha) d_p1) (some (C6 (A2 d.fEntities e (-1)),(he,hf))),.blk hi [Ai now,rv (.map (some hb)),rv (.map (some ha))] 68,.blk b1 [rS ([]:An),rS ([]:An),rS ([]:An),rv (.slice none 0 0),Ai 0,rv (.slice none 0 0),Ai 0,Ai 0] 44,.map hb (AD (mP hb) d.fEntities),.map ha (AD (mP ha) d.fCalls),.pool ha hg 44 (Ay Al (List.set ho (C6 (Ae ((Ae d_p1 (A2 d.fEntities e (-1))).fCalls) ((Ae d_p1 (A2 d.fEntities e (-1))).fDone))) (AA.mk ((Ae ho (Ae ((Ae d_p1 (A2 d.fEntities e (-1))).fCalls) ((Ae d_p1 (A2 d.fEntities e (-1))).fDone))).fOp) ((Ae ho (Ae ((Ae d_p1 (A2 d.fEntities e (-1))).fCalls) ((Ae d_p1 (A2 d.fEntities e (-1))).fDone))).fAnswer) ((Ae ho (Ae ((Ae d_p1 (A2 d.fEntities e (-1))).fCalls) ((Ae d_p1 (A2 d.fEntities e (-1))).fDone))).fFrom) now))),.blk hm (A1 hd.2.1) 31]) Aa (bd hL λhl hN hO=>?_)));rw[← hN];refine B1 (wm Aa (wv (r:=Es ha (Ae ((Ae d_p1 (A2 d.fEntities e (-1))).fCalls) ((Ae d_p1 (A2 d.fEntities e (-1))).fDone)) 0) (CY Aa hp) (ck hO λhP hQ=>wv (r:=Bb [rS (((Ae hl (Ae ((Ae d_p1 (A2 d.fEntities e (-1))).fCalls) ((Ae d_p1 (A2 d.fEntities e (-1))).fDone))).fOp).fEntity),rS (((Ae hl (Ae ((Ae d_p1 (A2 d.fEntities e (-1))).fCalls) ((Ae d_p1 (A2 d.fEntities e (-1))).fDone))).fOp).fID),rS (((Ae hl (Ae ((Ae d_p1 (A2 d.fEntities e (-1))).fCalls) ((Ae d_p1 (A2 d.fEntities e (-1))).fDone))).fOp).fOp),AG 1 (Ay Am (((Ae hl (Ae ((Ae d_p1 (A2 d.fEntities e (-1))).fCalls) ((Ae d_p1 (A2 d.fEntities e (-1))).fDone))).fOp).fArgs)),Ai (((Ae hl (Ae ((Ae d_p1 (A2 d.fEntities e (-1))).fCalls) ((Ae d_p1 (A2 d.fEntities e (-1))).fDone))).fAnswer).fErr),AG 4 (Ay Ab (((Ae hl (Ae ((Ae d_p1 (A2 d.fEntities e (-1))).fCalls) ((Ae d_p1 (A2 d.fEntities e (-1))).fDone))).fAnswer).fValue)),Ai ((Ae hl (Ae ((Ae d_p1 (A2 d.fEntities e (-1))).fCalls) ((Ae d_p1 (A2 d.fEntities e (-1))).fDone))).fFrom),Ai ((Ae hl (Ae ((Ae d_p1 (A2 d.fEntities e (-1))).fCalls) ((Ae d_p1 (A2 d.fEntities e (-1))).fDone))).fTo)]) (GD (enc:=Al) (xs:=hl) (j:=7) Ka E0 Aa Aa hP Aa Aa) (ob hQ λhn hR hS=>BQ Tryz.call45 (K4 F (AA.mk ((Ae hl (Ae ((Ae d_p1 (A2 d.fEntities e (-1))).fCalls) ((Ae d_p1 (A2 d.fEntities e (-1))).fDone))).fOp) ((Ae hl (Ae ((Ae d_p1 (A2 d.fEntities e (-1))).fCalls) ((Ae d_p1 (A2 d.fEntities e (-1))).fDone))).fAnswer) ((Ae hl (Ae ((Ae d_p1 (A2 d.fEntities e (-1))).fCalls) ((Ae d_p1 (A2 d.fEntities e (-1))).fDone))).fFrom) ((Ae hl (Ae ((Ae d_p1 (A2 d.fEntities e (-1))).fCalls) ((Ae d_p1 (A2 d.fEntities e (-1))).fDone))).fTo)) hn hR) Aa (A8 (i:=4) E0 Aa Aa Aa (AZ.c Aa) Aa Aa (cs':=[rS hn.fOp.fEntity,rS hn.fOp.fID,rS hn.fOp.fOp,AG 1 (Ay Am hn.fOp.fArgs),Ai hn.fAnswer.fErr,AG 4 (Ay Ab hn.fAnswer.fValue),Ai hn.fFrom,Ai hn.fTo]) Aa (H':=[.blk he [AG 4 (Ay Ab hd.1),rv hf,Ai (((Ae d_p1 (A2 d.fEntities e (-1))).fDone)+1)] 87,.row hf 88 1 (Ay (eP ha) ((Ae d_p1 (A2 d.fEntities e (-1))).fCalls)),.poolw hb hk 87 88 1 (Ay (Ah ha) d_p1) (some (C6 (A2 d.fEntities e (-1)),(he,hf))),.blk hi [Ai now,rv (.map (some hb)),rv (.map (some ha))] 68,.blk b1 (Al hn) 44,.map hb (AD (mP hb) d.fEntities),.map ha (AD (mP ha) d.fCalls),.pool ha hg 44 (Ay Al hl),.blk hm (A1 hd.2.1) 31]) Aa (wa Aa (As (Av (WK.putback (y:=(Ap.mk hd.1 ((Ae d_p1 (A2 d.fEntities e (-1))).fCalls) (((Ae d_p1 (A2 d.fEntities e (-1))).fDone)+1))) (encw:=(Ah ha)) (xs:=d_p1) (i:=A2 d.fEntities e (-1)) (Hr:=[.blk hi [Ai now,rv (.map (some hb)),rv (.map (some ha))] 68,.blk b1 (Al hn) 44,.map hb (AD (mP hb) d.fEntities),.map ha (AD (mP ha) d.fCalls),.pool ha hg 44 (Ay Al hl),.blk hm (A1 hd.2.1) 31]) (SN _) hq [8,65,66,67,80,82,83,84,85,89] ⟨Aa,Aa,Aa,Aa,Aa,Aa,Aa,Aa,Aa,Aa,trivial⟩ Aa Aa (λht=>?_))))))))));refine CA (H2:=[.blk hi [Ai now,rv (.map (some hb)),rv (.map (some ha))] 68,.map hb (AD (mP hb) d.fEntities),.map ha (AD (mP ha) d.fCalls),.poolw hb ht 87 88 1 (Ay (Ah ha) (List.set d_p1 (C6 (A2 d.fEntities e (-1))) (Ap.mk hd.1 ((Ae d_p1 (A2 d.fEntities e (-1))).fCalls) (((Ae d_p1 (A2 d.fEntities e (-1))).fDone)+1)))) none,.pool ha hg 44 (Ay Al hl),.blk b1 (Al hn) 44,.blk hm (A1 hd.2.1) 31]) ((Ak (i:=1) Aa).trans (SH _ ((Ak (i:=2) Aa).trans (SH _ ((Ak (i:=2) Aa).trans (SH _ ((Ak (i:=0) Aa).trans (SH _ ((Ak (i:=1) Aa).trans (SH _ (SN _))))))))))) ?_;obtain rfl:=Aw hS;exact Au (Il OQ (BD (i:=5) Ka E0 Aa Aa Aa) (AH Aa)) (sC (sC (sC (sC (sC (sS (sS sN))))))) ⟨ht,hg,Aa,Aa⟩
   ·refine DI [0,2,6,8,9] [⟨[],rB (BG d.fEntities e),0⟩,⟨[0],rB (!(BG d.fEntities e)),0⟩,⟨[1],rB (!(BG d.fEntities e)),0⟩,⟨[2],rv undef,0⟩,⟨[3,2],rv undef,0⟩,⟨[4,2],rv undef,0⟩,⟨[5,2],rv undef,0⟩,⟨[2],rv undef,0⟩,⟨[7,2],rv undef,0⟩,⟨[8,2],rv undef,0⟩,⟨[9,2],rv undef,0⟩,⟨[10,2],rv undef,0⟩,⟨[6,11,2],rv undef,0⟩,⟨[2,12],rB true,0⟩] [52,0,2,6,8] ?_ ?_
    ·refine oq (A5 Aa) (oq (Cg Aa) (oq (A5 Aa) (CN Aa (λH=>Em (b:=!(BG d.fEntities e)) Aa Aa (Gw hj)) ?_)));refine CN Aa (λH=>Em (b:=!(BG d.fEntities e)) Aa Aa (Gw hj)) ?_;refine CN Aa (λH=>Em (b:=!(BG d.fEntities e)) Aa Aa (Gw hj)) ?_;refine CN Aa (λH=>Em (b:=!(BG d.fEntities e)) Aa Aa (Gw hj)) ?_;refine CN Aa (λH=>Em (b:=!(BG d.fEntities e)) Aa Aa (Gw hj)) ?_;refine CN Aa (λH=>Em (b:=!(BG d.fEntities e)) Aa Aa (Gw hj)) ?_;refine CN Aa (λH=>Em (b:=!(BG d.fEntities e)) Aa Aa (Gw hj)) ?_;refine CN Aa (λH=>Em (b:=!(BG d.fEntities e)) Aa Aa (Gw hj)) ?_;refine CN Aa (λH=>Em (b:=!(BG d.fEntities e)) Aa Aa (Gw hj)) ?_;refine CN Aa (λH=>Em (b:=!(BG d.fEntities e)) Aa Aa (Gw hj)) ?_;refine oq (At (b:=!(BG d.fEntities e)) Aa (Gw hj) Aa) ?_;exact Du
    refine AO (DY Aa Aa (Af (wv (r:=Bb [rS ([]:An),rS ([]:An),rS ([]:An),rv (.slice none 0 0),Ai 0,rv (.slice none 0 0),Ai 0,Ai 0]) (EW ) (A8 (i:=1) E0 Aa Aa Aa (AZ.c Aa) Aa Aa (cs':=[rS ([]:An),rS ([]:An),rS ([]:An),rv (.slice none 0 0),Ai 0,rv (.slice none 0 0),Ai 0,Ai 0]) Aa (H':=[.blk hi [Ai d.fNow,rv (.map (some hb)),rv (.map (some ha))] 68,.blk b1 [rS ([]:An),rS ([]:An),rS ([]:An),rv (.slice none 0 0),Ai 0,rv (.slice none 0 0),Ai 0,Ai 0] 44,.map hb (AD (mP hb) d.fEntities),.map ha (AD (mP ha) d.fCalls),.poolw hb hk 87 88 1 (Ay (Ah ha) d_p1) none,.pool ha hg 44 (Ay Al d_p2)]) Aa (wa Aa (As (Av (Ad (WK.upBlk (i:=1) (cs':=[rS ([]:An),rS ([]:An),rS ([]:An),AG 1 (Ay Am ([]:List (List Ac))),Ai 0,AG 4 (Ay Ab ([]:List Ac)),Ai 0,Ai 0]) Aa ⟨Up.refl _,Up.refl _,Up.refl _,Up.le (E7.nil _),Up.refl _,Up.le (E7.nil _),Up.refl _,Up.refl _,trivial⟩ ?_)))))))));obtain rfl:=Aw hz;exact Au (Il OQ (BD (i:=1) Ka E0 Aa Aa Aa) (AH Aa)) (sC (sS (sC (sC (sC (sC sN)))))) ⟨hk,hg,Aa,Aa⟩
theorem Py (hd:Nat)(hb:Nat)(ha:Nat)(hf:Value)(he:Value)(d:AI)(d_p1:(List Ap))(d_p2:(List AA))(e:An)(r:(List Ac))(h:MR d d_p1 d_p2 e=some r):Fn Tryz.prog GE 19 [rP hd 0,rS e] [.blk hd [Ai d.fNow,rv (.map (some hb)),rv (.map (some ha))] 68,.map hb (AD (mP hb) d.fEntities),.map ha (AD (mP ha) d.fCalls),.poolw hb hf 87 88 1 (Ay (Ah ha) d_p1) none,.pool ha he 44 (Ay Al d_p2)] (λR H=>R=AG 4 (Ay Ab r)∧H=[.blk hd [Ai d.fNow,rv (.map (some hb)),rv (.map (some ha))] 68,.map hb (AD (mP hb) d.fEntities),.map ha (AD (mP ha) d.fCalls),.poolw hb hf 87 88 1 (Ay (Ah ha) d_p1) none,.pool ha he 44 (Ay Al d_p2)]):=by
 refine enter (n:=25) Tryz.func19 Aa Tryz.ntmps19 Aa (λw Z=>?_);unfold MR at h;refine Af (wa Aa (As (Aq (Af (wm Aa (M4 (Hr:=[.map hb (AD (mP hb) d.fEntities),.map ha (AD (mP ha) d.fCalls),.poolw hb hf 87 88 1 (Ay (Ah ha) d_p1) none,.pool ha he 44 (Ay Al d_p2)]) OS (HY hd hb ha d true Aa) Aa (SN _) Aa ?_))))));rintro _ _ ⟨rfl,rfl⟩;refine As (DY Aa Aa (Af (wm Aa (wv (Bc Aa) (vF Gm Aa L9 (vL 0 LD Aa (wm Aa (wv (r:=C4 [Es hb (A2 d.fEntities e (-1)) 0,rB (BG d.fEntities e)]) (GC (enc:=(mP hb)) (xs:=d.fEntities) (z:=(-1)) (i:=1) M7 DM Qd (P7 hb) Aa Aa Aa) (wm Aa (wv (AJ Aa Aa) (wv (AJ Aa Aa) (wa Aa (wa Aa (B1 (wm Aa (As (cz h Aa (λc1 h2=>?_) (λc1 hg=>?_))))))))))))))))))
 ·refine Af (wm Aa (ck h2 λg3 h4=>WL.takeout (encw:=(Ah ha)) (xs:=d_p1) (i:=A2 d.fEntities e (-1)) (Hr:=[.blk hd [Ai d.fNow,rv (.map (some hb)),rv (.map (some ha))] 68,.map hb (AD (mP hb) d.fEntities),.map ha (AD (mP ha) d.fCalls),.pool ha he 44 (Ay Al d_p2)]) ((Ak (i:=3) Aa).trans (SH _ (SN _))) g3 [5,16,19] ⟨Aa,Aa,Aa,trivial⟩ (λb5 v6=>?_)));refine KQ (H':=[.blk b5 [AG 4 (Ay Ab ((Ae d_p1 (A2 d.fEntities e (-1))).fState)),rv v6,Ai ((Ae d_p1 (A2 d.fEntities e (-1))).fDone)] 87,.row v6 88 1 (Ay (eP ha) ((Ae d_p1 (A2 d.fEntities e (-1))).fCalls)),.poolw hb hf 87 88 1 (Ay (Ah ha) d_p1) (some (C6 (A2 d.fEntities e (-1)),(b5,v6))),.blk hd [Ai d.fNow,rv (.map (some hb)),rv (.map (some ha))] 68,.map hb (AD (mP hb) d.fEntities),.map ha (AD (mP ha) d.fCalls),.pool ha he 44 (Ay Al d_p2)]) Aa (wv (Bc Aa) (vF H3 Aa CT (vL 0 Dz Aa (ob h4 λr7 e9 h8=>BQ IX (C5 ((Ae d_p1 (A2 d.fEntities e (-1))).fState) r7 e9) Aa (wa Aa (As (Av (Ad (WK.putsame (encw:=(Ah ha)) (xs:=d_p1) (i:=A2 d.fEntities e (-1)) (Hr:=[.blk hd [Ai d.fNow,rv (.map (some hb)),rv (.map (some ha))] 68,.map hb (AD (mP hb) d.fEntities),.map ha (AD (mP ha) d.fCalls),.pool ha he 44 (Ay Al d_p2)]) (SN _) g3 [5,16,19,20,21] ⟨Aa,Aa,Aa,Aa,Aa,trivial⟩ Aa Aa (CA (H2:=[.blk hd [Ai d.fNow,rv (.map (some hb)),rv (.map (some ha))] 68,.map hb (AD (mP hb) d.fEntities),.map ha (AD (mP ha) d.fCalls),.poolw hb hf 87 88 1 (Ay (Ah ha) d_p1) none,.pool ha he 44 (Ay Al d_p2)]) ((Ak (i:=1) Aa).trans (SH _ ((Ak (i:=1) Aa).trans (SH _ ((Ak (i:=1) Aa).trans (SH _ (SN _))))))) ?_))))))))));obtain rfl:=Aw h8;exact Au (BC Tryz.results19 (AH Aa)) (sC (sC (sC (sC (sC sN))))) ⟨Aa,Aa⟩
 ·refine A0 (AO (Af (ob hg λhh hi hj=>BQ Tryz.call47 (KT hh hi) Aa (wa Aa (As (Av ?_))))));obtain rfl:=Aw hj;exact Au (BC Tryz.results19 (AH Aa)) (sC (sC (sC (sC (sC sN))))) ⟨Aa,Aa⟩
theorem P2 (F:Nat)(he:Nat)(hb:Nat)(ha:Nat)(hh:Value)(hg:Value)(d:AI)(d_p1:(List Ap))(d_p2:(List AA))(e:An)(r:(List AA))(h:MU F d d_p1 d_p2 e=some r):Fn Tryz.prog GE 21 [rP he 0,rS e] [.blk he [Ai d.fNow,rv (.map (some hb)),rv (.map (some ha))] 68,.map hb (AD (mP hb) d.fEntities),.map ha (AD (mP ha) d.fCalls),.poolw hb hh 87 88 1 (Ay (Ah ha) d_p1) none,.pool ha hg 44 (Ay Al d_p2)] (λR H=>R=AG 8 (Ay Al r)∧H=[.blk he [Ai d.fNow,rv (.map (some hb)),rv (.map (some ha))] 68,.map hb (AD (mP hb) d.fEntities),.map ha (AD (mP ha) d.fCalls),.poolw hb hh 87 88 1 (Ay (Ah ha) d_p1) none,.pool ha hg 44 (Ay Al d_p2)]):=by
 refine enter (n:=42) Tryz.func21 Aa Tryz.ntmps21 Aa (λw Z=>?_);unfold MU at h;refine Af (wa Aa (As (Aq (Af (wm Aa (M4 (Hr:=[.map hb (AD (mP hb) d.fEntities),.map ha (AD (mP ha) d.fCalls),.poolw hb hh 87 88 1 (Ay (Ah ha) d_p1) none,.pool ha hg 44 (Ay Al d_p2)]) OS (HY he hb ha d true Aa) Aa (SN _) Aa ?_))))));rintro _ _ ⟨rfl,rfl⟩;refine wv (Cg Aa) (As (DZ Aa (Dg Aa) (A0 (AO (Af (wm Aa (wv (Bc Aa) (vF Gm Aa L9 (vL 0 LD Aa (wm Aa (wv (r:=C4 [Es hb (A2 d.fEntities e (-1)) 0,rB (BG d.fEntities e)]) (GC (enc:=(mP hb)) (xs:=d.fEntities) (z:=(-1)) (i:=1) M7 DM Qd (P7 hb) Aa Aa Aa) (wm Aa (wv (AJ Aa Aa) (wv (AJ Aa Aa) (wa Aa (wa Aa (As (Aq (Af (wm Aa (wv (Cg Aa) (As (cz h Aa (λc1 h2=>?_) (λc1 h3=>?_))))))))))))))))))))))))
 ·refine Af (wa Aa (As (Av (Ad (WK.up (d:=4) (r:=AG 8 (Ay Al ([]:List AA))) Aa (Up.le (E7.nil _)) ?_)))));obtain rfl:=Aw h2;exact Au (BC Tryz.results21 (AH Aa)) (sC (sC (sC (sC (sC sN))))) ⟨Aa,Aa⟩
 ·refine A0 (AO (Af (wa Aa (As (Aq (Af (wm Aa (ck h3 λg4 h5=>WL.takeout (encw:=(Ah ha)) (xs:=d_p1) (i:=A2 d.fEntities e (-1)) (Hr:=[.blk he [Ai d.fNow,rv (.map (some hb)),rv (.map (some ha))] 68,.map hb (AD (mP hb) d.fEntities),.map ha (AD (mP ha) d.fCalls),.pool ha hg 44 (Ay Al d_p2)]) ((Ak (i:=3) Aa).trans (SH _ (SN _))) g4 [5,20,24] ⟨Aa,Aa,Aa,trivial⟩ (λb6 v7=>?_)))))))));refine KQ (H':=[.blk b6 [AG 4 (Ay Ab ((Ae d_p1 (A2 d.fEntities e (-1))).fState)),rv v7,Ai ((Ae d_p1 (A2 d.fEntities e (-1))).fDone)] 87,.row v7 88 1 (Ay (eP ha) ((Ae d_p1 (A2 d.fEntities e (-1))).fCalls)),.poolw hb hh 87 88 1 (Ay (Ah ha) d_p1) (some (C6 (A2 d.fEntities e (-1)),(b6,v7))),.blk he [Ai d.fNow,rv (.map (some hb)),rv (.map (some ha))] 68,.map hb (AD (mP hb) d.fEntities),.map ha (AD (mP ha) d.fCalls),.pool ha hg 44 (Ay Al d_p2)]) Aa (wv (Bc Aa) (vF H3 Aa KP (vL 0 OT Aa (wv (DD (ys:=(Ae d_p1 (A2 d.fEntities e (-1))).fCalls) (enc:=(eP ha)) (i:=1) L5 Aa Aa) (wv (r:=Ai 0) (A5 Aa) (As (AU (WC.nilrow (e:=44) (sz:=8) (Jd (H2:=[.blk b6 [AG 4 (Ay Ab ((Ae d_p1 (A2 d.fEntities e (-1))).fState)),rv v7,Ai ((Ae d_p1 (A2 d.fEntities e (-1))).fDone)] 87,.row v7 88 1 (Ay (eP ha) ((Ae d_p1 (A2 d.fEntities e (-1))).fCalls)),.poolw hb hh 87 88 1 (Ay (Ah ha) d_p1) (some (C6 (A2 d.fEntities e (-1)),(b6,v7))),.blk he [Ai d.fNow,rv (.map (some hb)),rv (.map (some ha))] 68,.map hb (AD (mP hb) d.fEntities),.map ha (AD (mP ha) d.fCalls),.pool ha hg 44 (Ay Al d_p2),.row (.slice none 0 0                                            ) 44 8 (Ay Al ([]:List AA))]) ((Ak (i:=1) Aa).trans (SH _ ((Ak (i:=1) Aa).trans (SH _ ((Ak (i:=1) Aa).trans (SH _ ((Ak (i:=1) Aa).trans (SH _ ((Ak (i:=1) Aa).trans (SH _ ((Ak (i:=1) Aa).trans (SH _ ((Ak (i:=1) Aa).trans (SH _ (SN _))))))))))))))) (ob h5 λhq hr hs=>B4 (S:=Nat×((List AA)×Int)×(Value)) (V:=((List AA))×(Value)) 0 (λσ=>Ck (λσ=>GM F d d_p1 d_p2 e σ.1 σ.2) σ.1 σ.2.1=some hq) (λσ=>[(7,rv σ.2.2),(27,rv v7),(28,Ai (((Ae d_p1 (A2 d.fEntities e (-1))).fCalls).length:Int)),(29,Ai σ.2.1.2)]) (λσ=>[.blk b6 [AG 4 (Ay Ab ((Ae d_p1 (A2 d.fEntities e (-1))).fState)),rv v7,Ai ((Ae d_p1 (A2 d.fEntities e (-1))).fDone)] 87,.row v7 88 1 (Ay (eP ha) ((Ae d_p1 (A2 d.fEntities e (-1))).fCalls)),.poolw hb hh 87 88 1 (Ay (Ah ha) d_p1) (some (C6 (A2 d.fEntities e (-1)),(b6,v7))),.blk he [Ai d.fNow,rv (.map (some hb)),rv (.map (some ha))] 68,.map hb (AD (mP hb) d.fEntities),.map ha (AD (mP ha) d.fCalls),.pool ha hg 44 (Ay Al d_p2),.row σ.2.2 44 8 (Ay Al σ.2.1.1)]) (λσ=>σ.1) (F,(([]:List AA),0),(.slice none 0 0                                            )) hr (AW.c Aa (AW.c Aa (AW.c Aa (AW.c Aa AW.nil)))) (sC (sC (sC (sC (sC (sC (sC (sC sN)))))))) (λσ=>GL σ.1=some r) (λσ=>[(7,rv σ.2)]) (λσ=>[.blk b6 [AG 4 (Ay Ab ((Ae d_p1 (A2 d.fEntities e (-1))).fState)),rv v7,Ai ((Ae d_p1 (A2 d.fEntities e (-1))).fDone)] 87,.row v7 88 1 (Ay (eP ha) ((Ae d_p1 (A2 d.fEntities e (-1))).fCalls)),.poolw hb hh 87 88 1 (Ay (Ah ha) d_p1) (some (C6 (A2 d.fEntities e (-1)),(b6,v7))),.blk he [Ai d.fNow,rv (.map (some hb)),rv (.map (some ha))] 68,.map hb (AD (mP hb) d.fEntities),.map ha (AD (mP ha) d.fCalls),.pool ha hg 44 (Ay Al d_p2),.row σ.2 44 8 (Ay Al σ.1)]) ?_ ?_))))))))))
  ·rintro⟨hI,⟨hi,hd⟩,v46⟩ ht;refine Co (l':=[(7,rv v46),(27,rv v7),(28,Ai (((Ae d_p1 (A2 d.fEntities e (-1))).fCalls).length:Int)),(29,Ai hd)]) (H':=[.blk b6 [AG 4 (Ay Ab ((Ae d_p1 (A2 d.fEntities e (-1))).fState)),rv v7,Ai ((Ae d_p1 (A2 d.fEntities e (-1))).fDone)] 87,.row v7 88 1 (Ay (eP ha) ((Ae d_p1 (A2 d.fEntities e (-1))).fCalls)),.poolw hb hh 87 88 1 (Ay (Ah ha) d_p1) (some (C6 (A2 d.fEntities e (-1)),(b6,v7))),.blk he [Ai d.fNow,rv (.map (some hb)),rv (.map (some ha))] 68,.map hb (AD (mP hb) d.fEntities),.map ha (AD (mP ha) d.fCalls),.pool ha hg 44 (Ay Al d_p2),.row v46 44 8 (Ay Al hi)]) Aa Aa ?_;obtain⟨hu,rfl,hw,hk,hn⟩:=CC ht;replace hk:GM F d d_p1 d_p2 e hi hd=some hw:=hk;unfold GM at hk;refine Af (wv (CO Aa Aa) (As (Aq (cz hk Aa (λhx hy=>?_) (λhx hz=>?_)))))
   ·refine A0 (AO (Aq (AU (Af (ck hy λho h0=>wv (r:=rv (DS 1 v7 (C6 hd) 0)) (I4 (i:=1) L5 Qg Aa Aa Aa (B8 ho)) (wv (r:=Es ha (Ae ((Ae d_p1 (A2 d.fEntities e (-1))).fCalls) hd) 0) (E3 (enc:=(eP ha)) (ys:=(Ae d_p1 (A2 d.fEntities e (-1))).fCalls) (i:=1) (j:=hd) Tryz.isAgg88 Aa Aa ho Aa) (wa Aa (As (Ar (wm Aa (wm Aa (ck h0 λh1 h4=>wv (r:=Es ha (Ae ((Ae d_p1 (A2 d.fEntities e (-1))).fCalls) hd) 0) (CY Aa h1) (ck h4 λh6 h7=>wv (r:=Bb [rS (((Ae d_p2 (Ae ((Ae d_p1 (A2 d.fEntities e (-1))).fCalls) hd)).fOp).fEntity),rS (((Ae d_p2 (Ae ((Ae d_p1 (A2 d.fEntities e (-1))).fCalls) hd)).fOp).fID),rS (((Ae d_p2 (Ae ((Ae d_p1 (A2 d.fEntities e (-1))).fCalls) hd)).fOp).fOp),AG 1 (Ay Am (((Ae d_p2 (Ae ((Ae d_p1 (A2 d.fEntities e (-1))).fCalls) hd)).fOp).fArgs)),Ai (((Ae d_p2 (Ae ((Ae d_p1 (A2 d.fEntities e (-1))).fCalls) hd)).fAnswer).fErr),AG 4 (Ay Ab (((Ae d_p2 (Ae ((Ae d_p1 (A2 d.fEntities e (-1))).fCalls) hd)).fAnswer).fValue)),Ai ((Ae d_p2 (Ae ((Ae d_p1 (A2 d.fEntities e (-1))).fCalls) hd)).fFrom),Ai ((Ae d_p2 (Ae ((Ae d_p1 (A2 d.fEntities e (-1))).fCalls) hd)).fTo)]) (GD (enc:=Al) (xs:=d_p2) (j:=6) Ka E0 Aa Aa h6 Aa Aa) (ob h7 λhf h8 h9=>BQ Tryz.call45 (K4 F (AA.mk ((Ae d_p2 (Ae ((Ae d_p1 (A2 d.fEntities e (-1))).fCalls) hd)).fOp) ((Ae d_p2 (Ae ((Ae d_p1 (A2 d.fEntities e (-1))).fCalls) hd)).fAnswer) ((Ae d_p2 (Ae ((Ae d_p1 (A2 d.fEntities e (-1))).fCalls) hd)).fFrom) ((Ae d_p2 (Ae ((Ae d_p1 (A2 d.fEntities e (-1))).fCalls) hd)).fTo)) hf h8) Aa (Bj (ys:=([hf]:List AA)) (enc:=Al) (css:=[[rS hf.fOp.fEntity,rS hf.fOp.fID,rS hf.fOp.fOp,AG 1 (Ay Am hf.fOp.fArgs),Ai hf.fAnswer.fErr,AG 4 (Ay Ab hf.fAnswer.fValue),Ai hf.fFrom,Ai hf.fTo]]) (xs:=[.tmp 37]) Qf E0 NN Aa Aa Aa ⟨IK.agg ⟨Up.refl _,Up.refl _,Up.refl _,Up.refl _,Up.refl _,Up.refl _,Up.refl _,Up.refl _,trivial⟩,trivial⟩ Aa Hf Aa Aa Aa (λhA=>?_))))))))))))))));refine ck h9 λhB hC=>Exists.elim R2 λinf hinf=>D9 (xs:=hi) (ys:=([hf]:List AA)) (enc:=Al) (i:=8) Qf hinf.1 hinf.2.1 hinf.2.2.1 hinf.2.2.2 Aa Aa Aa Aa Aa (NJ.w (i:=0) Aa Aa) Hf Kl hB Aa (λhp=>?_);refine wa Aa (Ao (AV (AO (Ar (ck hC λhD hE=>wv (B0 Aa Aa hD) (wm Aa (Ao (CA (H2:=[.blk b6 [AG 4 (Ay Ab ((Ae d_p1 (A2 d.fEntities e (-1))).fState)),rv v7,Ai ((Ae d_p1 (A2 d.fEntities e (-1))).fDone)] 87,.row v7 88 1 (Ay (eP ha) ((Ae d_p1 (A2 d.fEntities e (-1))).fCalls)),.poolw hb hh 87 88 1 (Ay (Ah ha) d_p1) (some (C6 (A2 d.fEntities e (-1)),(b6,v7))),.blk he [Ai d.fNow,rv (.map (some hb)),rv (.map (some ha))] 68,.map hb (AD (mP hb) d.fEntities),.map ha (AD (mP ha) d.fCalls),.pool ha hg 44 (Ay Al d_p2),.row hp 44 8 (Ay Al (hi++([hf]:List AA))),.row (.slice (some ⟨hA,0,none⟩) 1 1) 44 8 (Ay Al ([hf]:List AA))]) ((Ak (i:=2) Aa).trans (SH _ ((Ak (i:=2) Aa).trans (SH _ ((Ak (i:=2) Aa).trans (SH _ ((Ak (i:=2) Aa).trans (SH _ ((Ak (i:=2) Aa).trans (SH _ ((Ak (i:=2) Aa).trans (SH _ ((Ak (i:=2) Aa).trans (SH _ (SN _))))))))))))))) ?_))))))));have hG:=Br hE hn;exact AF (AK (hu,(hi++([hf]:List AA),hd+1),hp) ⟨hG,ST _⟩ (AW.c Aa (AW.c Aa (AW.c Aa (AW.c Aa AW.nil)))) (sC (sC (sC (sC (sC (sC (sC (sC (sS sN))))))))))
   ·refine B7 (A7 ?_);have hH:=BZ hz hn hs;exact A7 (Bp (AK (hi,v46) hH (AW.c Aa AW.nil) (sC (sC (sC (sC (sC (sC (sC (sC sN))))))))))
  ·rintro⟨hj,hl⟩ hm;refine CB (l':=[(7,rv hl)]) (H':=[.blk b6 [AG 4 (Ay Ab ((Ae d_p1 (A2 d.fEntities e (-1))).fState)),rv v7,Ai ((Ae d_p1 (A2 d.fEntities e (-1))).fDone)] 87,.row v7 88 1 (Ay (eP ha) ((Ae d_p1 (A2 d.fEntities e (-1))).fCalls)),.poolw hb hh 87 88 1 (Ay (Ah ha) d_p1) (some (C6 (A2 d.fEntities e (-1)),(b6,v7))),.blk he [Ai d.fNow,rv (.map (some hb)),rv (.map (some ha))] 68,.map hb (AD (mP hb) d.fEntities),.map ha (AD (mP ha) d.fCalls),.pool ha hg 44 (Ay Al d_p2),.row hl 44 8 (Ay Al hj)]) Aa Aa ?_;replace hm:GL hj=some r:=hm;unfold GL at hm;refine Bn (AO (Af (wm Aa (wa Aa (As (Av (WK.putsame (encw:=(Ah ha)) (xs:=d_p1) (i:=A2 d.fEntities e (-1)) (Hr:=[.blk he [Ai d.fNow,rv (.map (some hb)),rv (.map (some ha))] 68,.map hb (AD (mP hb) d.fEntities),.map ha (AD (mP ha) d.fCalls),.pool ha hg 44 (Ay Al d_p2),.row hl 44 8 (Ay Al hj)]) (SN _) g4 [] trivial Aa Aa (WK.freeze (i:=5) Aa (WK.up (d:=4) (r:=AG 8 (Ay Al hj)) Aa (Up.fact (i:=0) Aa) (CA (H2:=[.blk he [Ai d.fNow,rv (.map (some hb)),rv (.map (some ha))] 68,.map hb (AD (mP hb) d.fEntities),.map ha (AD (mP ha) d.fCalls),.poolw hb hh 87 88 1 (Ay (Ah ha) d_p1) none,.pool ha hg 44 (Ay Al d_p2),.fact hl (AG 8 (Ay Al hj))]) ((Ak (i:=2) Aa).trans (SH _ ((Ak (i:=2) Aa).trans (SH _ ((Ak (i:=2) Aa).trans (SH _ ((Ak (i:=1) Aa).trans (SH _ ((Ak (i:=1) Aa).trans (SH _ (SN _))))))))))) ?_))))))))));obtain rfl:=Aw hm;exact Au (BC Tryz.results21 (AH Aa)) (sC (sC (sC (sC (sC (sS sN)))))) ⟨Aa,Aa⟩
theorem MP (F:Nat)(he:Nat)(hb:Nat)(ha:Nat)(hf:Value)(hg:Value)(d:AI)(d_p1:(List Ap))(d_p2:(List AA))(e:An)(r:(List An))(h:JA F d d_p1 d_p2 e=some r):Fn Tryz.prog GE 20 [rP he 0,rS e] [.blk he [Ai d.fNow,rv (.map (some hb)),rv (.map (some ha))] 68,.map hb (AD (mP hb) d.fEntities),.map ha (AD (mP ha) d.fCalls),.poolw hb hf 87 88 1 (Ay (Ah ha) d_p1) none,.pool ha hg 44 (Ay Al d_p2)] (λR H=>R=AG 1 (Ay eS r)∧H=[.blk he [Ai d.fNow,rv (.map (some hb)),rv (.map (some ha))] 68,.map hb (AD (mP hb) d.fEntities),.map ha (AD (mP ha) d.fCalls),.poolw hb hf 87 88 1 (Ay (Ah ha) d_p1) none,.pool ha hg 44 (Ay Al d_p2)]):=by
 refine enter (n:=27) Tryz.func20 Aa Tryz.ntmps20 Aa (λw Z=>?_);unfold JA at h;refine Af (wa Aa (B1 (wa Aa (As (Aq (Af (wm Aa (wm Aa (ob h λr1 e3 h2=>M4 (Hr:=[]) Tryz.call21 (P2 F he hb ha hf hg d d_p1 d_p2 e r1 e3) Aa (SN _) Aa ?_)))))))));rintro _ _ ⟨rfl,rfl⟩;refine wv (Bi (ys:=r1) (enc:=Al) Qf Aa) (wv (r:=Ai 0) (A5 Aa) (As (AU (WC.nilrow (e:=9) (sz:=1) (Jd (H2:=[.blk he [Ai d.fNow,rv (.map (some hb)),rv (.map (some ha))] 68,.map hb (AD (mP hb) d.fEntities),.map ha (AD (mP ha) d.fCalls),.poolw hb hf 87 88 1 (Ay (Ah ha) d_p1) none,.pool ha hg 44 (Ay Al d_p2),.row (.slice none 0 0         ) 9 1 (Ay eS ([]:List An))]) ((Ak (i:=1) Aa).trans (SH _ ((Ak (i:=1) Aa).trans (SH _ ((Ak (i:=1) Aa).trans (SH _ ((Ak (i:=1) Aa).trans (SH _ ((Ak (i:=1) Aa).trans (SH _ (SN _))))))))))) (ob h2 λhu hw hx=>B4 (S:=Nat×((List An)×Int)×(Value)) (V:=((List An))×(Value)) 0 (λσ=>Ck (λσ=>Ez r1 σ.1 σ.2) σ.1 σ.2.1=some hu) (λσ=>[(5,rv σ.2.2),(10,AG 8 (Ay Al r1)),(11,Ai (r1.length:Int)),(12,Ai σ.2.1.2)]) (λσ=>[.blk he [Ai d.fNow,rv (.map (some hb)),rv (.map (some ha))] 68,.map hb (AD (mP hb) d.fEntities),.map ha (AD (mP ha) d.fCalls),.poolw hb hf 87 88 1 (Ay (Ah ha) d_p1) none,.pool ha hg 44 (Ay Al d_p2),.row σ.2.2 9 1 (Ay eS σ.2.1.1)]) (λσ=>σ.1) (F,(([]:List An),0),(.slice none 0 0         )) hw (AW.c Aa (AW.c Aa (AW.c Aa (AW.c Aa AW.nil)))) (sC (sC (sC (sC (sC (sC sN)))))) (λσ=>Ey σ.1=some r) (λσ=>[(5,rv σ.2)]) (λσ=>[.blk he [Ai d.fNow,rv (.map (some hb)),rv (.map (some ha))] 68,.map hb (AD (mP hb) d.fEntities),.map ha (AD (mP ha) d.fCalls),.poolw hb hf 87 88 1 (Ay (Ah ha) d_p1) none,.pool ha hg 44 (Ay Al d_p2),.row σ.2 9 1 (Ay eS σ.1)]) ?_ ?_))))))
 ·rintro⟨hH,⟨hh,hd⟩,hi⟩ hy;refine Co (l':=[(5,rv hi),(10,AG 8 (Ay Al r1)),(11,Ai (r1.length:Int)),(12,Ai hd)]) (H':=[.blk he [Ai d.fNow,rv (.map (some hb)),rv (.map (some ha))] 68,.map hb (AD (mP hb) d.fEntities),.map ha (AD (mP ha) d.fCalls),.poolw hb hf 87 88 1 (Ay (Ah ha) d_p1) none,.pool ha hg 44 (Ay Al d_p2),.row hi 9 1 (Ay eS hh)]) Aa Aa ?_;obtain⟨hz,rfl,hm,hj,hq⟩:=CC hy;replace hj:Ez r1 hh hd=some hm:=hj;unfold Ez at hj;refine Af (wv (CO Aa Aa) (As (Aq (cz hj Aa (λh0 h1=>?_) (λh0 h3=>?_)))))
  ·refine A0 (AO (Ej (S:=((List An))×(Value)) (λσ=>DE hd σ.1=some hm) (λσ=>[(5,rv σ.2),(10,AG 8 (Ay Al r1)),(11,Ai (r1.length:Int)),(12,Ai hd)]) (λσ=>[.blk he [Ai d.fNow,rv (.map (some hb)),rv (.map (some ha))] 68,.map hb (AD (mP hb) d.fEntities),.map ha (AD (mP ha) d.fCalls),.poolw hb hf 87 88 1 (Ay (Ah ha) d_p1) none,.pool ha hg 44 (Ay Al d_p2),.row σ.2 9 1 (Ay eS σ.1)]) ?_ ?_))
   ·refine AU (Af (ck h1 λh4 h5=>wv (Bg (enc:=Al) (ys:=r1) Qf E0 Aa Aa h4) (wv (C7 Ka E0 Aa Aa Aa) (BA (cs:=[rS ([]:An),rS ([]:An),rS ([]:An),rv (.slice none 0 0),Ai 0,rv (.slice none 0 0),Ai 0,Ai 0]) NN Aa Aa (λhr=>?_)))));refine A8 (i:=0) E0 Aa Aa Aa (AZ.c Aa) Aa Aa (cs':=[rS (((Ae r1 hd).fOp).fEntity),rS (((Ae r1 hd).fOp).fID),rS (((Ae r1 hd).fOp).fOp),AG 1 (Ay Am (((Ae r1 hd).fOp).fArgs)),Ai (((Ae r1 hd).fAnswer).fErr),AG 4 (Ay Ab (((Ae r1 hd).fAnswer).fValue)),Ai ((Ae r1 hd).fFrom),Ai ((Ae r1 hd).fTo)]) Aa (H':=[.blk hr [rS (((Ae r1 hd).fOp).fEntity),rS (((Ae r1 hd).fOp).fID),rS (((Ae r1 hd).fOp).fOp),AG 1 (Ay Am (((Ae r1 hd).fOp).fArgs)),Ai (((Ae r1 hd).fAnswer).fErr),AG 4 (Ay Ab (((Ae r1 hd).fAnswer).fValue)),Ai ((Ae r1 hd).fFrom),Ai ((Ae r1 hd).fTo)] 44,.blk he [Ai d.fNow,rv (.map (some hb)),rv (.map (some ha))] 68,.map hb (AD (mP hb) d.fEntities),.map ha (AD (mP ha) d.fCalls),.poolw hb hf 87 88 1 (Ay (Ah ha) d_p1) none,.pool ha hg 44 (Ay Al d_p2),.row hi 9 1 (Ay eS hh)]) Aa (B1 (vF Io Aa Cq (vL 0 Dk Aa (wv (Bv Aa Aa) (As (cz h5 Aa (λh6 h7=>?_) (λh6 h8=>?_)))))))
    ·refine Ar (wm Aa (vF Io Aa Ei (vF BS Aa Dm (vL 0 Dx Aa (Bj (ys:=([((Ae r1 hd).fOp).fID]:List An)) (enc:=eS) (css:=[[rS (((Ae r1 hd).fOp).fID)]]) (xs:=[.tmp 22]) KO Dm Sr Aa Aa Aa ⟨IK.one Aa (Up.refl _),trivial⟩ Aa Lr Aa Aa Aa (λh9=>?_))))));refine ck h7 λhA hB=>Exists.elim RX λinf hinf=>D9 (xs:=hh) (ys:=([((Ae r1 hd).fOp).fID]:List An)) (enc:=eS) (i:=7) KO hinf.1 hinf.2.1 hinf.2.2.1 hinf.2.2.2 Aa Aa Aa Aa Aa (NJ.w (i:=0) Aa Aa) Lr R8 hA Aa (λhs=>?_);exact wa Aa (Ao (AV (CA (H2:=[.blk he [Ai d.fNow,rv (.map (some hb)),rv (.map (some ha))] 68,.map hb (AD (mP hb) d.fEntities),.map ha (AD (mP ha) d.fCalls),.poolw hb hf 87 88 1 (Ay (Ah ha) d_p1) none,.pool ha hg 44 (Ay Al d_p2),.row hs 9 1 (Ay eS (hh++([((Ae r1 hd).fOp).fID]:List An))),.row (.slice (some ⟨h9,0,none⟩) 1 1) 9 1 (Ay eS ([((Ae r1 hd).fOp).fID]:List An)),.blk hr [rS (((Ae r1 hd).fOp).fEntity),rS (((Ae r1 hd).fOp).fID),rS (((Ae r1 hd).fOp).fOp),AG 1 (Ay Am (((Ae r1 hd).fOp).fArgs)),Ai (((Ae r1 hd).fAnswer).fErr),AG 4 (Ay Ab (((Ae r1 hd).fAnswer).fValue)),Ai ((Ae r1 hd).fFrom),Ai ((Ae r1 hd).fTo)] 44]) ((Ak (i:=3) Aa).trans (SH _ ((Ak (i:=3) Aa).trans (SH _ ((Ak (i:=3) Aa).trans (SH _ ((Ak (i:=3) Aa).trans (SH _ ((Ak (i:=3) Aa).trans (SH _ (SN _))))))))))) (AF (AK (hh++([((Ae r1 hd).fOp).fID]:List An),hs) hB (AW.c Aa (AW.c Aa (AW.c Aa (AW.c Aa AW.nil)))) (sC (sC (sC (sC (sC (sC (sS (sS sN)))))))))))))
    ·exact A0 (AV (AF (AK (hh,hi) h8 (AW.c Aa (AW.c Aa (AW.c Aa (AW.c Aa AW.nil)))) (sS (sC (sC (sC (sC (sC (sC sN))))))))))
   ·rintro⟨hn,ho⟩ hk;refine Co (l':=[(5,rv ho),(10,AG 8 (Ay Al r1)),(11,Ai (r1.length:Int)),(12,Ai hd)]) (H':=[.blk he [Ai d.fNow,rv (.map (some hb)),rv (.map (some ha))] 68,.map hb (AD (mP hb) d.fEntities),.map ha (AD (mP ha) d.fCalls),.poolw hb hf 87 88 1 (Ay (Ah ha) d_p1) none,.pool ha hg 44 (Ay Al d_p2),.row ho 9 1 (Ay eS hn)]) Aa Aa ?_;replace hk:DE hd hn=some hm:=hk;unfold DE at hk;refine Ar (ck hk λhC hD=>wv (B0 Aa Aa hC) (wm Aa (Ao ?_)));have hE:=Br hD hq;exact AF (AK (hz,(hn,hd+1),ho) ⟨hE,ST _⟩ (AW.c Aa (AW.c Aa (AW.c Aa (AW.c Aa AW.nil)))) (sC (sC (sC (sC (sC (sC sN)))))))
  ·refine B7 (A7 ?_);have hG:=BZ h3 hq hx;exact A7 (Bp (AK (hh,hi) hG (AW.c Aa AW.nil) (sC (sC (sC (sC (sC (sC sN))))))))
 ·rintro⟨hp,ht⟩ hl;refine CB (l':=[(5,rv ht)]) (H':=[.blk he [Ai d.fNow,rv (.map (some hb)),rv (.map (some ha))] 68,.map hb (AD (mP hb) d.fEntities),.map ha (AD (mP ha) d.fCalls),.poolw hb hf 87 88 1 (Ay (Ah ha) d_p1) none,.pool ha hg 44 (Ay Al d_p2),.row ht 9 1 (Ay eS hp)]) Aa Aa ?_;replace hl:Ey hp=some r:=hl;unfold Ey at hl;refine Bn (AO (Af (wm Aa (wa Aa (As (Av (WK.freeze (i:=5) Aa (WK.up (d:=4) (r:=AG 1 (Ay eS hp)) Aa (Up.fact (i:=0) Aa) ?_))))))));obtain rfl:=Aw hl;exact Au (BC Tryz.results20 (AH Aa)) (sS (sC (sC (sC (sC (sC sN)))))) ⟨Aa,Aa⟩
theorem P1 (hd:Nat)(ha:Nat)(hb:Nat)(he:Value)(hf:Value)(d:AI)(d_p1:(List Ap))(d_p2:(List AA))(r:(List An))(h:MT d d_p1 d_p2=some r):Fn Tryz.prog GE 22 [rP hd 0] [.blk hd [Ai d.fNow,rv (.map (some ha)),rv (.map (some hb))] 68,.map ha (AD (mP ha) d.fEntities),.map hb (AD (mP hb) d.fCalls),.poolw ha he 87 88 1 (Ay (Ah hb) d_p1) none,.pool hb hf 44 (Ay Al d_p2)] (λR H=>R=AG 1 (Ay eS r)∧H=[.blk hd [Ai d.fNow,rv (.map (some ha)),rv (.map (some hb))] 68,.map ha (AD (mP ha) d.fEntities),.map hb (AD (mP hb) d.fCalls),.poolw ha he 87 88 1 (Ay (Ah hb) d_p1) none,.pool hb hf 44 (Ay Al d_p2)]):=by
 refine enter (n:=12) Tryz.func22 Aa Tryz.ntmps22 Aa (λw Z=>?_);unfold MT at h;refine Af (wa Aa (As (Aq (Af (wm Aa (M4 (Hr:=[.map ha (AD (mP ha) d.fEntities),.map hb (AD (mP hb) d.fCalls),.poolw ha he 87 88 1 (Ay (Ah hb) d_p1) none,.pool hb hf 44 (Ay Al d_p2)]) OS (HY hd ha hb d true Aa) Aa (SN _) Aa ?_))))));rintro _ _ ⟨rfl,rfl⟩;refine wv (Cg Aa) (As (DZ Aa (Dg Aa) (A0 (AO (Af (wm Aa (wv (Bc Aa) (vF Gm Aa L9 (vL 0 LD Aa (EP (rs:=[rv (.map (some ha))]) (Hin:=[]) (Hr:=[.blk hd [Ai d.fNow,rv (.map (some ha)),rv (.map (some hb))] 68,.map ha (AD (mP ha) d.fEntities),.map hb (AD (mP hb) d.fCalls),.poolw ha he 87 88 1 (Ay (Ah hb) d_p1) none,.pool hb hf 44 (Ay Al d_p2)]) Tryz.call50 Aa (SN _) (MV ha) Aa ?_))))))))));rintro _ _ ⟨b1,rfl,rfl⟩;refine ck h λg2 h3=>EP (rs:=[rv (.func (.func 74) #[] #[(.pointer (some ⟨b1,0,none⟩))])]) (Hin:=[.blk b1 [rv (.map (some ha))] 65,.map ha (AD (mP ha) d.fEntities)]) (Hr:=[.blk hd [Ai d.fNow,rv (.map (some ha)),rv (.map (some hb))] 68,.map hb (AD (mP hb) d.fCalls),.poolw ha he 87 88 1 (Ay (Ah hb) d_p1) none,.pool hb hf 44 (Ay Al d_p2)]) Tryz.call49 Aa ((Ak (i:=0) Aa).trans (SH _ ((Ak (i:=1) Aa).trans (SH _ (SN _))))) (LM (mP ha) d.fEntities b1 ha g2) Aa ?_;rintro _ _ ⟨v4,rfl,rfl⟩;refine wa Aa (As (Av (WK.freeze (i:=0) Aa (WK.up (d:=2) (r:=AG 1 (Ay eS (K5 d.fEntities))) Aa (Up.fact (i:=0) Aa) (CA (H2:=[.blk hd [Ai d.fNow,rv (.map (some ha)),rv (.map (some hb))] 68,.map ha (AD (mP ha) d.fEntities),.map hb (AD (mP hb) d.fCalls),.poolw ha he 87 88 1 (Ay (Ah hb) d_p1) none,.pool hb hf 44 (Ay Al d_p2),.fact v4 (AG 1 (Ay eS (K5 d.fEntities))),.blk b1 [rv (.map (some ha))] 65]) ((Ak (i:=3) Aa).trans (SH _ ((Ak (i:=2) Aa).trans (SH _ ((Ak (i:=2) Aa).trans (SH _ ((Ak (i:=2) Aa).trans (SH _ ((Ak (i:=2) Aa).trans (SH _ (SN _))))))))))) ?_)))));obtain rfl:=Aw h3;exact Au (BC Tryz.results22 (AH Aa)) (sC (sC (sC (sC (sC (sS (sS sN))))))) ⟨Aa,Aa⟩
end Go.Proofs.YtfbmdidnlhifjaaGreatDoor.Q
namespace Go.Proofs.YtfbmdidnlhifjaaGreatDoor
open Go
set_option linter.unusedVariables false
def DF (F:Nat) :Option (Bool):=
 B5 (Rw) λr1=>B5 (JN ([97]:An) 1) λr9=>B5 (HV F r1.1 r1.2.1 r1.2.2 r9 5) λhd=>Bm (!(!decide (hd.1=0)))<|B5 (JN ([98]:An) 2) λhh=>B5 (HV F hd.2.1 hd.2.2.1 hd.2.2.2 hh 5) λhe=>Bm (!(!decide (he.1=0)))<|B5 (JN ([98]:An) 1) λhi=>B5 (HV F he.2.1 he.2.2.1 he.2.2.2 hi 5) λhb=>Bm (!(!decide (hb.1=19)))<|B5 (JA F hb.2.1 hb.2.2.1 hb.2.2.2 ([120]:An)) λhj=>B5 (N2 F hb.2.1 hb.2.2.1 hb.2.2.2 ([120]:An) 6) λhf=>B5 (N2 F hf.2.2.1 hf.2.2.2.1 hf.2.2.2.2 ([120]:An) 7) λha=>B5 (MR ha.2.2.1 ha.2.2.2.1 ha.2.2.2.2 ([120]:An)) λhg=>B5 (Lk F hj ([([97]:An),([98]:An)]:List An)) λhk=>Bm (hk)<|Bm (hf.2.1)<|Bm (ha.2.1)<|Bm (decide (ha.1.fTo=7))<|Bm (decide ((ha.1.fAnswer.fValue.length:Int)=1))<|Bm (Cd 0 (ha.1.fAnswer.fValue.length:Int))<|Bm (decide (((Ae ha.1.fAnswer.fValue 0).fInt)=3))<|Bm (decide ((hg.length:Int)=1))<|Bm (Cd 0 (hg.length:Int))<|Bm (decide (((Ae hg 0).fInt)=3))<|B5 (MT ha.2.2.1 ha.2.2.2.1 ha.2.2.2.2) λhl=>B5 (Lk F hl ([([120]:An)]:List An)) λhm=>some hm
def JK (F:Nat)(state:(List Ac))(op:A3):Option (Bool):=
 Bm ((Eo F state).isSome)<|Bm (imp (!(!(ov (Eo F state)))) ((G1 F op).isSome))<|Bq (((!(ov (Eo F state)))||(!(ov (G1 F op))))) (B5 (DF F) λr9=>some r9) (B5 (RG F state op) λha=>B5 (LT F state op) λhb=>Bm ((DB F ha.1 hb.1).isSome)<|Bm (imp ((ov (DB F ha.1 hb.1))) ((Dh F ha.2.1 hb.2.1).isSome))<|Bm (imp ((ov (DB F ha.1 hb.1))) (imp ((ov (Dh F ha.2.1 hb.2.1))) (imp (decide (ha.2.2=hb.2.2)) ((DF F).isSome))))<|some ((ov (DB F ha.1 hb.1))&&((ov (Dh F ha.2.1 hb.2.1))&&((decide (ha.2.2=hb.2.2))&&(ov (DF F))))))
end Go.Proofs.YtfbmdidnlhifjaaGreatDoor
namespace Go.Proofs.YtfbmdidnlhifjaaGreatDoor.Q
open Go Go.RowKit
set_option linter.unusedVariables false
set_option linter.unusedSimpArgs false
set_option maxRecDepth 100000
set_option maxHeartbeats 4000000
theorem JL (F:Nat)  (r:Bool)(h:DF F=some r):Fn Tryz.prog GE 10 [] [] (λR H=>R=rB r∧H=[]):=by
 refine enter (n:=87) Tryz.func10 Aa Tryz.ntmps10 Aa (λw Z=>?_);unfold DF at h;refine Af (wa Aa (B1 (ob h λr1 e3 h2=>M4 (Hr:=[]) Tryz.call16 (Rv r1 e3) Aa (SN _) Aa ?_)));rintro _ _ ⟨b4,b5,b6,v7,v8,rfl,rfl⟩;refine wa Aa (As (Aq (Af (wm Aa (ob h2 λr9 hz h0=>BQ Tryz.call35 (JM ([97]:An) 1 r9 hz) Aa (ob h0 λhe h1 h3=>M4 (Hr:=[]) Tryz.call18 (I7 F b4 b5 b6 v7 v8 r1.1 r1.2.1 r1.2.2 r9 5 he h1) Aa (SN _) Aa ?_))))));rintro _ _ ⟨h4,h5,rfl,rfl⟩;refine wv (CZ Aa Aa) (wm Aa (ck h3 λg17 h6=>Bk (b:=!decide (he.1=0)) Aa Aa (Bool.not_eq_eq_eq_not.1 g17) (wm Aa (Bk (b:=!decide (he.1=0)) Aa Aa (Bool.not_eq_eq_eq_not.1 g17) (ob h6 λhr h7 h8=>BQ Tryz.call35 (JM ([98]:An) 2 hr h7) Aa (Bk (b:=!decide (he.1=0)) Aa Aa (Bool.not_eq_eq_eq_not.1 g17) (ob h8 λhd h9 hA=>M4 (Hr:=[]) Tryz.call18 (I7 F b4 b5 b6 h4 h5 he.2.1 he.2.2.1 he.2.2.2 hr 5 hd h9) Aa (SN _) Aa ?_)))))));rintro _ _ ⟨hB,v26,rfl,rfl⟩;refine Bk (b:=!decide (he.1=0)) Aa Aa (Bool.not_eq_eq_eq_not.1 g17) (wv (CZ Aa Aa) (wv (r:=rB (!decide (hd.1=0))) (A4 (b:=!decide (he.1=0)) Aa (Bool.not_eq_eq_eq_not.1 g17) Aa) (wm Aa (ck hA λhj hC=>Bk (b:=!decide (hd.1=0)) Aa Aa (Bool.not_eq_eq_eq_not.1 hj) (wm Aa (Bk (b:=!decide (hd.1=0)) Aa Aa (Bool.not_eq_eq_eq_not.1 hj) (ob hC λhs hD hE=>BQ Tryz.call35 (JM ([98]:An) 1 hs hD) Aa (Bk (b:=!decide (hd.1=0)) Aa Aa (Bool.not_eq_eq_eq_not.1 hj) (ob hE λhf hG hH=>M4 (Hr:=[]) Tryz.call18 (I7 F b4 b5 b6 hB v26 hd.2.1 hd.2.2.1 hd.2.2.2 hs 5 hf hG) Aa (SN _) Aa ?_)))))))));rintro _ _ ⟨v35,v36,rfl,rfl⟩;refine Bk (b:=!decide (hd.1=0)) Aa Aa (Bool.not_eq_eq_eq_not.1 hj) (wv (CZ Aa Aa) (wv (r:=rB (!decide (hf.1=19))) (A4 (b:=!decide (hd.1=0)) Aa (Bool.not_eq_eq_eq_not.1 hj) Aa) (As (ck hH λhI hJ=>DZ (b:=!decide (hf.1=19)) Aa (Bool.not_eq_eq_eq_not.1 hI) (A0 (AO (Af (wm Aa (ob hJ λht hK hL=>M4 (Hr:=[]) Tryz.call20 (MP F b4 b5 b6 v35 v36 hf.2.1 hf.2.2.1 hf.2.2.2 ([120]:An) ht hK) Aa (SN _) Aa ?_)))))))));rintro _ _ ⟨rfl,rfl⟩;refine wa Aa (B1 (wm Aa (ob hL λhb hN hO=>M4 (Hr:=[]) Tryz.call17 (N1 F b4 b5 b6 v35 v36 hf.2.1 hf.2.2.1 hf.2.2.2 ([120]:An) 6 hb hN) Aa (SN _) Aa ?_)));rintro _ _ ⟨hu,v46,rfl,rfl⟩;refine wm Aa (wv (AJ Aa Aa) (wv (AJ Aa Aa) (BA (cs:=[rS ([]:An),rS ([]:An),rS ([]:An),rv (.slice none 0 0),Ai 0,rv (.slice none 0 0),Ai 0,Ai 0]) NN Aa Aa (λhk=>?_))));refine A8 (i:=0) E0 Aa Aa Aa (AZ.c Aa) Aa Aa (cs':=[rS hb.1.fOp.fEntity,rS hb.1.fOp.fID,rS hb.1.fOp.fOp,AG 1 (Ay Am hb.1.fOp.fArgs),Ai hb.1.fAnswer.fErr,AG 4 (Ay Ab hb.1.fAnswer.fValue),Ai hb.1.fFrom,Ai hb.1.fTo]) Aa (H':=[.blk hk (Al hb.1) 44,.blk b4 [Ai hb.2.2.1.fNow,rv (.map (some b5)),rv (.map (some b6))] 68,.map b5 (AD (mP b5) hb.2.2.1.fEntities),.map b6 (AD (mP b6) hb.2.2.1.fCalls),.poolw b5 hu 87 88 1 (Ay (Ah b6) hb.2.2.2.1) none,.pool b6 v46 44 (Ay Al hb.2.2.2.2)]) Aa (wa Aa (B1 (wm Aa (ob hO λha hP hQ=>M4 (Hr:=[.blk hk (Al hb.1) 44]) Tryz.call17 (N1 F b4 b5 b6 hu v46 hb.2.2.1 hb.2.2.2.1 hb.2.2.2.2 ([120]:An) 7 ha hP) Aa ((Ak (i:=1) Aa).trans (SH _ ((Ak (i:=1) Aa).trans (SH _ ((Ak (i:=1) Aa).trans (SH _ ((Ak (i:=1) Aa).trans (SH _ ((Ak (i:=1) Aa).trans (SH _ (SN _))))))))))) Aa ?_))));rintro _ _ ⟨v51,ho,rfl,rfl⟩;refine wm Aa (wv (AJ Aa Aa) (wv (AJ Aa Aa) (BA (cs:=[rS ([]:An),rS ([]:An),rS ([]:An),rv (.slice none 0 0),Ai 0,rv (.slice none 0 0),Ai 0,Ai 0]) NN Aa Aa (λhp=>?_))));refine A8 (i:=0) E0 Aa Aa Aa (AZ.c Aa) Aa Aa (cs':=[rS ha.1.fOp.fEntity,rS ha.1.fOp.fID,rS ha.1.fOp.fOp,AG 1 (Ay Am ha.1.fOp.fArgs),Ai ha.1.fAnswer.fErr,AG 4 (Ay Ab ha.1.fAnswer.fValue),Ai ha.1.fFrom,Ai ha.1.fTo]) Aa (H':=[.blk hp (Al ha.1) 44,.blk b4 [Ai ha.2.2.1.fNow,rv (.map (some b5)),rv (.map (some b6))] 68,.map b5 (AD (mP b5) ha.2.2.1.fEntities),.map b6 (AD (mP b6) ha.2.2.1.fCalls),.poolw b5 v51 87 88 1 (Ay (Ah b6) ha.2.2.2.1) none,.pool b6 ho 44 (Ay Al ha.2.2.2.2),.blk hk (Al hb.1) 44]) Aa (wa Aa (B1 (wm Aa (ob hQ λhq hR hS=>M4 (Hr:=[.blk hp (Al ha.1) 44,.blk hk (Al hb.1) 44]) Tryz.call19 (Py b4 b5 b6 v51 ho ha.2.2.1 ha.2.2.2.1 ha.2.2.2.2 ([120]:An) hq hR) Aa ((Ak (i:=1) Aa).trans (SH _ ((Ak (i:=1) Aa).trans (SH _ ((Ak (i:=1) Aa).trans (SH _ ((Ak (i:=1) Aa).trans (SH _ ((Ak (i:=1) Aa).trans (SH _ (SN _))))))))))) Aa ?_))));rintro _ _ ⟨rfl,rfl⟩;refine wa Aa (B1 (wm Aa (Bj (ys:=([([97]:An),([98]:An)]:List An)) (enc:=eS) (css:=[[rS ([97]:An)],[rS ([98]:An)]]) (xs:=[.const (.string ⟨#[97]⟩),.const (.string ⟨#[98]⟩)]) KO Dm Sr Aa Aa Aa ⟨IK.one Aa (Up.refl _),IK.one Aa (Up.refl _),trivial⟩ Aa Lr Aa Aa Aa (λhT=>?_))));refine WL.freeze (i:=0) Aa (WL.up (d:=40) (r:=AG 1 (Ay eS ([([97]:An),([98]:An)]:List An))) Aa (Up.fact (i:=0) Aa) (ob hS λhU hV hW=>BQ Tryz.call23 (Mo F ht ([([97]:An),([98]:An)]:List An) hU hV) Aa (wm Aa (ck hW λhw hX=>wo hw (wm Aa (D4 Aa hw Aa (wm Aa (ck hX λhx hY=>wo hx (wm Aa (D4 Aa hx Aa (wm Aa (ck hY λhm hZ=>wo hm (vF Io Aa Cq (wo hm (vL 6 Dk Aa (wo hm (wv (Bv Aa Aa) (D4 Aa hm Aa (wm Aa ?_)))))))))))))))))));refine ck hZ λhh ga=>wo hh (vF Io Aa Bw (wo hh (vF L7 Aa CT (wo hh (vL 6 Dz Aa (wo hh (wv (Bi (ys:=ha.1.fAnswer.fValue) (enc:=Ab) BF Aa) (wo hh (wv (Bv Aa Aa) (D4 Aa hh Aa (wm Aa (ck ga λhg gb=>wo hg (vF Io Aa Bw (wo hg (vF L7 Aa CT (wo hg (vL 6 Dz Aa (wo hg (ck gb λgc gd=>wv (Bg (enc:=Ab) (ys:=ha.1.fAnswer.fValue) BF BJ Aa Aa gc) (wo hg ?_))))))))))))))))))));refine wv (Be Bh Aa Cq Aa Aa) (wo hg (wv (Ba Dk Aa Aa) (wo hg (wv (Bv Aa Aa) (D4 Aa hg Aa (wm Aa (ck gd λhn ge=>wo hn (wm Aa (wo hn (wv (Bi (ys:=hq) (enc:=Ab) BF Aa) (wo hn (wv (Bv Aa Aa) (D4 Aa hn Aa (wm Aa (ck ge λhi gf=>wo hi (wm Aa (wo hi (ck gf λgg gh=>wv (Bg (enc:=Ab) (ys:=hq) BF BJ Aa Aa gg) (wo hi (wv (Be Bh Aa Cq Aa Aa) ?_))))))))))))))))))));refine wo hi (wv (Ba Dk Aa Aa) (wo hi (wv (Bv Aa Aa) (D4 Aa hi Aa (wm Aa (ck gh λhl gi=>wo hl (wm Aa (wo hl (ob gi λhy gj gl=>M4 (Hr:=[.fact (.slice (some ⟨hT,0,none⟩) 2 2) (AG 1 (Ay eS ([([97]:An),([98]:An)]:List An))),.blk hp (Al ha.1) 44,.blk hk (Al hb.1) 44]) Tryz.call22 (P1 b4 b5 b6 v51 ho ha.2.2.1 ha.2.2.2.1 ha.2.2.2.2 hy gj) Aa ((Ak (i:=1) Aa).trans (SH _ ((Ak (i:=1) Aa).trans (SH _ ((Ak (i:=1) Aa).trans (SH _ ((Ak (i:=1) Aa).trans (SH _ ((Ak (i:=1) Aa).trans (SH _ (SN _))))))))))) Aa ?_)))))))));rintro _ _ ⟨rfl,rfl⟩;refine wo hl (Bj (ys:=([([120]:An)]:List An)) (enc:=eS) (css:=[[rS ([120]:An)]]) (xs:=[.const (.string ⟨#[120]⟩)]) KO Dm Sr Aa Aa Aa ⟨IK.one Aa (Up.refl _),trivial⟩ Aa Lr Aa Aa Aa (λgr=>?_));refine wo hl (WL.freeze (i:=0) Aa (WL.up (d:=84) (r:=AG 1 (Ay eS ([([120]:An)]:List An))) Aa (Up.fact (i:=0) Aa) (ob gl λgm gp gq=>BQ Tryz.call23 (Mo F hy ([([120]:An)]:List An) gm gp) Aa (D4 Aa hl Aa (wa Aa (As (Av ?_)))))));obtain rfl:=Aw gq;exact Au (BC Tryz.results10 (AH Aa)) (sS (sS (sS (sS (sS (sS (sS (sS (sS sN))))))))) ⟨Aa,Aa⟩
theorem PE (F:Nat)(state:(List Ac))(op:A3)(r:Bool)(h:JK F state op=some r):Fn Tryz.prog GE 3 [AG 4 (Ay Ab state),Bb (Aj op)] [] (λR H=>R=rB r∧H=[]):=by
 refine enter (n:=50) Tryz.func3 Aa Tryz.ntmps3 Aa (λw Z=>?_);unfold JK at h;refine Af (B6 Aa Aa (λb1=>?_));refine wa Aa (As (Aq (ck h λg2 h3=>ck h3 λg4 h5=>AL [(0,AG 4 (Ay Ab state)),(3,rP b1 0),(18,rB ((!(ov (Eo F state)))||(!(ov (G1 F op)))))] [.blk b1 (Aj op) 25] ?_ ?_)))
 ·refine Ar (wm Aa (BQ Tryz.call8 (Mp F state (ov (Eo F state)) (DJ g2)) Aa (wv (Cg Aa) (wm Aa (AQ (!(ov (Eo F state))) (λc6=>?_) (λc6=>?_))))))
  ·refine wf c6 (wf c6 (wf c6 (wv (r:=rB true) (At Aa c6 Aa) (Ao ?_))));exact BP c6
  ·refine wo c6 (wv (Bd (i:=0) Hh Ei Aa Aa Aa Aa) (wo c6 (BQ Tryz.call9 (PD F op (ov (G1 F op)) (DJ (D3 g4 c6))) Aa (wo c6 (wv (Cg Aa) (Er Aa c6 Aa (Ao ?_)))))));exact BP c6
 refine cz h5 Aa (λc7 h8=>?_) (λc7 hh=>?_)
 ·refine Af (ob h8 λr9 hi hj=>BQ Tryz.call10 (JL F r9 hi) Aa (wa Aa (As (Av (Ad ?_)))));obtain rfl:=Aw hj;exact Au (BC Tryz.results3 (AH Aa)) (sS sN) ⟨Aa,Aa⟩
 ·refine A0 (AO (Af (wm Aa (wv (Bd (i:=0) Hh Ei Aa Aa Aa Aa) (ob hh λha hk hl=>BQ Tryz.call11 (Rd F state op ha hk) Aa (wm Aa (wv (AJ Aa Aa) (wv (AJ Aa Aa) (wv (AJ Aa Aa) (BA (cs:=[Ai 0,rv (.slice none 0 0)]) GX Aa Aa (λhg=>?_)))))))))));refine wa Aa (A8 (i:=0) Bw Aa Aa Aa (AZ.c Aa) Aa Aa (cs':=[Ai ha.2.1.fErr,AG 4 (Ay Ab ha.2.1.fValue)]) Aa (H':=[.blk hg (A1 ha.2.1) 31,.blk b1 (Aj op) 25]) Aa (wa Aa (B1 (wm Aa (wv (Bd (i:=1) Hh Ei Aa Aa Aa Aa) (ob hl λhd hm hn=>BQ Tryz.call12 (Qy F state op hd hm) Aa (wm Aa (wv (AJ Aa Aa) (wv (AJ Aa Aa) (wv (AJ Aa Aa) (BA (cs:=[Ai 0,rv (.slice none 0 0)]) GX Aa Aa (λho=>?_))))))))))));refine wa Aa (A8 (i:=0) Bw Aa Aa Aa (AZ.c Aa) Aa Aa (cs':=[Ai hd.2.1.fErr,AG 4 (Ay Ab hd.2.1.fValue)]) Aa (H':=[.blk ho (A1 hd.2.1) 31,.blk hg (A1 ha.2.1) 31,.blk b1 (Aj op) 25]) Aa (wa Aa (As (ck hn λhp hq=>ck hq λhr hs=>ck hs λht hu=>AL [(4,rB ((ov (DB F ha.1 hd.1))&&((ov (Dh F ha.2.1 hd.2.1))&&((decide (ha.2.2=hd.2.2))&&(ov (DF F))))))] [] ?_ ?_))))
  ·refine Ar (wm Aa (wm Aa (BQ Tryz.call13 (Ji F ha.1 hd.1 (ov (DB F ha.1 hd.1)) (DJ hp)) Aa (wm Aa (AQ ((ov (DB F ha.1 hd.1))) (λhb=>?_) (λhb=>?_))))))
   ·refine wo hb (wv (Bd (i:=1) Cs Bw Aa Aa Aa Aa) (wo hb (wv (Bd (i:=0) Cs Bw Aa Aa Aa Aa) (wo hb (BQ Tryz.call14 (MX F ha.2.1 hd.2.1 (ov (Dh F ha.2.1 hd.2.1)) (DJ (Cl hr hb))) Aa (D4 Aa hb Aa (wm Aa (AQ ((ov (Dh F ha.2.1 hd.2.1))) (λhe=>?_) (λhe=>?_)))))))))
    ·refine wo he (wm Aa (wo he (wm Aa (wo he (wv (Bv Aa Aa) (D4 Aa he Aa (wm Aa (AQ (decide (ha.2.2=hd.2.2)) (λhf=>?_) (λhf=>?_)))))))))
     ·refine wo hf (BQ Tryz.call10 (JL F (ov (DF F)) (DJ (Cl (Cl (Cl ht hb) he) hf))) Aa (D4 Aa hf Aa (wa Aa (Ao ?_))));exact BP (And.intro hb (And.intro he hf))
     ·refine wf hf (wv (r:=rB false) (A4 Aa hf Aa) (wa Aa (Ao ?_)));exact BP (And.intro hb (And.intro he hf))
    ·refine wf he (wf he (wf he (wv (r:=rB false) (A4 Aa he Aa) (wm Aa (wz Aa Aa (wv (r:=rB false) (A4 (b:=false) Aa Aa Aa) (wa Aa (Ao ?_))))))));exact BP (And.intro hb he)
   ·refine wf hb (wf hb (wf hb (wv (r:=rB false) (A4 Aa hb Aa) (wm Aa (wz Aa Aa (wz Aa Aa (wz Aa Aa (wv (r:=rB false) (A4 (b:=false) Aa Aa Aa) (wm Aa (wz Aa Aa (wv (r:=rB false) (A4 (b:=false) Aa Aa Aa) (wa Aa (Ao ?_)))))))))))));exact BP hb
  refine Av ?_;obtain rfl:=Aw hu;exact Au (BC Tryz.results3 (AH Aa)) sN ⟨Aa,Aa⟩
end Go.Proofs.YtfbmdidnlhifjaaGreatDoor.Q
namespace Go.Proofs.YtfbmdidnlhifjaaGreatDoor.lawEntityDoes
open Go
set_option linter.unusedVariables false
def Oj (y:Ac):Bool:=(BO .i64) y.fKind&&(BO .i64) y.fInt&&Q3 y.fStr&&(BO .i64) y.fN
def Pt (y:A3):Bool:=Q3 y.fEntity&&Q3 y.fID&&Q3 y.fOp&&(λys:(List (List Ac))=>ys.all (λys:(List Ac)=>ys.all Oj&&decide (ys.length≤9223372036854775807))&&decide (ys.length≤9223372036854775807)) y.fArgs
def SF:Prop:=∀(y0:(List Ac)) (y1:A3) (o0:(λys:(List Ac)=>ys.all Oj&&decide (ys.length≤9223372036854775807)) y0=true) (o1:Pt y1=true),∃F,JK F y0 y1=some true
end Go.Proofs.YtfbmdidnlhifjaaGreatDoor.lawEntityDoes
namespace Go.Proofs.YtfbmdidnlhifjaaGreatDoor
open Go
set_option linter.unusedVariables false
set_option linter.unusedSimpArgs false
def Qa (c:UInt8):Bool:=decide (32≤c.toNat)&&decide (c.toNat≤126)
theorem Lw {s:An}{x:Int}{c:UInt8}(h:s[x.toNat]? =some c):Ih s x=(c.toNat:Int):=by simp[Ih,h]
theorem Kc {α:Type}{p:α→Bool}{s:List α}{k:Nat}{c:α}(h:s[k]? =some c):(s.take (k+1)).all p=((s.take k).all p&&p c):=by
 rw[List.take_add_one,h];simp
theorem Lx {α:Type}{p:α→Bool}{s:List α}{k:Nat}{c:α}(h:s[k]? =some c)(hp:p c=false):s.all p=false:=by
 rw[List.all_eq_false];exact⟨c,SP h,by simp[hp]⟩
theorem LF {F:Nat}{s:An}(hF:s.length<F)(hs:s.length≤9223372036854775807):H7 F s=some (s.all Qa):=by
 obtain⟨o,h1,h2⟩:=EZ (body:=λσ=>EB s σ) (λx=>0≤x∧x≤(s.length:Int)∧(s.take x.toNat).all Qa=true) (λx=>s.length-x.toNat)
  (λo=>BU (λ_=>EA) o=some (s.all Qa)) (λx ⟨h0,hl,ha⟩=>by
   unfold EB
   by_cases hx:x<(s.length:Int)
   ·obtain⟨c,hc⟩:∃c,s[x.toNat]? =some c:=⟨s[x.toNat]'(by omega),SK (by omega)⟩
    rw[AR (by simpa using hx),Bs h0 hx,Lw hc]
    cases ho:Qa c with
    | false=>
     refine .inr ⟨.ret false,?_,?_⟩
     ·rw[AR];simp only[Qa,Bool.and_eq_false_iff,SJ] at ho;simp only[T5,SI];omega
     ·simp[BU,Lx hc ho]
    | true=>
     refine .inl ⟨x+1,?_,⟨by omega,by omega,?_⟩,by omega⟩
     ·rw[AE,AT (by omega) (by omega)];simp only[Qa,SM,SI] at ho;simp only[Tr,SJ];omega
     ·rw[show(x+1).toNat=x.toNat+1 from by omega,Kc hc,ha,ho];rfl
   ·refine .inr ⟨.go (),by rw[AE (by simpa using hx)],?_⟩;rw[show x.toNat=s.length from by omega,List.take_length] at ha;simp[BU,EA,ha]) F 0 ⟨by omega,by omega,by simp⟩ (by simpa using hF)
 unfold H7;rw[Bf h1,h2]
theorem KY (F:Nat)(s:An):Gr F s=H7 F s:=rfl
theorem NY {F:Nat}{s:An}(hF:s.length<F)(hs:s.length≤9223372036854775807):Gr F s=some (s.all Qa):=by rw[KY];exact LF hF hs
def pl (c:Ac):Bool:=
 bif decide (c.fKind=1) then(decide (c.fInt=0)&&(decide (c.fStr=[])&&decide (c.fN=0))) else
 bif decide (c.fKind=2) then((decide (c.fInt=0)||decide (c.fInt=1))&&(decide (c.fStr=[])&&decide (c.fN=0))) else
 bif decide (c.fKind=3) then(decide (c.fStr=[])&&decide (c.fN=0)) else
 bif decide (c.fKind=4) then(decide (c.fInt=0)&&(decide (c.fN=0)&&c.fStr.all Qa)) else
 bif decide (c.fKind=5) then(decide (c.fInt=0)&&(decide (c.fStr=[])&&decide (0≤c.fN))) else
 bif decide (c.fKind=6) then(decide (c.fInt=0)&&(decide (c.fStr=[])&&decide (0≤c.fN))) else false
theorem Di {α:Type}{p:Bool}{x y:Option α}{a b:α}(h:x=some a)(h':y=some b):Bq p x y=some (bif p then a else b):=by cases p<;>simp[Bq,h,h']
theorem NR {F:Nat}{c:Ac}(hF:c.fStr.length<F)(hs:c.fStr.length≤9223372036854775807):J1 F c=some (pl c):=by
 unfold J1 pl;rw[LF hF hs];refine Di rfl (Di ?_ (Di rfl (Di ?_ (Di rfl (Di rfl rfl)))))
 ·cases h:decide (c.fInt=0)<;>simp
 ·simp[imp,Bm,ov]
def IU:List Az→List Az
 | []=>[]
 | e::S=>bif decide (1<e.fLeft) then⟨e.fPairs,e.fLeft-1,e.fPairs,e.fLast,e.fStarted⟩::S else IU S
theorem Js {α:Type}[Inhabited α](xs:List α)(e:α):Ae (xs++[e]) (xs.length:Int)=e:=by simp[Ae]
theorem HE {α:Type}(xs:List α)(e e':α):List.set (xs++[e]) (Int.toNat (xs.length:Int)) e'=xs++[e']:=by simp
theorem Ia {α:Type}(xs:List α)(e:α):((xs++[e]).length:Int)-1=(xs.length:Int):=by simp
theorem NU {α:Type}(xs:List α)(e:α):List.take (Int.toNat (xs.length:Int)) (xs++[e])=xs:=by simp
theorem IM:∀(S:List Az) (F:Nat),S.length<F→(∀e∈S,1≤e.fLeft∧e.fLeft≤9223372036854775807)→S.length≤4611686018427387904→
  ∃o,Ck (λσ=>CF σ) F S.reverse=some o∧BU (λν=>Dn ν) o=some (IU S).reverse
 | [],F+1,_,_,_=>⟨.go [],by simp[Ck,CF,Bq],by simp[BU,Dn,IU]⟩
 | e::S,F+1,hF,hb,hl=>by
  obtain⟨h1,h2⟩:=hb e (by simp);simp only[SO] at hF hl;have hx:S.reverse.length=S.length:=by simp
  generalize hxs:S.reverse=xs at hx;have hr:(e::S).reverse=xs++[e]:=by simp[hxs]
  rw[hr];have hb1:CF (xs++[e])=bif decide (1<e.fLeft) then some (.out (.ret (xs++[⟨e.fPairs,e.fLeft-1,e.fPairs,e.fLast,e.fStarted⟩]))) else some (.next xs):=by
   unfold CF;rw[AR (by simp)];simp only[Ia,Js,HE,OC];rw[AT (by omega) (by omega),Bs (by omega) (by simp;omega),AT (by omega) (by omega)]
   cases hd:decide (1<e.fLeft) with
   | true=>
    rw[AR (by simp at hd ⊢;omega)];rfl
   | false=>
    rw[AE (by simp at hd ⊢;omega),AT (by omega) (by omega),Ig (by omega) (by simp;omega),NU];rfl
  rw[Ck,hb1]
  cases hd:decide (1<e.fLeft) with
  | true=>exact⟨_,rfl,by simp[BU,Dn,IU,hd,hxs]⟩
  | false=>
   obtain⟨o,ho1,ho2⟩:=IM S F (by omega) (λe he=>hb e (by simp[he])) (by omega);rw[hxs] at ho1;exact⟨o,ho1,by rw[ho2];simp[IU,hd]⟩
theorem J2 {S:List Az}{F:Nat}(hF:S.length<F)(hb:∀e∈S,1≤e.fLeft∧e.fLeft≤9223372036854775807)(hl:S.length≤4611686018427387904):HA F S.reverse=some (IU S).reverse:=by
 obtain⟨o,h1,h2⟩:=IM S F hF hb hl;unfold HA;rw[Bf h1,h2]
def I1 (s:An):Int:=s.length+2+s.count 34+s.count 92
theorem J0 {s:An}(hs:s.length≤1152921504606846976):G6 s=some (I1 s):=by
 have h1:s.count 34≤s.length:=List.count_le_length;have h2:s.count 92≤s.length:=List.count_le_length;unfold G6 Lib.countByte;rw[AT (by omega) (by omega),AT (by omega) (by omega),AT (by omega) (by omega)];rfl
def Rr (c:Ac):Int:=
 bif decide (c.fKind=1) then 4 else bif decide (c.fKind=2) then IntKind.wrap .i64 (5-c.fInt) else bif decide (c.fKind=3) then((Lib.itoa c.fInt).length:Int) else
 bif decide (c.fKind=4) then I1 c.fStr else IntKind.wrap .i64 (2+max 0 (IntKind.wrap .i64 (c.fN-1)))
theorem LG {c:Ac}(hs:c.fStr.length≤1152921504606846976)(hi:BO .i64 c.fInt=true):LH c=some (Rr c):=by
 unfold LH Rr;rw[J0 hs];refine Di rfl (Di rfl (Di ?_ (Di rfl rfl)));rw[Cm hi]
def Gn (d:Nat)(sh:A9)(c:Ac):A9:=
 ⟨max sh.fDepth ((d:Int)+1),IntKind.wrap .i64 (sh.fBytes+Rr c),sh.fOutside||(decide (c.fKind=3)&&!(decide ((-1000000000000)≤c.fInt)&&decide (c.fInt≤1000000000000))),sh.fLong||decide (200<(c.fStr.length:Int))⟩
def RI (sh:A9)(c:Ac):A9:=⟨sh.fDepth,IntKind.wrap .i64 (sh.fBytes+(I1 c.fStr+1)),sh.fOutside,sh.fLong||decide (200<(c.fStr.length:Int))⟩
def IC:List Az→Bool
 | []=>false
 | e::_=>e.fKey
abbrev L2:=List Az×Int×A9
abbrev Rj:=Out (Int×A9×Bool) A9
def M5 (n:Int)(S:List Az)(i:Int)(sh:A9)(c:Ac):Stp L2 Rj:=
 bif !pl c then .out (.ret (0,sh,false)) else
 match S with
 | e::S'=>
  bif e.fKey then
   bif !decide (c.fKind=4)||(e.fStarted&&(CJ c.fStr e.fLast||decide (c.fStr=e.fLast))) then .out (.ret (0,sh,false))
   else .next ((⟨e.fPairs,e.fLeft,false,c.fStr,true⟩::S').reverse,i+1,RI sh c)
  else bif decide (0<c.fN) then
   bif decide (n<c.fN) then .out (.ret (0,Gn S.length sh c,false))
   else .next ((⟨decide (c.fKind=6),c.fN,decide (c.fKind=6),[],false⟩::S).reverse,i+1,Gn S.length sh c)
  else bif decide (IU S=[]) then .out (.ret (i+1,Gn S.length sh c,true)) else .next ((IU S).reverse,i+1,Gn S.length sh c)
 | []=>
  bif decide (0<c.fN) then
   bif decide (n<c.fN) then .out (.ret (0,Gn 0 sh c,false))
   else .next ([⟨decide (c.fKind=6),c.fN,decide (c.fKind=6),[],false⟩],i+1,Gn 0 sh c)
  else .out (.ret (i+1,Gn 0 sh c,true))
theorem JU {S:List Az}:decide (((IU S).reverse.length:Int)=0)=decide (IU S=[]):=by
 rw[SZ];simp
theorem RY {α:Type}{xs:List α}{e x:α}{M:Nat}(h:xs.length+1≤M)(hM2:(M+2)*48≤140737488355328):OJ 48 ((xs++[e]).length+([x]:List α).length)=true:=by
 refine SS (Nat.le_trans (Nat.mul_le_mul_right 48 ?_) hM2);rw[SU,To,To];omega
set_option maxHeartbeats 600000 in
theorem LJ {F:Nat}{v:List Ac}{S:List Az}{i:Int}{sh:A9}{c:Ac}(h0:0≤i)(hc:v[i.toNat]? =some c){M:Nat}(hM:M≤1152921504606846976)(hM2:(M+2)*48≤140737488355328)(hv:v.length≤M)(hS:S.length≤M)(hF:M<F)
  (hs:c.fStr.length≤M) (hi:BO .i64 c.fInt=true) (hb:∀e∈S,1≤e.fLeft∧e.fLeft≤9223372036854775807):CE F v S.reverse i sh=some (M5 v.length S i sh c):=by
 have hil:i.toNat<v.length:=(List.getElem?_eq_some_iff.1 hc).1;have hat:Ae v i=c:=by simp[Ae,hc]
 unfold CE M5;rw[AR (by simp;omega),Bs h0 (by omega),hat,NR (by omega) (by omega),Bf rfl]
 cases hp:pl c with
 | false=>rw[AR (by simp)];rfl
 | true=>
  rw[AE (by simp)]
  cases S with
  | nil=>
   rw[Cm (by simp[imp]),Cm (by simp[imp]),AE (by simp),AT (by simp) (by simp),LG (by omega) hi,Bf rfl,Cm (by simp[imp,Bl])];simp only[Bl,ov,Tf,SY,SR]
   cases hn:decide (0<c.fN) with
   | true=>
    rw[AR rfl]
    cases hm:decide ((v.length:Int)<c.fN) with
    | true=>rw[AR rfl];simp[Gn]
    | false=>rw[AE rfl,Cm (by simp[OJ])];unfold Dd;rw[AT (by omega) (by omega)];simp[Gn]
   | false=>
    rw[AE rfl,Bf (J2 (S:=[]) (by simp;omega) (by simp) (by simp)),AR (by simp[IU]),AT (by omega) (by omega)];simp[Gn]
  | cons e S'=>
   have hx:S'.reverse.length=S'.length:=by simp
   generalize hxs:S'.reverse=xs at hx;have hr:(e::S').reverse=xs++[e]:=by simp[hxs]
   simp only[SO] at hS;have hlen:((xs++[e]).length:Int)=(xs.length:Int)+1:=by simp
   rw[hr,Cm (by simp only[imp,Ia];rw[JP (by omega) (by omega)];simp),Cm (by simp only[imp,Ia];rw[PJ (by omega) (by omega)];simp)];rw[Ia,Js]
   cases hk:e.fKey with
   | true=>
    rw[AR (by simp),AT (by omega) (by omega),Bs (by omega) (by omega)];simp only[hk,SY,SR,SW]
    cases ht : !decide (c.fKind=4)||(e.fStarted&&(CJ c.fStr e.fLast||decide (c.fStr=e.fLast))) with
    | true=>rw[AR rfl];rfl
    | false=>
     rw[AE rfl,HE,OC,Js,HE,OC,Js,HE,OC,J0 (by omega),Bf rfl,AT (by unfold I1;omega) (by unfold I1;have:=@List.count_le_length UInt8 _ 34 c.fStr;have:=@List.count_le_length UInt8 _ 92 c.fStr;omega)];unfold Dd;rw[AT (by omega) (by omega)];simp[RI,hxs]
   | false=>
    rw[AE (by simp),hlen,AT (by omega) (by omega),LG (by omega) hi,Bf rfl,Cm (by simp[imp,Bl])];simp only[hk,Bl,ov,Tf,SY,SR,SW]
    cases hn:decide (0<c.fN) with
    | true=>
     rw[AR rfl]
     cases hm:decide ((v.length:Int)<c.fN) with
     | true=>rw[AR rfl];simp[Gn,hx]
     | false=>rw[AE rfl,Cm (RY (by omega) hM2)];unfold Dd;rw[AT (by omega) (by omega)];simp[Gn,hx,hxs]
    | false=>
     have hcl:=J2 (S:=e::S') (F:=F) (by simp;omega) hb (by simp;omega);rw[hr] at hcl;rw[AE rfl,hcl,Bf rfl,JU]
     cases hq:decide (IU (e::S')=[]) with
     | true=>rw[AR rfl,AT (by omega) (by omega)];simp[Gn,hx]
     | false=>rw[AE rfl];unfold Dd;rw[AT (by omega) (by omega)];simp[Gn,hx]
section
variable {S O : Type} {body : S → Option (Stp S O)} {s t u : S} {o : O}
def Dj (body:S→Option (Stp S O))(s t:S):Prop:=∃k,∀n,Ck body (n+k) s=Ck body n t
def Fin (body:S→Option (Stp S O))(s:S)(o:O):Prop:=∃k,∀n,Ck body (n+k) s=some o
theorem Dj.refl (s:S):Dj body s s:=⟨0,λ_=>rfl⟩
theorem Dj.trans (h:Dj body s t)(h':Dj body t u):Dj body s u:=by
 obtain⟨k,hk⟩:=h;obtain⟨j,hj⟩:=h';exact⟨j+k,λn=>by rw[← Nat.add_assoc,hk,hj]⟩
theorem Dj.step (h:body s=some (.next t)):Dj body s t:=⟨1,λn=>by rw[Ck,h]⟩
theorem Fin.step (h:body s=some (.out o)):Fin body s o:=⟨1,λn=>by rw[Ck,h]⟩
theorem Dj.fin (h:Dj body s t)(h':Fin body t o):Fin body s o:=by
 obtain⟨k,hk⟩:=h;obtain⟨j,hj⟩:=h';exact⟨j+k,λn=>by rw[← Nat.add_assoc,hk,hj]⟩
end
inductive Fo where
 | nil
 | cell (k:Option An) (c:Ac) (r:Fo)
 | node (k:Option An) (c:Ac) (kids r:Fo)
def By:Option An→List Ac
 | none=>[]
 | some s=>[⟨4,0,s,0⟩]
def Fo.flat:Fo→List Ac
 | .nil=>[]
 | .cell k c r=>By k++c::r.flat
 | .node k c kids r=>By k++c::(kids.flat++r.flat)
def Fo.cnt:Fo→Nat
 | .nil=>0
 | .cell _ _ r=>r.cnt+1
 | .node _ _ _ r=>r.cnt+1
def BY (m:Bool)(last:Option An):Option An→Bool
 | none=>!m
 | some s=>m&&s.all Qa&&(match last with
  | none=>true
  | some p=>!(CJ s p||decide (s=p)))
def Fo.wf:Bool→Option An→Fo→Bool
 | _,_,.nil=>true
 | m,last,.cell k c r=>BY m last k&&pl c&&!decide (0<c.fN)&&r.wf m k
 | m,last,.node k c kids r=>BY m last k&&pl c&&decide (0<c.fN)&&decide (c.fN=kids.cnt)&&kids.wf (decide (c.fKind=6)) none&&r.wf m k
def IO (k:Option An)(sh:A9):A9:=match k with
 | none=>sh
 | some s=>RI sh ⟨4,0,s,0⟩
def Fo.sh (d:Nat):A9→Fo→A9
 | s,.nil=>s
 | s,.cell k c r=>r.sh d (Gn d (IO k s) c)
 | s,.node k c kids r=>r.sh d (kids.sh (d+1) (Gn d (IO k s) c))
def E8 (body:L2→Option (Stp L2 Rj))(s:L2)(S:List Az)(i:Int)(sh:A9):Prop:=
 if IU S=[] then Fin body s (.ret (i,sh,true)) else Dj body s ((IU S).reverse,i,sh)
theorem E8.of {body:L2→Option (Stp L2 Rj)}{s t:L2}{S:List Az}{i:Int}{sh:A9}(h:Dj body s t)(h':E8 body t S i sh):E8 body s S i sh:=by
 unfold E8 at *
 split
 ·rename_i e;rw[Td e] at h';exact h.fin h'
 ·rename_i e;rw[SX e] at h';exact h.trans h'
theorem E8.pop {body:L2→Option (Stp L2 Rj)}{s:L2}{e:Az}{S:List Az}{i:Int}{sh:A9}(h:E8 body s (e::S) i sh)(h1:e.fLeft=1):E8 body s S i sh:=by
 have:IU (e::S)=IU S:=by simp[IU,h1]
 unfold E8 at *;rw[this] at h;exact h
theorem E8.more {body:L2→Option (Stp L2 Rj)}{s:L2}{e:Az}{S:List Az}{i:Int}{sh:A9}(h:E8 body s (e::S) i sh)(h1:1<e.fLeft):Dj body s ((⟨e.fPairs,e.fLeft-1,e.fPairs,e.fLast,e.fStarted⟩::S).reverse,i,sh):=by
 have:IU (e::S)=⟨e.fPairs,e.fLeft-1,e.fPairs,e.fLast,e.fStarted⟩::S:=by simp[IU,h1]
 unfold E8 at *;rw[this,SX (by simp)] at h;exact h
structure NL (F M:Nat) (v:List Ac):Prop where
 hM:M≤1152921504606846976
 hM2:(M+2)*48≤140737488355328
 hv:v.length≤M
 hF:M<F
 hc:∀c∈v,c.fStr.length≤M∧BO .i64 c.fInt=true∧c.fN≤9223372036854775807
abbrev Mm (F:Nat)(v:List Ac):L2→Option (Stp L2 Rj):=λσ=>CE F v σ.1 σ.2.1 σ.2.2
def CQ (S:List Az):Prop:=∀e∈S,1≤e.fLeft∧e.fLeft≤9223372036854775807
section
variable {F M : Nat} {v : List Ac} {S : List Az} {i : Int} {sh : A9} {c : Ac} {r : List Ac} {e : Az}
theorem BH (h0:0≤i)(h:v.drop i.toNat=c::r):v[i.toNat]? =some c∧v.drop (i+1).toNat=r∧i<v.length:=by
 have h1:(v.drop i.toNat)[0]? =some c:=by rw[h];rfl
 have h2:v[i.toNat]? =some c:=by simpa using h1
 have h3:=(List.getElem?_eq_some_iff.1 h2).1;refine⟨h2,?_,by omega⟩;rw[show(i+1).toNat=i.toNat+1 from by omega,← List.drop_drop,h];rfl
theorem round (hA:NL F M v)(h0:0≤i)(h:v.drop i.toNat=c::r)(hS:(S.length:Int)≤i)(hb:CQ S):Mm F v (S.reverse,i,sh)=some (M5 v.length S i sh c):=by
 obtain⟨h1,_,h3⟩:=BH h0 h;obtain⟨a,b,_⟩:=hA.hc c (SP h1);have:=hA.hv;exact LJ h0 h1 hA.hM hA.hM2 hA.hv (by omega) hA.hF a b hb
def DR (e:Az):Option An→Az
 | none=>e
 | some s=>⟨e.fPairs,e.fLeft,false,s,true⟩
def G0 (e:Az):Option An→Prop
 | none=>e.fStarted=false
 | some p=>e.fStarted=true∧e.fLast=p
theorem JO (hA:NL F M v)(h0:0≤i){k last:Option An}(h:v.drop i.toNat=By k++r)(hS:(S.length:Int)+1≤i)(hb:CQ (e::S))(hk:BY e.fKey last k=true)(hl:G0 e last) :
  Dj (Mm F v) ((e::S).reverse,i,sh) ((DR e k::S).reverse,i+(By k).length,IO k sh):=by
 cases k with
 | none=>simpa[DR,By,IO] using Dj.refl _
 | some s=>
  simp only[BY,SM] at hk;obtain⟨⟨hm,hok⟩,hcmp⟩:=hk;refine Dj.step ?_;rw[round hA h0 (by simpa[By] using h) (by simpa using hS) hb];have hp:pl ⟨4,0,s,0⟩=true:=by simp[pl,hok]
  have ht:(e.fStarted&&(CJ s e.fLast||decide (s=e.fLast)))=false:=by
   cases last with
   | none=>simp only[G0] at hl;rw[hl];rfl
   | some p=>obtain⟨h1,h2⟩:=hl;rw[h1,h2];simpa using hcmp
  simp only[M5,hp,hm,ht,SY,SR,SW,decide_true,T2,Bool.or_self];rfl
theorem IB {k last:Option An}(hk:BY e.fKey last k=true):(DR e k).fKey=false:=by
 cases k with
 | none=>simpa[DR,BY] using hk
 | some s=>rfl
theorem Hp (k:Option An):(DR e k).fLeft=e.fLeft∧(DR e k).fPairs=e.fPairs:=by cases k<;>exact⟨rfl,rfl⟩
theorem IA (hA:NL F M v)(h0:0≤i)(h:v.drop i.toNat=c::r)(hS:(S.length:Int)≤i)(hb:CQ S)(hk:IC S=false)(hp:pl c=true)(hn:decide (0<c.fN)=false) :
  E8 (Mm F v) (S.reverse,i,sh) S (i+1) (Gn S.length sh c):=by
 have hr:=round (sh:=sh) hA h0 h hS hb;unfold E8
 cases S with
 | nil=>
  rw[Td (by simp[IU])];refine Fin.step ?_;rw[hr];simp[M5,hp,hn]
 | cons e S=>
  simp only[IC] at hk
  split
  ·rename_i hc
   refine Fin.step ?_;rw[hr];simp[M5,hp,hn,hk,hc]
  ·rename_i hc
   refine Dj.step ?_;rw[hr];simp[M5,hp,hn,hk,hc]
theorem GG (hA:NL F M v)(h0:0≤i)(h:v.drop i.toNat=c::r)(hS:(S.length:Int)≤i)(hb:CQ S)(hk:IC S=false)(hp:pl c=true)(hn:decide (0<c.fN)=true)(hv:c.fN≤v.length) :
  Dj (Mm F v) (S.reverse,i,sh) ((⟨decide (c.fKind=6),c.fN,decide (c.fKind=6),[],false⟩::S).reverse,i+1,Gn S.length sh c):=by
 have hr:=round (sh:=sh) hA h0 h hS hb;have hv':decide ((v.length:Int)<c.fN)=false:=by simpa using hv
 refine Dj.step ?_;rw[hr]
 cases S with
 | nil=>simp only[M5,hp,hn,hv',SY,SR,SW];rfl
 | cons e S=>
  simp only[IC] at hk;simp only[M5,hp,hn,hv',hk,SY,SR,SW]
theorem BT:∀f:Fo,f.cnt≤f.flat.length
 | .nil=>Tb _
 | .cell k c r=>by have:=BT r;simp[Fo.cnt,Fo.flat];omega
 | .node k c kids r=>by have:=BT r;simp[Fo.cnt,Fo.flat];omega
theorem Cw {α:Type}{v xs r:List α}{i:Int}(h0:0≤i)(h:v.drop i.toNat=xs++r):v.drop (i+xs.length).toNat=r:=by
 rw[show(i+(xs.length:Int)).toNat=i.toNat+xs.length from by omega,← List.drop_drop,h,List.drop_left]
theorem LO (hA:NL F M v){e':Az}{s:L2}{k:Option An}{r':Fo}
  (ih:∀(e:Az) (S:List Az) (i:Int) (sh:A9) (last:Option An) (r:List Ac),1≤r'.cnt→r'.wf e.fPairs last=true→e.fKey=e.fPairs→e.fLeft=r'.cnt→G0 e last→(e.fPairs=false→last=none)→v.drop i.toNat=r'.flat++r→0≤i→(S.length:Int)+1≤i→CQ S→
   E8 (Mm F v) ((e::S).reverse,i,sh) S (i+r'.flat.length) (r'.sh (S.length+1) sh))
  (hd:E8 (Mm F v) s (e'::S) i sh) (hl:e'.fLeft=r'.cnt+1) (hw:r'.wf e'.fPairs k=true) (hk:G0 e' k) (hm:e'.fPairs=false→k=none) (hv:v.drop i.toNat=r'.flat++r) (h0:0≤i) (hS:(S.length:Int)+1≤i) (hb:CQ S) :
  E8 (Mm F v) s S (i+r'.flat.length) (r'.sh (S.length+1) sh):=by
 by_cases h1:r'.cnt=0
 ·cases r' with
  | nil=>simpa[Fo.flat,Fo.sh] using hd.pop (by rw[hl];rfl)
  | cell _ _ _=>simp[Fo.cnt] at h1
  | node _ _ _ _=>simp[Fo.cnt] at h1
 ·have:=hd.more (by omega);refine E8.of this (ih _ S i sh k r (by omega) hw rfl (by simp only;omega) ?_ hm hv h0 hS hb)
  cases k with
  | none=>exact hk
  | some p=>exact hk
theorem Hq {k last:Option An}(hl:G0 e last)(hm:e.fPairs=false→last=none)(hk:BY e.fPairs last k=true):G0 (DR e k) k∧((DR e k).fPairs=false→k=none):=by
 cases k with
 | none=>
  have:e.fPairs=false:=by simpa[BY] using hk
  rw[hm this] at hl;exact⟨hl,λ_=>rfl⟩
 | some s=>
  refine⟨⟨rfl,rfl⟩,λh=>?_⟩;have h:e.fPairs=false:=h;simp[BY,h] at hk
theorem IT (hA:NL F M v):∀(f:Fo) (e:Az) (S:List Az) (i:Int) (sh:A9) (last:Option An) (r:List Ac),1≤f.cnt→f.wf e.fPairs last=true→e.fKey=e.fPairs→e.fLeft=f.cnt→G0 e last→(e.fPairs=false→last=none)→v.drop i.toNat=f.flat++r→0≤i→(S.length:Int)+1≤i→CQ S→
   E8 (Mm F v) ((e::S).reverse,i,sh) S (i+f.flat.length) (f.sh (S.length+1) sh):=by
 have hmax:∀(i:Int) (xs:List Ac),0≤i→v.drop i.toNat=xs→xs.length≤v.length:=λi xs _ h=>by rw[← h,List.length_drop];omega
 intro f
 induction f with
 | nil=>intro e S i sh last r h1;simp[Fo.cnt] at h1
 | cell k c r' ih=>
  intro e S i sh last r h1 hw hk hl hlo hm hv h0 hS hb;simp only[Fo.wf,SM,Te] at hw;obtain⟨⟨⟨w1,w2⟩,w3⟩,w4⟩:=hw;simp only[Fo.flat,Tg,T3] at hv;have hcnt:=hmax i _ h0 hv;have hcf:=BT r';simp only[SU,SO] at hcnt;have hvM:=hA.hv;have hMM:=hA.hM;simp only[Fo.cnt] at hl;have hb':CQ (e::S):=λx hx=>by
   rcases List.mem_cons.1 hx with rfl | hx
   ·constructor<;>omega
   ·exact hb x hx
  have hkr:=JO (sh:=sh) hA h0 hv hS hb' (by rw[hk];exact w1) hlo;have hv1:=Cw h0 hv;obtain⟨kl,kp⟩:=Hp (e:=e) k;have hbk:CQ (DR e k::S):=λx hx=>by
   rcases List.mem_cons.1 hx with rfl | hx
   ·rw[kl];exact hb' e (by simp)
   ·exact hb x hx
  have hd:=IA (sh:=IO k sh) hA (by omega) hv1 (by simp only[SO];omega) hbk (IB (by rw[hk];exact w1)) w2 w3;obtain⟨q1,q2⟩:=Hq hlo hm w1;have hv2:=(BH (by omega) hv1).2.1;have:=LO hA ih (hd.of hkr) (by rw[kl,hl];rfl) (by rw[kp];exact w4) q1 q2 hv2 (by omega) (by omega) hb;simp only[Fo.flat,Fo.sh,SU,SO];rw[show i+((((By k).length+(r'.flat.length+1):Nat)):Int)=i+(By k).length+1+r'.flat.length from by omega];exact this
 | node k c kids r' ihk ih=>
  intro e S i sh last r h1 hw hk hl hlo hm hv h0 hS hb;simp only[Fo.wf,SM,SI] at hw;obtain⟨⟨⟨⟨⟨w1,w2⟩,w3⟩,w5⟩,w6⟩,w4⟩:=hw;simp only[Fo.flat,Tg,T3] at hv;have hcnt:=hmax i _ h0 hv;have hcf:=BT r';have hck:=BT kids;simp only[SU,SO] at hcnt;have hvM:=hA.hv;have hMM:=hA.hM;simp only[Fo.cnt] at hl;have hb':CQ (e::S):=λx hx=>by
   rcases List.mem_cons.1 hx with rfl | hx
   ·constructor<;>omega
   ·exact hb x hx
  have hkr:=JO (sh:=sh) hA h0 hv hS hb' (by rw[hk];exact w1) hlo;have hv1:=Cw h0 hv;obtain⟨kl,kp⟩:=Hp (e:=e) k;have hbk:CQ (DR e k::S):=λx hx=>by
   rcases List.mem_cons.1 hx with rfl | hx
   ·rw[kl];exact hb' e (by simp)
   ·exact hb x hx
  have hn:=GG (sh:=IO k sh) hA (by omega) hv1 (by simp only[SO];omega) hbk (IB (by rw[hk];exact w1)) w2 (by simpa using w3) (by omega);have hv2:=(BH (by omega) hv1).2.1;have hd:=ihk ⟨decide (c.fKind=6),c.fN,decide (c.fKind=6),[],false⟩ (DR e k::S) (i+(By k).length+1) (Gn (S.length+1) (IO k sh) c) none _ (by omega) w6 rfl w5 rfl (λ_=>rfl) hv2 (by omega) (by simp only[SO];omega) hbk;obtain⟨q1,q2⟩:=Hq hlo hm w1;have hv3:=Cw (by omega) hv2;have:=LO hA ih ((hd.of hn).of hkr) (by rw[kl,hl];rfl) (by rw[kp];exact w4) q1 q2 hv3 (by omega) (by omega) hb;simp only[Fo.flat,Fo.sh,SU,SO];rw[show i+((((By k).length+(kids.flat.length+r'.flat.length+1):Nat)):Int)=i+(By k).length+1+kids.flat.length+r'.flat.length from by omega];exact this
end
theorem Ml {S O:Type}{body:S→Option (Stp S O)}{o:O}:∀{n:Nat} {s:S} (k:Nat),Ck body n s=some o→Ck body (n+k) s=some o
 | 0,s,k,h=>by cases h
 | n+1,s,k,h=>by
  rw[show n+1+k=n+k+1 from by omega,Ck];rw[Ck] at h
  cases hb:body s with
  | none=>rw[hb] at h;cases h
  | some t=>
   rw[hb] at h
   cases t with
   | next s'=>exact Ml k h
   | out o'=>exact h
theorem Fin.eq {S O:Type}{body:S→Option (Stp S O)}{s:S}{o o':O}{n:Nat}(h:Fin body s o)(h':Ck body n s=some o'):o'=o:=by
 obtain⟨k,hk⟩:=h;have:=Ml k h';rw[hk n] at this;exact(Aw this).symm
theorem KI:∀{S:List Az},CQ S→CQ (IU S)∧(IU S).length≤S.length
 | [],h=>⟨h,Tb _⟩
 | e::S,h=>by
  have hS:CQ S:=λx hx=>h x (by simp[hx]);have he:=h e (by simp);unfold IU
  cases hd:decide (1<e.fLeft) with
  | true=>
   simp only[SI] at hd;refine⟨λx hx=>?_,by simp⟩;rcases List.mem_cons.1 hx with rfl | hx
   ·simp only;omega
   ·exact hS x hx
  | false=>
   obtain⟨h1,h2⟩:=KI hS;exact⟨h1,by simp only[SR,SO];omega⟩
theorem PA {n:Int}{S:List Az}{i:Int}{sh:A9}{c:Ac}{σ:L2}(hb:CQ S)(hS:(S.length:Int)≤i)(hN:c.fN≤9223372036854775807)(h:M5 n S i sh c = .next σ):∃S' sh',σ=(S'.reverse,i+1,sh')∧CQ S'∧(S'.length:Int)≤i+1:=by
 unfold M5 at h
 cases hp:pl c with
 | false=>simp[hp] at h
 | true=>
  simp only[hp,SY,SR] at h
  cases S with
  | nil=>
   simp only at h
   cases hn:decide (0<c.fN) with
   | false=>simp[hn] at h
   | true=>
    simp only[hn,SW] at h
    cases hm:decide (n<c.fN) with
    | true=>simp[hm] at h
    | false=>
     simp only[hm,SR,Stp.next.injEq] at h;refine⟨[_],_,h.symm,λx hx=>?_,by simp at hS ⊢;omega⟩;simp only[Ta] at hx;subst hx;simp only[SI] at hn;exact⟨by simp only;omega,hN⟩
  | cons e S=>
   have he:=hb e (by simp);have hbS:CQ S:=λx hx=>hb x (by simp[hx]);simp only[SO] at hS
   cases hk:e.fKey with
   | true=>
    simp only[hk,SW] at h
    cases hq:(!decide (c.fKind=4)||(e.fStarted&&(CJ c.fStr e.fLast||decide (c.fStr=e.fLast)))) with
    | true=>rw[hq] at h;simp at h
    | false=>
     rw[hq] at h;simp only[SR,Stp.next.injEq] at h;refine⟨_::S,_,h.symm,λx hx=>?_,by simp only[SO];omega⟩;rcases List.mem_cons.1 hx with rfl | hx
     ·exact he
     ·exact hbS x hx
   | false=>
    simp only[hk,SR] at h
    cases hn:decide (0<c.fN) with
    | true=>
     simp only[hn,SW] at h
     cases hm:decide (n<c.fN) with
     | true=>simp[hm] at h
     | false=>
      simp only[hm,SR,Stp.next.injEq] at h;refine⟨_::e::S,_,h.symm,λx hx=>?_,by simp only[SO];omega⟩;rcases List.mem_cons.1 hx with rfl | hx
      ·simp only[SI] at hn;exact⟨by simp only;omega,hN⟩
      ·exact hb x hx
    | false=>
     simp only[hn,SR] at h
     cases hq:decide (IU (e::S)=[]) with
     | true=>rw[hq] at h;simp at h
     | false=>
      rw[hq] at h;simp only[SR,Stp.next.injEq] at h;obtain⟨h1,h2⟩:=KI hb;simp only[SO] at h2;exact⟨_,_,h.symm,h1,by omega⟩
theorem JH {F M:Nat}{v:List Ac}(hA:NL F M v):∃o,Ck (Mm F v) F (([]:List Az),0,(⟨0,0,false,false⟩:A9))=some o∧True:=by
 refine EZ (λσ=>∃S i sh,σ=(S.reverse,i,sh)∧CQ S∧(S.length:Int)≤i∧0≤i∧i≤v.length) (λσ=>v.length-σ.2.1.toNat) (λ_=>True) (λσ hI=>?_) F _ ⟨[],0,_,rfl,(λx hx=>by cases hx),Tc _,Tc _,by omega⟩ (by have:=hA.hv;have:=hA.hF;simp;omega);obtain⟨S,i,sh,rfl,hb,hS,h0,hi⟩:=hI
 by_cases hx:i<v.length
 ·obtain⟨c,hc⟩:∃c,v[i.toNat]? =some c:=⟨v[i.toNat]'(by omega),SK (by omega)⟩
  have hdr:v.drop i.toNat=c::v.drop (i.toNat+1):=by rw[List.drop_eq_getElem_cons (by omega)];congr 1;exact(List.getElem?_eq_some_iff.1 hc).2
  have hr:=round (sh:=sh) hA h0 hdr hS hb
  cases hl:M5 v.length S i sh c with
  | next τ=>
   obtain⟨S',sh',rfl,h1,h2⟩:=PA hb hS (hA.hc c (SP hc)).2.2 hl;exact .inl ⟨_,by rw[hr,hl],⟨S',i+1,sh',rfl,h1,h2,by omega,by omega⟩,by simp only;omega⟩
  | out o=>exact .inr ⟨o,by rw[hr,hl],trivial⟩
 ·refine .inr ⟨.go sh,?_,trivial⟩;show CE F v S.reverse i sh=_;unfold CE;rw[AE (by simpa using hx)]
def Fo.one:Fo→Bool
 | .cell none _ .nil=>true
 | .node none _ _ .nil=>true
 | _=>false
def JY:A9:=⟨0,0,false,false⟩
theorem P9 {F M:Nat}{v:List Ac}(hA:NL F M v){f:Fo}(h1:f.one=true)(hw:f.wf false none=true){r:List Ac}(hv:v=f.flat++r):Fin (Mm F v) ([],0,JY) (.ret (f.flat.length,f.sh 0 JY,true)):=by
 have h0:v.drop (0:Int).toNat=f.flat++r:=by rw[hv];rfl
 have hlen:f.flat.length≤v.length:=by rw[hv];simp
 cases f with
 | nil=>cases h1
 | cell k c r'=>
  cases k with
  | some s=>cases h1
  | none=>
   cases r' with
   | nil=>
    simp only[Fo.wf,SM,Te] at hw;have:=IA (S:=[]) (sh:=JY) hA (Tc 0) h0 (by simp) (λx hx=>by cases hx) rfl hw.1.1.2 hw.1.2;unfold E8 at this;rw[Td (show IU []=[] from rfl)] at this;simpa[Fo.flat,Fo.sh,By,IO] using this
   | cell _ _ _=>cases h1
   | node _ _ _ _=>cases h1
 | node k c kids r'=>
  cases k with
  | some s=>cases h1
  | none=>
   cases r' with
   | nil=>
    simp only[Fo.wf,SM,SI] at hw;obtain⟨⟨⟨⟨⟨w1,w2⟩,w3⟩,w5⟩,w6⟩,w4⟩:=hw;have hck:=BT kids;simp only[Fo.flat,By,List.nil_append,Tz,SO] at hlen;have hvM:=hA.hv;have hMM:=hA.hM;have hn:=GG (S:=[]) (sh:=JY) hA (Tc 0) h0 (by simp) (λx hx=>by cases hx) rfl w2 (by simpa using w3) (by omega);have hv2:=(BH (Tc 0) h0).2.1;have hd:=IT hA kids ⟨decide (c.fKind=6),c.fN,decide (c.fKind=6),[],false⟩ [] (0+1) (Gn 0 JY c) none r (by omega) w6 rfl w5 rfl (λ_=>rfl) (by rw[hv2];simp[Fo.flat]) (by omega) (by simp) (λx hx=>by cases hx);unfold E8 at hd;rw[Td (show IU []=[] from rfl)] at hd;have:=hn.fin hd;have e:((0:Int)+1+kids.flat.length)=((Fo.node none c kids .nil).flat.length:Int):=by simp[Fo.flat,By];omega
    rw[e] at this;exact this
   | cell _ _ _=>cases h1
   | node _ _ _ _=>cases h1
theorem P8 {F M:Nat}{v:List Ac}(hA:NL F M v){f:Fo}(h1:f.one=true)(hw:f.wf false none=true){r:List Ac}(hv:v=f.flat++r):H9 F v=some ((f.flat.length:Int),f.sh 0 JY,true):=by
 obtain⟨o,ho,_⟩:=JH hA;have e:=(P9 hA h1 hw hv).eq ho;subst e;unfold H9;rw[Bf ho];rfl
end Go.Proofs.YtfbmdidnlhifjaaGreatDoor
