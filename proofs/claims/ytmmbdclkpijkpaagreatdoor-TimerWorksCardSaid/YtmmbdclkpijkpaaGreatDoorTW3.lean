/-
  Texts of the proof, put together: WTa, QK, PTb, QP, SoC, SoT, SoL, SoQ, keys29, collect28, QCo, WTb, PTc, WTc, PTd, WTd, OkTimerWorks, LvA, LvB, LvC, LvD, LvE, LvF.
-/
import Derived.Test.YtmmbdclkpijkpaaGreatDoorTW2
import Derived.Sort.KeysCollected
import Derived.Shelf.SlSortCmp.NoneTotal
import Derived.Test.YtmmbdclkpijkpaaGreatDoorProg
import Derived.Tactics
import Derived.Lib.Small
import Derived.Lib.Walk
import Derived.Sort.Grow
import Derived.Deep.QuietTactic
import Derived.BigQuiet
import Derived.LoopN
import Derived.StillTailTactics
import Derived.Shelf.SlIter.Collect
import GoSem.ClaimData
namespace Go.Proofs.YtmmbdclkpijkpaaGreatDoor.Q
open Go Go.RowKit
set_option linter.unusedVariables false
set_option linter.unusedSimpArgs false
set_option maxRecDepth 100000
set_option maxHeartbeats 4000000
@[reducible] def Ah (x:Ab):List Rp:=[rS x.fID,Aq x.fAt,rS x.fTenant,rS x.fSource,AY 4 (AD Ad x.fBody)]
theorem C2 (x:Ab):(Ah x).length=5:=rfl
theorem DB (x:Ab):(Ah x).all (·.one)=true:=rfl
theorem SG:∃inf,Tryz.prog.info? 89=some inf∧inf.zero=some (.agg #[(.int .i64 0),(.int .i64 0),(.string ⟨#[]⟩),(.int .i64 0)])∧inf.size=4∧inf.bytes=40:=by
  have key:(Tryz.prog.info? 89).map (λi=>(i.zero,i.size,i.bytes))=some (some (.agg #[(.int .i64 0),(.int .i64 0),(.string ⟨#[]⟩),(.int .i64 0)]),4,40):=by kernel_rfl
  obtain⟨inf,h1,h2⟩:=Option.map_eq_some_iff.1 key;simp only[Prod.mk.injEq] at h2;exact⟨inf,h1,h2.1,h2.2.1,h2.2.2⟩
theorem QL (ys:(List Ac))(r:(List Ac))(h:Kd ys=some r):Fn Tryz.prog GE 56 [AY 4 (AD Ad ys)] [] (λR H=>R=AY 4 (AD Ad r)∧H=[]):=by
 refine enter (n:=8) Tryz.func56 rfl Tryz.ntmps56 rfl (λw Z=>?_);unfold Kd at h;refine Al (wa rfl (Aw (At (Al (wm rfl (wv (OH CR rfl) (Aw (P6 rfl (λc1=>?_) (λc1=>?_)))))))))
 ·have e2:ys=[]:=List.map_eq_nil_iff.1 (c1 rfl);have h3:some ([]:List Ac)=some r:=by rw[e2] at h;exact(QM h).2
  refine Al (wa rfl (Aw (Az (Af (WK.up (d:=2) (r:=AY 4 (AD Ad ([]:List Ac))) rfl (Up.le (MS.nil _)) ?_)))));obtain rfl:=A2 h3;exact Ay (Bw Tryz.results56 (AT rfl)) sN ⟨rfl,rfl⟩
 ·refine A0 (AQ (Al (Co (ys:=([]:List Ac)) (enc:=Ad) (css:=[]) (xs:=[]) CR Dr Oi rfl rfl rfl trivial rfl DW rfl rfl rfl (λb4=>?_))));refine wm rfl (ck h λg6 h7=>Exists.elim SG λinf hinf=>CW (xs:=([]:List Ac)) (ys:=ys) (enc:=Ad) (i:=0) CR hinf.1 hinf.2.1 hinf.2.2.1 hinf.2.2.2 rfl rfl rfl rfl rfl (MM.z rfl rfl) DW Kr g6 rfl (λv5=>?_));refine wa rfl (Aw (Az (WK.freeze (i:=0) rfl (WK.up (d:=2) (r:=AY 4 (AD Ad (([]:List Ac)++ys))) rfl (Up.fact (i:=0) rfl) ?_))));obtain rfl:=A2 h7;exact Ay (Bw Tryz.results56 (AT rfl)) (sS sN) ⟨rfl,rfl⟩
theorem I7 (c:Int)(r:Bool)(h:Cw c=some r):Fn Tryz.prog GE 101 [rI .u8 c] [] (λR H=>R=rB r∧H=[]):=by
 refine enter (n:=9) Tryz.func101 rfl Tryz.ntmps101 rfl (λw Z=>?_);unfold Cw at h;refine Al (wa rfl (Aw (AA [(2,rB ((decide (97≤c))&&(decide (c≤122))))] [] ?_ ?_)))
 ·refine An (wm rfl (wv (G4 rfl rfl) (wm rfl (AH (decide (97≤c)) (λc1=>?_) (λc1=>?_)))))
  ·refine wo c1 (wm rfl (wo c1 (wv (Ie rfl rfl) (Eu rfl c1 rfl (wa rfl (Am ?_))))));exact BA c1
  ·refine wf c1 (wf c1 (wv (r:=rB false) (A1 rfl c1 rfl) (wa rfl (Am ?_))));exact BA c1
 refine Az ?_;obtain rfl:=A2 h;exact Ay (Bw Tryz.results101 (AT rfl)) sN ⟨rfl,rfl⟩
theorem I8 (c:Int)(r:Bool)(h:DA c=some r):Fn Tryz.prog GE 102 [rI .u8 c] [] (λR H=>R=rB r∧H=[]):=by
 refine enter (n:=9) Tryz.func102 rfl Tryz.ntmps102 rfl (λw Z=>?_);unfold DA at h;refine Al (wa rfl (Aw (AA [(2,rB ((decide (48≤c))&&(decide (c≤57))))] [] ?_ ?_)))
 ·refine An (wm rfl (wv (G4 rfl rfl) (wm rfl (AH (decide (48≤c)) (λc1=>?_) (λc1=>?_)))))
  ·refine wo c1 (wm rfl (wo c1 (wv (Ie rfl rfl) (Eu rfl c1 rfl (wa rfl (Am ?_))))));exact BA c1
  ·refine wf c1 (wf c1 (wv (r:=rB false) (A1 rfl c1 rfl) (wa rfl (Am ?_))));exact BA c1
 refine Az ?_;obtain rfl:=A2 h;exact Ay (Bw Tryz.results102 (AT rfl)) sN ⟨rfl,rfl⟩
theorem QB (c:Int)(r:Bool)(h:Ls c=some r):Fn Tryz.prog GE 100 [rI .u8 c] [] (λR H=>R=rB r∧H=[]):=by
 refine enter (n:=37) Tryz.func100 rfl Tryz.ntmps100 rfl (λw Z=>?_);unfold Ls at h;refine Al (wa rfl (Aw (CV (S:=(Bool)×(Unit)) (λσ=>B7 σ.1=some r) (λσ=>[(2,rB σ.1)]) (λσ=>[]) ?_ ?_)))
 ·refine An (wm rfl (ob h λhp hq hr=>CS Tryz.call101 (I7 c hp hq) rfl (wm rfl (bz hr (λc53 hs=>?_) (λc53 ht=>?_)))))
  ·refine wf c53 (wf c53 (wf c53 (wu (wu (wf c53 (wv (r:=rB true) (Ao rfl c53 rfl) (wm rfl (wz rfl rfl (wz rfl rfl (wv (r:=rB true) (Ao (b:=true) rfl rfl rfl) (wm rfl (wz rfl rfl (wz rfl rfl (wv (r:=rB true) (Ao (b:=true) rfl rfl rfl) (wm rfl (wz rfl rfl (wz rfl rfl (wv (r:=rB true) (Ao (b:=true) rfl rfl rfl) (wm rfl (wz rfl rfl (wz rfl rfl (wv (r:=rB true) (Ao (b:=true) rfl rfl rfl) (wm rfl ?_)))))))))))))))))))))));exact wz rfl rfl (wz rfl rfl (wv (r:=rB true) (Ao (b:=true) rfl rfl rfl) (wm rfl (wz rfl rfl (wz rfl rfl (wv (r:=rB true) (Ao (b:=true) rfl rfl rfl) (wa rfl (Am (A5 (AE (true,()) hs (AF.c rfl AF.nil) sN))))))))))
  ·refine wo c53 (wm rfl (wo c53 (wv (G4 rfl rfl) (wo c53 (wm rfl (bz ht (λha hu=>?_) (λha hw=>?_)))))))
   ·refine wo ha (wm rfl (wo ha (wv (Ie rfl rfl) (wo c53 (Eu rfl ha rfl (DT rfl c53 rfl (wm rfl (bz hu (λhb hx=>?_) (λhb hy=>?_)))))))))
    ·refine wf hb (wf hb (wv (r:=rB true) (Ao rfl hb rfl) (wm rfl (wz rfl rfl (wz rfl rfl (wv (r:=rB true) (Ao (b:=true) rfl rfl rfl) (wm rfl (wz rfl rfl (wz rfl rfl (wv (r:=rB true) (Ao (b:=true) rfl rfl rfl) (wm rfl (wz rfl rfl (wz rfl rfl (wv (r:=rB true) (Ao (b:=true) rfl rfl rfl) (wm rfl (wz rfl rfl (wz rfl rfl (wv (r:=rB true) (Ao (b:=true) rfl rfl rfl) (wm rfl (wz rfl rfl (wz rfl rfl (wv (r:=rB true) (Ao (b:=true) rfl rfl rfl) (wa rfl ?_)))))))))))))))))))))));exact Am (A5 (AE (true,()) hx (AF.c rfl AF.nil) sN))
    ·refine wo hb (wm rfl (wo hb (ob hy λhz h0 h1=>CS Tryz.call102 (I8 c hz h0) rfl (DT rfl hb rfl (wm rfl (bz h1 (λhd h2=>?_) (λhd h3=>?_)))))))
     ·exact wf hd (wf hd (wv (r:=rB true) (Ao rfl hd rfl) (wm rfl (wz rfl rfl (wz rfl rfl (wv (r:=rB true) (Ao (b:=true) rfl rfl rfl) (wm rfl (wz rfl rfl (wz rfl rfl (wv (r:=rB true) (Ao (b:=true) rfl rfl rfl) (wm rfl (wz rfl rfl (wz rfl rfl (wv (r:=rB true) (Ao (b:=true) rfl rfl rfl) (wm rfl (wz rfl rfl (wz rfl rfl (wv (r:=rB true) (Ao (b:=true) rfl rfl rfl) (wa rfl (Am (A5 (AE (true,()) h2 (AF.c rfl AF.nil) sN))))))))))))))))))))))
     ·refine wo hd (wm rfl (wo hd (wv (Bj rfl rfl) (DT rfl hd rfl (wm rfl (bz h3 (λhe h4=>?_) (λhe h5=>?_)))))))
      ·exact wf he (wf he (wv (r:=rB true) (Ao rfl he rfl) (wm rfl (wz rfl rfl (wz rfl rfl (wv (r:=rB true) (Ao (b:=true) rfl rfl rfl) (wm rfl (wz rfl rfl (wz rfl rfl (wv (r:=rB true) (Ao (b:=true) rfl rfl rfl) (wm rfl (wz rfl rfl (wz rfl rfl (wv (r:=rB true) (Ao (b:=true) rfl rfl rfl) (wa rfl (Am (A5 (AE (true,()) h4 (AF.c rfl AF.nil) sN))))))))))))))))))
      ·refine wo he (wm rfl (wo he (wv (Bj rfl rfl) (DT rfl he rfl (wm rfl (bz h5 (λhf h6=>?_) (λhf h7=>?_)))))))
       ·exact wf hf (wf hf (wv (r:=rB true) (Ao rfl hf rfl) (wm rfl (wz rfl rfl (wz rfl rfl (wv (r:=rB true) (Ao (b:=true) rfl rfl rfl) (wm rfl (wz rfl rfl (wz rfl rfl (wv (r:=rB true) (Ao (b:=true) rfl rfl rfl) (wa rfl (Am (A5 (AE (true,()) h6 (AF.c rfl AF.nil) sN))))))))))))))
       ·refine wo hf (wm rfl (wo hf (wv (Bj rfl rfl) (DT rfl hf rfl (wm rfl (bz h7 (λhg h8=>?_) (λhg h9=>?_)))))))
        ·exact wf hg (wf hg (wv (r:=rB true) (Ao rfl hg rfl) (wm rfl (wz rfl rfl (wz rfl rfl (wv (r:=rB true) (Ao (b:=true) rfl rfl rfl) (wa rfl (Am (A5 (AE (true,()) h8 (AF.c rfl AF.nil) sN))))))))))
        ·refine wo hg (wm rfl (wo hg (wv (Bj rfl rfl) (DT rfl hg rfl (wm rfl (bz h9 (λc76 hA=>?_) (λc76 hB=>?_)))))))
         ·exact wf c76 (wf c76 (wv (r:=rB true) (Ao rfl c76 rfl) (wa rfl (Am (A5 (AE (true,()) hA (AF.c rfl AF.nil) sN))))))
         ·exact wo c76 (wm rfl (wo c76 (wv (Bj rfl rfl) (DT rfl c76 rfl (wa rfl (Am (A5 (AE (decide (c=47),()) hB (AF.c rfl AF.nil) sN))))))))
   ·refine wf ha (wf ha (wo c53 (wv (r:=rB false) (A1 rfl ha rfl) (DT rfl c53 rfl (wm rfl (AG (b:=false) rfl rfl rfl (wm rfl (AG (b:=false) rfl rfl rfl (ob hw λhn hC hD=>CS Tryz.call102 (I8 c hn hC) rfl (wv (r:=rB hn) (A1 (b:=false) rfl rfl rfl) (wm rfl (bz hD (λhh hE=>?_) (λhh hG=>?_)))))))))))))
    ·exact wf hh (wf hh (wv (r:=rB true) (Ao rfl hh rfl) (wm rfl (wz rfl rfl (wz rfl rfl (wv (r:=rB true) (Ao (b:=true) rfl rfl rfl) (wm rfl (wz rfl rfl (wz rfl rfl (wv (r:=rB true) (Ao (b:=true) rfl rfl rfl) (wm rfl (wz rfl rfl (wz rfl rfl (wv (r:=rB true) (Ao (b:=true) rfl rfl rfl) (wm rfl (wz rfl rfl (wz rfl rfl (wv (r:=rB true) (Ao (b:=true) rfl rfl rfl) (wa rfl (Am (A5 (AE (true,()) hE (AF.c rfl AF.nil) sN))))))))))))))))))))))
    ·refine wo hh (wm rfl (wo hh (wv (Bj rfl rfl) (DT rfl hh rfl (wm rfl (bz hG (λhi hH=>?_) (λhi hI=>?_)))))))
     ·exact wf hi (wf hi (wv (r:=rB true) (Ao rfl hi rfl) (wm rfl (wz rfl rfl (wz rfl rfl (wv (r:=rB true) (Ao (b:=true) rfl rfl rfl) (wm rfl (wz rfl rfl (wz rfl rfl (wv (r:=rB true) (Ao (b:=true) rfl rfl rfl) (wm rfl (wz rfl rfl (wz rfl rfl (wv (r:=rB true) (Ao (b:=true) rfl rfl rfl) (wa rfl (Am (A5 (AE (true,()) hH (AF.c rfl AF.nil) sN))))))))))))))))))
     ·refine wo hi (wm rfl (wo hi (wv (Bj rfl rfl) (DT rfl hi rfl (wm rfl (bz hI (λhj hJ=>?_) (λhj hK=>?_)))))))
      ·exact wf hj (wf hj (wv (r:=rB true) (Ao rfl hj rfl) (wm rfl (wz rfl rfl (wz rfl rfl (wv (r:=rB true) (Ao (b:=true) rfl rfl rfl) (wm rfl (wz rfl rfl (wz rfl rfl (wv (r:=rB true) (Ao (b:=true) rfl rfl rfl) (wa rfl (Am (A5 (AE (true,()) hJ (AF.c rfl AF.nil) sN))))))))))))))
      ·refine wo hj (wm rfl (wo hj (wv (Bj rfl rfl) (DT rfl hj rfl (wm rfl (bz hK (λhk hL=>?_) (λhk hN=>?_)))))))
       ·exact wf hk (wf hk (wv (r:=rB true) (Ao rfl hk rfl) (wm rfl (wz rfl rfl (wz rfl rfl (wv (r:=rB true) (Ao (b:=true) rfl rfl rfl) (wa rfl (Am (A5 (AE (true,()) hL (AF.c rfl AF.nil) sN))))))))))
       ·refine wo hk (wm rfl (wo hk (wv (Bj rfl rfl) (DT rfl hk rfl (wm rfl (bz hN (λhl hO=>?_) (λhl hP=>?_)))))))
        ·exact wf hl (wf hl (wv (r:=rB true) (Ao rfl hl rfl) (wa rfl (Am (A5 (AE (true,()) hO (AF.c rfl AF.nil) sN))))))
        ·exact wo hl (wm rfl (wo hl (wv (Bj rfl rfl) (DT rfl hl rfl (wa rfl (Am (A5 (AE (decide (c=47),()) hP (AF.c rfl AF.nil) sN))))))))
 ·rintro⟨ho,⟨⟩⟩ hm;refine Ca (l':=[(2,rB ho)]) (H':=[]) rfl rfl ?_;replace hm:B7 ho=some r:=hm;unfold B7 at hm;refine Az ?_;obtain rfl:=A2 hm;exact Ay (Bw Tryz.results100 (AT rfl)) sN ⟨rfl,rfl⟩
theorem SI (F:Nat)(s:Ak)(r:Bool)(h:QC F s=some r):Fn Tryz.prog GE 72 [rS s] [] (λR H=>R=rB r∧H=[]):=by
 refine enter (n:=23) Tryz.func72 rfl Tryz.ntmps72 rfl (λw Z=>?_);unfold QC at h;refine Al (wa rfl (Aw (At (AA [(0,rS s),(11,rB ((decide ((s.length:Int)<1))||(decide (64<(s.length:Int)))))] [] ?_ ?_))))
 ·refine An (wm rfl (wv (B8 Es rfl) (wv (C0 rfl rfl) (wm rfl (AH (decide ((s.length:Int)<1)) (λc1=>?_) (λc1=>?_))))))
  ·refine wf c1 (wf c1 (wf c1 (wv (r:=rB true) (Ao rfl c1 rfl) (Am ?_))));exact BA c1
  ·refine wo c1 (wm rfl (wo c1 (wv (B8 Es rfl) (wo c1 (wv (Dl rfl rfl) (DT rfl c1 rfl (Am ?_)))))));exact BA c1
 refine cz h rfl (λc2 h3=>?_) (λc2 h4=>?_)
 ·refine Al (wa rfl (Aw (Az (Af ?_))));obtain rfl:=A2 h3;exact Ay (Bw Tryz.results72 (AT rfl)) sN ⟨rfl,rfl⟩
 ·refine A0 (AQ (At (Al (wa rfl (Aw (AJ (ob h4 λhg hh hf=>Bs (S:=Nat×(Int)×(Unit)) (V:=(Unit)×(Unit)) 0 (λσ=>Cu (λσ=>Ej s σ) σ.1 σ.2.1=some hg) (λσ=>[(0,rS s),(3,Aq σ.2.1)]) (λσ=>[]) (λσ=>σ.1) (F,0,()) hh (AF.c rfl (AF.c rfl AF.nil)) sN (λσ=>Jm =some r) (λσ=>[]) (λσ=>[]) ?_ ?_)))))))
  ·rintro⟨h1,ha,⟨⟩⟩ hi;refine Ca (l':=[(0,rS s),(3,Aq ha)]) (H':=[]) rfl rfl ?_;obtain⟨hj,rfl,hk,hb,he⟩:=CJ hi;replace hb:Ej s ha=some hk:=hb;unfold Ej at hb;refine At (Al (wm rfl (wm rfl (wv (B8 Es rfl) (wv (C0 rfl rfl) (Aw (cz hb rfl (λc53 hl=>?_) (λc53 hm=>?_))))))))
   ·refine A0 (AQ (At (AJ (Al (wm rfl (wm rfl (ck hl λhn ho=>wv (Cf Es rfl rfl hn) (ob ho λhp hq hr=>CS Tryz.call100 (QB (DC s ha) hp hq) rfl (wv (BD rfl) (Aw (cz hr rfl (λhs ht=>?_) (λhs hu=>?_))))))))))))
    ·refine Al (wa rfl (Aw (Az (A9 (Af (Af (Bi ?_)))))));have hw:=BC ht he hf;refine A9 (Af ?_);obtain rfl:=A2 hw;exact Ay (Bw Tryz.results72 (AT rfl)) sN ⟨rfl,rfl⟩
    ·refine A0 (AO (AQ (An (wm rfl (ck hu λhx hy=>wv (Bt rfl rfl hx) (wa rfl (Am ?_)))))));have hz:=Be hy he;exact A5 (AE (hj,ha+1,()) ⟨hz,Ur _⟩ (AF.c rfl (AF.c rfl AF.nil)) sN)
   ·refine Bu (A4 ?_);have h0:=BY hm he hf;exact A4 (Bb (AE ((),()) h0 AF.nil sN))
  ·rintro⟨⟨⟩,⟨⟩⟩ hd;refine C7 (l':=[]) (H':=[]) rfl rfl ?_;replace hd:Jm =some r:=hd;unfold Jm at hd;refine Ba (AQ (Al (wa rfl (Aw (Az ?_)))));obtain rfl:=A2 hd;exact Ay (Bw Tryz.results72 (AT rfl)) sN ⟨rfl,rfl⟩
theorem M9 (F:Nat)(s:Ak)(r:Bool)(h:D9 F s=some r):Fn Tryz.prog GE 73 [rS s] [] (λR H=>R=rB r∧H=[]):=by
 refine enter (n:=48) Tryz.func73 rfl Tryz.ntmps73 rfl (λw Z=>?_);unfold D9 at h;refine Al (wa rfl (Aw (At (ck h λg1 h2=>ck h2 λg3 h4=>AA [(0,rS s),(17,rB ((decide ((s.length:Int)<1))||((decide (24<(s.length:Int)))||(!(ov (Cw (DC s 0)))))))] [] ?_ ?_))))
 ·refine An (wm rfl (wv (B8 Es rfl) (wv (C0 rfl rfl) (wm rfl (AH (decide ((s.length:Int)<1)) (λc5=>?_) (λc5=>?_))))))
  ·refine wf c5 (wf c5 (wf c5 (wv (r:=rB true) (Ao rfl c5 rfl) (wm rfl (wz rfl rfl (wz rfl rfl (wz rfl rfl (wz rfl rfl (wv (r:=rB true) (Ao (b:=true) rfl rfl rfl) (Am ?_))))))))));exact BA c5
  ·refine wo c5 (wm rfl (wo c5 (wv (B8 Es rfl) (wo c5 (wv (Dl rfl rfl) (DT rfl c5 rfl (wm rfl (AH (decide (24<(s.length:Int))) (λc6=>?_) (λc6=>?_)))))))))
   ·refine wf c6 (wf c6 (wf c6 (wf c6 (wv (r:=rB true) (Ao rfl c6 rfl) (Am ?_)))));exact BA (And.intro c5 c6)
   ·refine wo c6 (wm rfl (wo c6 (wv (Cf Es rfl rfl (D8 (D8 g1 c5) c6)) (wo c6 (CS Tryz.call101 (I7 (DC s 0) (ov (Cw (DC s 0))) (E0 (D8 (D8 g3 c5) c6))) rfl (wo c6 (wv (BD rfl) (DT rfl c6 rfl (Am ?_)))))))));exact BA (And.intro c5 c6)
 refine cz h4 rfl (λc7 h8=>?_) (λc7 h9=>?_)
 ·refine Al (wa rfl (Aw (Az (Af ?_))));obtain rfl:=A2 h8;exact Ay (Bw Tryz.results73 (AT rfl)) sN ⟨rfl,rfl⟩
 ·refine A0 (AQ (At (Al (wa rfl (Aw (AJ (ob h9 λhj hk hi=>Bs (S:=Nat×(Int)×(Unit)) (V:=(Unit)×(Unit)) 0 (λσ=>Cu (λσ=>D3 s σ) σ.1 σ.2.1=some hj) (λσ=>[(0,rS s),(3,Aq σ.2.1)]) (λσ=>[]) (λσ=>σ.1) (F,1,()) hk (AF.c rfl (AF.c rfl AF.nil)) sN (λσ=>GZ =some r) (λσ=>[]) (λσ=>[]) ?_ ?_)))))))
  ·rintro⟨h7,hb,⟨⟩⟩ hl;refine Ca (l':=[(0,rS s),(3,Aq hb)]) (H':=[]) rfl rfl ?_;obtain⟨hm,rfl,hn,he,hh⟩:=CJ hl;replace he:D3 s hb=some hn:=he;unfold D3 at he;refine At (Al (wm rfl (wm rfl (wv (B8 Es rfl) (wv (C0 rfl rfl) (Aw (cz he rfl (λho hp=>?_) (λho hq=>?_))))))))
   ·refine A0 (AQ (At (AJ (ck hp λhf hr=>ck hr λhs ht=>ck ht λhu hw=>AA [(0,rS s),(3,Aq hb),(47,rB ((!(ov (Cw (DC s hb))))&&((!(ov (DA (DC s hb))))&&((!decide ((DC s hb)=45))&&(!decide ((DC s hb)=95))))))] [] ?_ ?_))))
    ·refine An (wm rfl (wm rfl (wv (Cf Es rfl rfl hf) (CS Tryz.call101 (I7 (DC s hb) (ov (Cw (DC s hb))) (E0 hs)) rfl (wv (BD rfl) (wm rfl (AH (!(ov (Cw (DC s hb)))) (λha=>?_) (λha=>?_))))))))
     ·refine wo ha (wm rfl (wo ha (wm rfl (wo ha (wv (Cf Es rfl rfl hf) (wo ha (CS Tryz.call102 (I8 (DC s hb) (ov (DA (DC s hb))) (E0 (CA hu ha))) rfl (wo ha (wv (BD rfl) (Eu rfl ha rfl (wm rfl (AH (!(ov (DA (DC s hb)))) (λhd=>?_) (λhd=>?_)))))))))))))
      ·refine wo hd (wm rfl (wo hd (wm rfl (wo hd (wv (Cf Es rfl rfl hf) (wo hd (wv (Eb rfl rfl) (Eu rfl hd rfl (wm rfl (AH (!decide ((DC s hb)=45)) (λc80=>?_) (λc80=>?_)))))))))))
       ·refine wo c80 (wm rfl (wo c80 (wm rfl (wo c80 (wv (Cf Es rfl rfl hf) (wo c80 (wv (Eb rfl rfl) (Eu rfl c80 rfl (Am ?_)))))))));exact BA (And.intro ha (And.intro hd c80))
       ·refine wf c80 (wf c80 (wf c80 (wf c80 (wv (r:=rB false) (A1 rfl c80 rfl) (Am ?_)))));exact BA (And.intro ha (And.intro hd c80))
      ·refine wf hd (wf hd (wf hd (wf hd (wv (r:=rB false) (A1 rfl hd rfl) (wm rfl (wz rfl rfl (wz rfl rfl (wz rfl rfl (wz rfl rfl (wv (r:=rB false) (A1 (b:=false) rfl rfl rfl) (Am ?_)))))))))));exact BA (And.intro ha hd)
     ·refine wf ha (wf ha (wf ha (wf ha (wf ha (wv (r:=rB false) (A1 rfl ha rfl) (wm rfl (wz rfl rfl (wz rfl rfl (wz rfl rfl (wz rfl rfl (wv (r:=rB false) (A1 (b:=false) rfl rfl rfl) (wm rfl (wz rfl rfl (wz rfl rfl (wz rfl rfl (wz rfl rfl (wv (r:=rB false) (A1 (b:=false) rfl rfl rfl) (Am ?_))))))))))))))))));exact BA ha
    refine cz hw rfl (λhx hy=>?_) (λhx hz=>?_)
    ·refine Al (wa rfl (Aw (Az (A9 (Af (Af (Bi ?_)))))));have h0:=BC hy hh hi;refine A9 (Af ?_);obtain rfl:=A2 h0;exact Ay (Bw Tryz.results73 (AT rfl)) sN ⟨rfl,rfl⟩
    ·refine A0 (AO (AQ (An (wm rfl (ck hz λh1 h3=>wv (Bt rfl rfl h1) (wa rfl (Am ?_)))))));have h5:=Be h3 hh;exact A5 (AE (hm,hb+1,()) ⟨h5,Ur _⟩ (AF.c rfl (AF.c rfl AF.nil)) sN)
   ·refine Bu (A4 ?_);have h6:=BY hq hh hi;exact A4 (Bb (AE ((),()) h6 AF.nil sN))
  ·rintro⟨⟨⟩,⟨⟩⟩ hg;refine C7 (l':=[]) (H':=[]) rfl rfl ?_;replace hg:GZ =some r:=hg;unfold GZ at hg;refine Ba (AQ (Al (wa rfl (Aw (Az ?_)))));obtain rfl:=A2 hg;exact Ay (Bw Tryz.results73 (AT rfl)) sN ⟨rfl,rfl⟩
theorem N7 (n:Int)(r:Bool)(h:Hh n=some r):Fn Tryz.prog GE 48 [Aq n] [] (λR H=>R=rB r∧H=[]):=by
 refine enter (n:=9) Tryz.func48 rfl Tryz.ntmps48 rfl (λw Z=>?_);unfold Hh at h;refine Al (wa rfl (Aw (AA [(2,rB ((decide (0≤n))&&(decide (n≤1073741824))))] [] ?_ ?_)))
 ·refine An (wm rfl (wv (G4 rfl rfl) (wm rfl (AH (decide (0≤n)) (λc1=>?_) (λc1=>?_)))))
  ·refine wo c1 (wm rfl (wo c1 (wv (Ie rfl rfl) (Eu rfl c1 rfl (wa rfl (Am ?_))))));exact BA c1
  ·refine wf c1 (wf c1 (wv (r:=rB false) (A1 rfl c1 rfl) (wa rfl (Am ?_))));exact BA c1
 refine Az ?_;obtain rfl:=A2 h;exact Ay (Bw Tryz.results48 (AT rfl)) sN ⟨rfl,rfl⟩
theorem PE (F:Nat)(t:Ab)(r:Int)(h:J6 F t=some r):Fn Tryz.prog GE 41 [Bf (Ah t)] [] (λR H=>R=Aq r∧H=[]):=by
 refine enter (n:=27) Tryz.func41 rfl Tryz.ntmps41 rfl (λw Z=>?_);unfold J6 at h;refine Al (B3 rfl rfl (λb1=>?_));refine wa rfl (Aw (At (AJ (Al (vF BL rfl D5 (vL 0 DF rfl (E6 (rs:=[rS t.fID]) (r:=rB (Pa t.fID)) Tryz.call61 rfl (TL t.fID) rfl rfl (wv (BD rfl) (wa rfl (Aw (cz h rfl (λc2 h3=>?_) (λc2 h4=>?_))))))))))))
 ·refine Al (wa rfl (Aw (Az (A9 (Af ?_)))));obtain rfl:=A2 h3;exact Ay (Bw QZ (AT rfl)) (sS sN) ⟨rfl,rfl⟩
 ·refine Al (vF BL rfl Cv (vL 0 CC rfl (ob h4 λr5 e7 h6=>CS Tryz.call48 (N7 t.fAt r5 e7) rfl (wv (BD rfl) (wa rfl (Aw (cz h6 rfl (λc8 h9=>?_) (λc8 hb=>?_))))))))
  ·refine Al (wa rfl (Aw (Az (A9 (Af ?_)))));obtain rfl:=A2 h9;exact Ay (Bw QZ (AT rfl)) (sS sN) ⟨rfl,rfl⟩
  ·refine AA [(1,rP b1 0),(13,rB ((!(C9 t.fTenant))||(!(C9 t.fSource))))] [.blk b1 (Ah t) 31] ?_ ?_
   ·refine An (vF BL rfl D5 (vL 0 DF rfl (E6 (rs:=[rS t.fTenant]) (r:=rB (C9 t.fTenant)) Tryz.call62 rfl (Qq t.fTenant) rfl rfl (wv (BD rfl) (wm rfl (AH (!(C9 t.fTenant)) (λha=>?_) (λha=>?_)))))))
    ·refine wf ha (wf ha (wf ha (wf ha (wv (r:=rB true) (Ao rfl ha rfl) (wa rfl (Am ?_))))));exact BA ha
    ·refine wo ha (vF BL rfl D5 (wo ha (vL 0 DF rfl (wo ha (E6 (rs:=[rS t.fSource]) (r:=rB (C9 t.fSource)) Tryz.call62 rfl (Qq t.fSource) rfl rfl (wo ha (wv (BD rfl) (DT rfl ha rfl (wa rfl (Am ?_))))))))));exact BA ha
   refine cz hb rfl (λhd he=>?_) (λhd hf=>?_)
   ·refine Al (wa rfl (Aw (Az (A9 (Af ?_)))));obtain rfl:=A2 he;exact Ay (Bw QZ (AT rfl)) (sS sN) ⟨rfl,rfl⟩
   ·refine A0 (AO (AQ (Al (vF BL rfl Ir (vL 0 Jw rfl (ob hf λhg hh hi=>CS Tryz.call63 (P8 F t.fBody hg hh) rfl (wa rfl (Aw (Az ?_)))))))));obtain rfl:=A2 hi;exact Ay (Bw QZ (AT rfl)) (sS sN) ⟨rfl,rfl⟩
theorem P9 (t:Ab)(r:Ab)(h:Ow t=some r):Fn Tryz.prog GE 35 [Bf (Ah t)] [] (λR H=>R=Bf (Ah r)∧H=[]):=by
 refine enter (n:=8) Tryz.func35 rfl Tryz.ntmps35 rfl (λw Z=>?_);unfold Ow at h;refine Al (B3 rfl rfl (λb1=>?_));refine CO (cs:=[rS ([]:Ak),Aq 0,rS ([]:Ak),rS ([]:Ak),rv (.slice none 0 0)]) MT rfl rfl (λb2=>?_);refine BW (vF BL rfl Ir (vL 1 Jw rfl (ob h λr3 e5 h4=>CS Tryz.call56 (QL t.fBody r3 e5) rfl (vF BL rfl Ir (CP (i:=1) Ir rfl rfl (CI rfl) rfl rfl (cs':=[rS t.fID,Aq t.fAt,rS t.fTenant,rS t.fSource,AY 4 (AD Ad r3)]) rfl (H':=[.blk b2 [rS ([]:Ak),Aq 0,rS ([]:Ak),rS ([]:Ak),rv (.slice none 0 0)] 31,.blk b1 [rS t.fID,Aq t.fAt,rS t.fTenant,rS t.fSource,AY 4 (AD Ad r3)] 31]) rfl (BW (wv (Bo (i:=1) EE BP rfl rfl rfl rfl) (BJ (i:=0) BP rfl rfl rfl (BV.c rfl) rfl rfl (cs':=[rS t.fID,Aq t.fAt,rS t.fTenant,rS t.fSource,AY 4 (AD Ad r3)]) rfl (H':=[.blk b2 [rS t.fID,Aq t.fAt,rS t.fTenant,rS t.fSource,AY 4 (AD Ad r3)] 31,.blk b1 [rS t.fID,Aq t.fAt,rS t.fTenant,rS t.fSource,AY 4 (AD Ad r3)] 31]) rfl (Aw (Az ?_))))))))));obtain rfl:=A2 h4;exact Ay (Bw Tryz.results35 (J8 (i:=0) EE BP rfl rfl rfl)) (sS (sS sN)) ⟨rfl,rfl⟩
end Go.Proofs.YtmmbdclkpijkpaaGreatDoor.Q
namespace Go.Proofs.YtmmbdclkpijkpaaGreatDoor
open Go
def keysOk {T:Type}(xs:List (Ak×T)):Bool:=decide (xs.length*16≤140737488355328)&&xs.all λp=>QU p.1
end Go.Proofs.YtmmbdclkpijkpaaGreatDoor
namespace Go.Proofs.YtmmbdclkpijkpaaGreatDoor.Q
open Go Go.RowKit Go.ChangeMaps
set_option linter.unusedVariables false
set_option linter.unusedSimpArgs false
def RU:Value→Option (DataW Unit×List MemPlace):=λ_=>some (.nil,[])
theorem S3 {P:Program}{k:TypeId}(hkt:P.underlying k=some .string){e:MapEntry}{s:Ak}(he:e.key = .string (B s))(hs:s.length≤maxLen):WideElems.rd P k RU e=some (.string s,.nil):=by
 obtain⟨key,val,born⟩:=e;simp only at he;subst he;exact WideElems.rd_mk (yv:=(.nil,[])) (by simp[keyOf,hkt,mapKey,B];exact hs) rfl
theorem G5.rgs {P:Program}{k:TypeId}(hkt:P.underlying k=some .string){Z:Fz}:∀{f:List (Ak×Rp)} {es:List MapEntry},G5 Z f es→(∀p∈f,p.1.length≤maxLen)→es.map (WideElems.rg P k RU)=f.map (λp=>(Lit.string p.1,(.nil:DataW Unit)))∧(∀x∈es,∃y,WideElems.rd P k RU x=some y)∧es.map (·.key)=f.map λp=>Value.string (B p.1)
 | [],[],_,_=>⟨rfl,(λ_ h=>by cases h),rfl⟩
 | p::f,e::es,⟨⟨h1,_⟩,h2⟩,hk=>by
  obtain⟨a1,a2,a3⟩:=G5.rgs hkt h2 λq hq=>hk q (List.mem_cons_of_mem _ hq);have hr:=S3 hkt h1 (hk p (List.mem_cons_self ..));refine⟨?_,λx hx=>?_,?_⟩
  ·rw[UH,UH,a1,WideElems.rg_of hr]
  ·rcases List.mem_cons.1 hx with rfl | hx
   ·exact⟨_,hr⟩
   ·exact a2 x hx
  ·rw[UH,UH,a3,h1]
theorem R2 {P:Program}{k:TypeId}(hkt:P.underlying k=some .string){w:World}{Z:Fz}{b:Nat}{m:List (Ak×Rp)}{es:Array MapEntry}{ck:Nat}(hb:w.heap[b]? =some (.map es ck))(hm:DE Z m es.toList ck)(hk:∀p∈m,p.1.length≤maxLen)(hsz:m.length≤maxLen) :
  ∃D0:DataW Unit,w.ownsMap P k RU b es.size D0∧(strKeys D0).Perm (m.map (·.1))∧Maps.size D0=m.length:=by
 obtain⟨h1,h2,h3,f,h4,h5⟩:=hm;obtain⟨a1,a2,a3⟩:=G5.rgs hkt h5 λp hp=>hk p (h4.subset hp);have hlen:es.size=m.length:=by
  have e:=congrArg List.length a3;simp only[Us,Array.length_toList] at e;rw[e];exact h4.length_eq
 have hkey:es.toList.Pairwise (λx y=>x.key≠y.key):=by
  have e:(es.toList.map (·.key)).Nodup:=by
   rw[a3];have hf:(f.map (·.1)).Nodup:=(h4.map _).nodup_iff.2 h1;have:f.map (λp=>Value.string (B p.1))=(f.map (·.1)).map λs=>Value.string (B s):=by rw[US];rfl
   rw[this];refine List.Pairwise.map _ (λx y hxy e=>hxy ?_) hf;simp[B] at e;exact e
  exact List.pairwise_map.1 e
 refine⟨.map ((es.toList.map (WideElems.rg P k RU)).foldr DataW.insert []),⟨es,ck,hb,⟨by rw[hlen];exact hsz,(MapKept.stamped_iff es ck).2 ⟨h3,h2,hkey⟩,a2⟩,Uv _,rfl⟩,?_,?_⟩
 ·show(((es.toList.map (WideElems.rg P k RU)).foldr DataW.insert []).map λp=>strOf p.1).Perm _;rw[a1];refine((WideShapes.sorted_perm _).map _).trans ?_;rw[US];exact h4.map _
 ·show((es.toList.map (WideElems.rg P k RU)).foldr DataW.insert []).length=_;rw[length_sorted,Us,Array.length_toList,hlen]
theorem Nk {w:World}{a b:Nat}{e:TypeId}{sz n:Nat}{v:Value}{us:List Value}(h:w.ownsRow a e sz v n us)(hb:b≤a):w.ownsRow b e sz v n us:=by
 refine⟨h.1,?_⟩;rcases h.2 with hn | ⟨g,cap,cur,rfl,hg,rest⟩
 ·exact .inl hn
 ·exact .inr ⟨g,cap,cur,rfl,Nat.le_trans hb hg,rest⟩
theorem Mg {w:World}{a:Nat}{e:TypeId}{sz n:Nat}{v:Value}{us:List Value}(h:w.ownsRow a e sz v n us):∀k∈v.ownBlock.toList,a≤k:=by
 rcases h.2 with⟨rfl,_⟩ | ⟨g,cap,cur,rfl,hg,rest⟩
 ·intro k hk;simp[Value.ownBlock] at hk
 ·intro k hk;simp[Value.ownBlock] at hk;omega
theorem St.newrow {c:Cx}{H:List Ent}{Z:Fz}{w w':World}(h:St c H Z w)(hb:Below w.heap.size w w'){v:Value}{e:TypeId}{ys:List Ak}(hr:w'.ownsRow w.heap.size e 1 v ys.length (ys.map Go.Proofs.encStr)):St c (.row v e 1 (ys.map eS)::H) Z w':=by
 refine h.add hb.os hb.tape hb.output hb.size (λk hk=>hb.block k hk) ⟨λc hc=>?_,ys.map Go.Proofs.encStr,?_,?_⟩ (λk hk=>Mg hr k hk)
 ·obtain⟨y,_,rfl⟩:=List.mem_map.1 hc;rfl
 ·rw[Us];exact Nk hr (UL _)
 ·clear hr
  induction ys with
  | nil=>exact trivial
  | cons y r ih=>exact⟨by show Go.Proofs.encStr y=Value.string (B y);rfl,ih⟩
end Go.Proofs.YtmmbdclkpijkpaaGreatDoor.Q
namespace Go.Proofs.YtmmbdclkpijkpaaGreatDoor
open Go
set_option linter.unusedVariables false
structure Aa where
 fTimer:Ab
 fTold:Bool
 deriving DecidableEq,Inhabited
structure A8 where
 fTimers:(List (Ak×Aa))
 deriving DecidableEq,Inhabited
def PC :Option (A8):=
 some (A8.mk ([]:List (Ak×Aa)))
def Gx (q:A8):Option (Bool×A8):=
 some (true,q)
def J5 (t:Ab)(now:Int):Option (Bool):=
 some (decide (now<t.fAt))
def Cq (ys:(List Ab))(now:Int)(ha:Int):Option (Stp (Int) (Out (Int) (Unit))):=
 Bm (decide (ha<(ys.length:Int))) (Bk (D2 ha (ys.length:Int))<|B0 (J5 (Aj ys ha) now) λhb=>Bm (hb) (some (.out (.ret ha))) (Bk (BH .i64 (ha+1))<|some (.next (ha+1)))) (some (.out (.go ())))
def Ei :Option (Int):=
 some (-1)
def Ga (F:Nat)(ys:(List Ab))(now:Int):Option (Int):=
 B0 (Cu (λσ=>Cq ys now σ) F 0) (B9 λν=>Ei )
def Ct (ha:Int)(hb:Int)(he:Bool)(hf:Bool)(hd:(List Ab)):Option (Stp (Int×Int×(List Ab)) (Out ((List Ab)) (Int×(List Ab)))):=
 Bk (BH .i64 (ha+1))<|some (.next (hb,ha+1,hd))
def Ce (now:Int)(hb:Int)(hd:Int)(ha:(List Ab)):Option (Stp (Int×Int×(List Ab)) (Out ((List Ab)) (Int×(List Ab)))):=
 Bm (decide (hd<(ha.length:Int))) (Bk (D2 hd (ha.length:Int))<|B0 (J5 (Aj ha hd) now) λhe=>Bm (!he) (Bk (D2 hb (ha.length:Int))<|ML (List.set ha (Int.toNat hb) (Aj ha hd)) λhf=>Bk (BH .i64 (hb+1))<|Ct hd (hb+1) he (!he) hf) (Ct hd hb he (!he) ha)) (some (.out (.go (hb,ha))))
def Dt (ha:Int)(hb:(List Ab)):Option ((List Ab)):=
 Bk (Ki ha (hb.length:Int))<|Bk (Ki ha ((List.take (Int.toNat ha) hb++List.replicate (hb.length-Int.toNat ha) (Ab.mk ([]:Ak) 0 ([]:Ak) ([]:Ak) ([]:(List Ac)))).length:Int))<|some (List.take (Int.toNat ha) (List.take (Int.toNat ha) hb++List.replicate (hb.length-Int.toNat ha) (Ab.mk ([]:Ak) 0 ([]:Ak) ([]:Ak) ([]:(List Ac)))))
def E5 (F:Nat)(ys:(List Ab))(now:Int):Option ((List Ab)):=
 B0 (Ga F ys now) λr1=>Bm (decide (r1=(-1))) (some ys) (Bk (BH .i64 (r1+1))<|B0 (Cu (λσ=>Ce now σ.1 σ.2.1 σ.2.2) F (r1,r1+1,ys)) (B9 λν=>Dt ν.1 ν.2))
def Ew (he:Ak)(hd:Aa)(ha:(List Ab)):Option (Stp ((List Ab)) (Out ((List Ab)×A8) ((List Ab)))):=
 B0 (Ow hd.fTimer) λhb=>Bk (LA 80 (ha.length+([hb]:List Ab).length))<|some (.next (ha++([hb]:List Ab)))
def Ev (r1:Bool×A8)(ha:(List Ab)):Option ((List Ab)×A8):=
 Bk (EO (λx y:Ab=>CQ x.fAt y.fAt x.fID y.fID) ha)<|Bk (Nat.blt ha.length 4611686018427387904)<|some (srt (λx y:Ab=>CQ x.fAt y.fAt x.fID y.fID) ha,r1.2)
def J4 (q:A8):Option ((List Ab)×A8):=
 B0 (Gx q) λr1=>Bm (!r1.1) (some (([]:List Ab),r1.2)) (OO r1.2.fTimers λord=>B0 (NS (λp τ=>Ew p.1 p.2 τ) ord ([]:List Ab)) (B9 λν=>Ev r1 ν))
def E7 (now:Int)(hb:(List Ak))(ha:Int)(hd:(List (Ak×Aa))):Option (Stp (Int×(List (Ak×Aa))) (Out ((List Ab)×A8) ((List (Ak×Aa))))):=
 Bm (decide (ha<(hb.length:Int))) (Bk (D2 ha (hb.length:Int))<|Bk (BH .i64 (ha+1))<|some (.next (ha+1,mset hd (Aj hb ha) (Aa.mk ((AN hd (Aj hb ha) (Aa.mk (Ab.mk ([]:Ak) 0 ([]:Ak) ([]:Ak) ([]:(List Ac))) false)).fTimer) (((AN hd (Aj hb ha) (Aa.mk (Ab.mk ([]:Ak) 0 ([]:Ak) ([]:Ak) ([]:(List Ac))) false)).fTold)||(decide ((((AN hd (Aj hb ha) (Aa.mk (Ab.mk ([]:Ak) 0 ([]:Ak) ([]:Ak) ([]:(List Ac))) false)).fTimer).fAt)≤now))))))) (some (.out (.go hd)))
def HM (F:Nat)(now:Int)(hb:(List (Ak×Aa))):Option ((List Ab)×A8):=
 B0 (J4 (A8.mk hb)) λha=>B0 (E5 F ha.1 now) λhd=>some (hd,ha.2)
def MX (F:Nat)(q:A8)(now:Int):Option ((List Ab)×A8):=
 B0 (Gx q) λr2=>Bm (!r2.1) (some (([]:List Ab),r2.2)) (Bk (keysOk r2.2.fTimers)<|OO (List.map Prod.fst r2.2.fTimers) λha=>B0 (Cu (λσ=>E7 now ha σ.1 σ.2) F (0,r2.2.fTimers)) (B9 λν=>HM F now ν))
def KZ (F:Nat)(q:A8)(t:Ab)(now:Int):Option (Int×A8):=
 B0 (Gx q) λr2=>Bm (!r2.1) (some (10,r2.2)) (B0 (J6 F t) λr8=>Bm (!decide (r8=0)) (some (r8,r2.2)) (Bk ((Hh now).isSome)<|Bm (((!(ov (Hh now)))||(decide (t.fAt<now)))) (some (2,r2.2)) (Bm (DM r2.2.fTimers t.fID) (some (6,r2.2)) (Bm (decide (256≤(r2.2.fTimers.length:Int))) (some (3,r2.2)) (B0 (Ow t) λha=>some (0,(A8.mk (mset r2.2.fTimers t.fID (Aa.mk ha false)))))))))
def Na (q:A8)(id:Ak):Option (Int×A8):=
 B0 (Gx q) λr1=>Bm (!r1.1) (some (10,r1.2)) (Bm (!(DM r1.2.fTimers id)) (some (5,r1.2)) (some (0,(A8.mk (mdel r1.2.fTimers id)))))
def DL (id:Ak)(x7:Bool)(x8:(List (Ak×Aa))):Option (Int×A8):=
 Bm (x7) (some (10,(A8.mk x8))) (B0 (Na (A8.mk x8) id) λha=>some (ha.1,ha.2))
def GN (q:A8)(id:Ak):Option (Int×A8):=
 B0 (Gx q) λr9=>Bm (r9.1) (DL id ((AN r9.2.fTimers id (Aa.mk (Ab.mk ([]:Ak) 0 ([]:Ak) ([]:Ak) ([]:(List Ac))) false)).fTold) r9.2.fTimers) (DL id false r9.2.fTimers)
def Kx (q:A8):Option (Int×Bool×A8):=
 B0 (J4 q) λr1=>Bm (decide ((r1.1.length:Int)=0)) (some (0,false,r1.2)) (Bk (D2 0 (r1.1.length:Int))<|some ((Aj r1.1 0).fAt,true,r1.2))
end Go.Proofs.YtmmbdclkpijkpaaGreatDoor
namespace Go.Proofs.YtmmbdclkpijkpaaGreatDoor.Q
open Go Go.RowKit Go.Sort Go.Shelf Go.Proofs
set_option linter.unusedVariables false
set_option linter.unusedSimpArgs false
theorem NE {Z:Fz}{T α:Type}{enc:T→List Rp}{raw:α→List Value}(hR:∀x us,AS Z (enc x) us→∃a,us=raw a):∀{xs:List T} {us:List Value},AS Z (xs.map enc).flatten us→∃zs:List α,us=(zs.map raw).flatten∧All2 (λx a=>AS Z (enc x) (raw a)) xs zs
 | [],us,h=>by
  cases us with
  | nil=>exact⟨[],rfl,.nil⟩
  | cons _ _=>exact absurd h id
 | x::r,us,h=>by
  simp only[UH,List.flatten_cons] at h;have h1:=h.take (enc x).length;have h2:=h.drop (enc x).length;rw[List.take_left' rfl] at h1;rw[List.drop_left' rfl] at h2;obtain⟨a,ha⟩:=hR x _ h1;obtain⟨zs',e,h3⟩:=NE hR h2;refine⟨a::zs',?_,.cons (ha▸h1) h3⟩;rw[UH,List.flatten_cons,← ha,← e,List.take_append_drop]
theorem Rs {Z:Fz}{T α:Type}{enc:T→List Rp}{raw:α→List Value}{xs:List T}{zs:List α}(h:All2 (λx a=>AS Z (enc x) (raw a)) xs zs):AS Z (xs.map enc).flatten (zs.map raw).flatten:=by
 induction h with
 | nil=>exact trivial
 | cons h1 _ ih=>exact h1.append ih
theorem JY {α:Type}[Inhabited α]{raw:α→List Value}{k:Nat}(hk:∀a,(raw a).length=k)(d:Array α):flatK raw k d=((d.toList.map raw).flatten).toArray:=by
 have hl:((d.toList.map raw).flatten).length=d.size*k:=by
  rw[DQ (sz:=k) (λc hc=>by obtain⟨a,_,rfl⟩:=List.mem_map.1 hc;exact hk a)];simp
 refine ext_get! (by rw[size_flatK];simpa using hl.symm) λt ht=>?_;have ht':t<d.size*k:=by simpa using ht
 have hk0:0<k:=by
  rcases Nat.eq_zero_or_pos k with h | h
  ·subst h;simp at ht'
  ·exact h
 have hq:t/k<d.size:=by rw[Nat.div_lt_iff_lt_mul hk0];exact ht'
 have hm:t % k<k:=Nat.mod_lt _ hk0;rw[get_flatK raw k d t ht'];have e2:=Gb (sz:=k) (vs:=d.toList.map raw) (λc hc=>by obtain⟨a,_,rfl⟩:=List.mem_map.1 hc;exact hk a) (i:=t/k) (c:=raw d[t/k]!) (by simp[hq]) (j:=t % k) (u:=(raw d[t/k]!)[t % k]!) (by rw[getElem!_pos (raw d[t/k]!) (t % k) (by rw[hk];exact hm)];simp[hk,hm]);rw[Nat.div_add_mod' t k] at e2;have hlt:t<((d.toList.map raw).flatten).length:=by rw[hl];exact ht'
 rw[getElem!_pos _ t (by simpa using hlt)];rw[Uj hlt] at e2;simpa using(Option.some.inj e2).symm
theorem Lt {α:Type}[Inhabited α]{raw:α→List Value}{k:Nat}{w:World}{g n:Nat}{os:Array Obj}{cur:Array Value}{e:TypeId}{fr:Nat×Nat}(d:Array α)(hb:w.heap[g]? =some (.cells cur e fr)) :
  (sortWorldK raw k w g 0 n d os).heap[g]? =some (.cells (putCells id 0 (flatK raw k d) cur) e fr):=by
 have hg:g<w.heap.size:=(Array.getElem?_eq_some_iff.1 hb).1;unfold sortWorldK;rw[heap_grow_old _ _ (by rw[size_putRowK];exact hg)];simp[putRowK,putRow,mapBlock,Sort.ahead,Array.getElem?_modify,hb,onCells]
theorem H9 {α:Type}[Inhabited α]{raw:α→List Value}{k:Nat}{w:World}{g n:Nat}{os:Array Obj}(d:Array α){j:Nat}(hj:j<w.heap.size)(hne:j≠g) :
  (sortWorldK raw k w g 0 n d os).heap[j]? =w.heap[j]?:=by
 unfold sortWorldK;rw[heap_grow_old _ _ (by rw[size_putRowK];exact hj)];simp[putRowK,putRow,mapBlock,Sort.ahead,Array.getElem?_modify,Ne.symm hne]
theorem J1 (cur:Array Value)(F:List Value)(h:F.length≤cur.size):(putCells id 0 F.toArray cur).toList.take F.length=F:=by
 apply List.ext_getElem?;intro j
 by_cases hj:j<F.length
 ·rw[List.getElem?_take_of_lt hj,Array.getElem?_toList];simp[putCells,hj,show j<cur.size by omega]
 ·rw[List.getElem?_take_eq_none (by omega),List.getElem?_eq_none (by omega)]
theorem S0 {P:Program}{E:Fz→Prop}{ρ:Ren}(L:SlLaysF0.n6 P ρ){k:Nat}(aE:∀w,(isAgg (ρ.t 24)).run P w = .ok true w)(zE:∀w,(Go.sizeOf (ρ.t 24)).run P w = .ok k w)
  {T:Type} {enc:T→List Rp} (hlen:∀x,(enc x).length=k) {α:Type} [Inhabited α] (raw:α→List Value) (hk:∀a,(raw a).length=k) (h1:∀a,∀v∈raw a,v.oneCell'=true)
  (cf:α→α→Int) (hO:SWO (ltOf cf)) {lt:T→T→Bool} (hL:RZ lt)
  (hR:∀Z x us,AS Z (enc x) us→∃a,us=raw a)
  (hlt:∀Z x y a b,AS Z (enc x) (raw a)→AS Z (enc y) (raw b)→lt x y=ltOf cf a b)
  (g:Nat) (eg:∀args w,(callFunc g args).run P w = .ok (.enter g args) w)
  (hcmp:∀(a b:α) W,Calls P g #[.agg (raw a).toArray,.agg (raw b).toArray] W λe w'=>e = .returned (.int .i64 (cf a b))∧∃q os',w'=grow (W.drewN q) os')
  {v:Value} {e:TypeId} {xs:List T} (hd:EO lt xs=true) (hsz:Nat.blt xs.length 4611686018427387904=true) :
  Fn P E (ρ.f 6) [rv v,rv (.func (.func g) #[] #[])] [.row v e k (xs.map enc)] (λR H=>R=rv (.tuple #[])∧H=[.row v e k ((srt lt xs).map enc)]):=λw Z vs hv hs=>by
 have e0:vs=[v,.func (.func g) #[] #[]]:=AS.eq_rv (us:=[v,.func (.func g) #[] #[]]) hv;subst e0;have hsz':xs.length<4611686018427387904:=by simpa using hsz
 obtain⟨h0,us,⟨h2,h3⟩,h4⟩:=hs.ent (i:=0) rfl;rcases h3 with⟨rfl,hz0⟩ | ⟨b,cap,cur,rfl,_,hb,hcap,hm,hcs,htk⟩
 ·simp at hz0;subst hz0;refine(AnyF.slices_SortFunc_none (P:=P) (ρ:=ρ) { L with } none 0 (.func (.func g) #[] #[]) w).mono ?_;rintro e' w' ⟨rfl,rfl⟩;exact⟨_,_,_,Z,rfl,⟨rfl,rfl⟩,rfl,hs⟩
 ·obtain⟨zs',eus,ha⟩:=NE (hR Z) h4;subst eus;have hal:zs'.length=xs.length:=ha.length.symm;have hrl:((zs'.map raw).flatten).length=xs.length*k:=by
   rw[DQ (sz:=k) (λc hc=>by obtain⟨a,_,rfl⟩:=List.mem_map.1 hc;exact hk a)];simp[hal]
  simp only[Us] at h2 hcap htk;have hfl:flatK raw k zs'.toArray=((zs'.map raw).flatten).toArray:=JY hk _;have hH:HoldsK raw k w b 0 zs'.toArray:=by
   unfold HoldsK;rw[hfl];intro j hj;have hj':j<((zs'.map raw).flatten).length:=by simpa using hj
   refine⟨?_,by simp[World.frozen?,hb]⟩;have h5:(cur.toList.take (xs.length*k))[j]? =((zs'.map raw).flatten)[j]?:=by rw[htk]
   rw[List.getElem?_take_of_lt (by omega)] at h5;simp only[World.cell?,hb,UE,Option.isSome_none,UJ,UT];rw[← Array.getElem?_toList,h5];rw[getElem!_pos _ j hj];simp[hj']
  have hblk:b<w.heap.size:=(Array.getElem?_eq_some_iff.1 hb).1;have hsl:(Value.slice (some ⟨b,0,none⟩) (xs.map enc).length cap) = .slice (some ⟨b,0,none⟩) zs'.toArray.size cap:=by simp[hal]
  have hcon:=AnyQ.slices_SortFunc (P:=P) (ρ:=ρ) L k aE zE raw hk h1 cf hO g #[] b 0 cap zs'.toArray w eg (λm os dk hs x y=>by simpa using hcmp x y _) hH hblk (by simpa[hal] using hsz');have hargs:[Value.slice (some ⟨b,0,none⟩) (xs.map enc).length cap,Value.func (.func g) #[] #[]].toArray = #[.slice (some ⟨b,0,none⟩) zs'.toArray.size cap,.func (.func g) #[] #[]]:=by rw[hsl]
  rw[hargs];refine hcon.mono ?_;rintro e' w' ⟨rfl,d',n,os,hp,hsd,rfl⟩;have hds:d'.size=zs'.length:=by simpa using hp.1
  have hperm:d'.toList.Perm zs':=by
   have:=hp.2.2;rw[Array.extract_eq_self_of_le (by rw[hp.1];exact Uv _),Array.extract_eq_self_of_le (Uv _)] at this;exact this
  obtain⟨xs',hx1,hx2⟩:=All2.perm hperm.symm ha;have hpw:d'.toList.Pairwise λa b=>ltOf cf b a=false:=by
   rw[List.pairwise_iff_getElem];intro i j hi hj hij;have hi':i<d'.size:=by simpa using hi
   have hj':j<d'.size:=by simpa using hj
   have:=hsd i j (UL _) hij (by simpa[hds] using hj');rw[getElem!_pos d' j hj',getElem!_pos d' i hi'] at this;simpa using this
  have hxs:xs'=srt lt xs:=Nc hL hd hx1 (All2.pairwise (p:=λx y=>lt y x=false) (λx x' a a' h5 h6 h7=>by rw[hlt Z x' x a' a h6 h5];exact h7) hx2 hpw);subst hxs;have hl2:(srt lt xs).length=xs.length:=(GA lt xs).length_eq;have hf2:flatK raw k d'=((d'.toList.map raw).flatten).toArray:=JY hk _;have hrl2:((d'.toList.map raw).flatten).length=xs.length*k:=by
   rw[DQ (sz:=k) (λc hc=>by obtain⟨a,_,rfl⟩:=List.mem_map.1 hc;exact hk a)];simp[hds,hal]
  have hcc:xs.length*k≤cap*k:=Nat.mul_le_mul_right _ hcap;have hset:=hs.set (i:=0) (w':=sortWorldK raw k w b 0 n d' os) (e':=.row (.slice (some ⟨b,0,none⟩) (xs.map enc).length cap) e k ((srt lt xs).map enc)) rfl rfl rfl rfl (size_sortWorldK_c raw k w b 0 n d' os) (λj hj hne=>H9 d' hj (λe1=>hne (by simp[Ent.foot,Value.ownBlock,e1])))
   ⟨λcl hcl=>by obtain⟨x,_,rfl⟩:=List.mem_map.1 hcl;exact hlen x,(d'.toList.map raw).flatten,⟨by simp[hrl2,hl2],.inr ⟨b,cap,_,by simp[hl2],UL _,Lt d' hb,by simpa[hl2] using hcap,hm,by simpa[putCells] using hcs,by
    rw[hf2,Us,hl2,← hrl2];exact J1 cur _ (by omega)⟩⟩,Rs hx2⟩ (by simp[Ent.foot,Value.ownBlock])
  exact⟨_,_,_,Z,rfl,⟨rfl,rfl⟩,rfl,hset⟩
open Go Go.Proofs Go.Sort
theorem RG (x:Int)(w:World):Calls Tryz.prog 59 #[.int .i64 x] w λe w'=>e = .returned (.bool false)∧w'=w:=by
 go_enter Tryz.func59,Tryz.ntmps59
 go_wp2
 go_ret
 exact⟨by simp,rfl⟩
theorem RF (x:ByteArray)(w:World):Calls Tryz.prog 60 #[.string x] w λe w'=>e = .returned (.bool false)∧w'=w:=by
 go_enter Tryz.func60,Tryz.ntmps60
 go_wp2
 go_ret
 exact⟨by simp,rfl⟩
def Nv (x y:Int):Int:=if x<y then -1 else if y<x then 1 else 0
set_option maxHeartbeats 1000000 in
theorem Ph (x y:Int)(w:World):Calls Tryz.prog 39 #[.int .i64 x,.int .i64 y] w λe w'=>e = .returned (.int .i64 (Nv x y))∧w'=w:=by
 go_enter Tryz.func39,Tryz.ntmps39
 go_wp2_with (go_at_call 59;refine(RG _ _).mono ?_;rintro e w' ⟨rfl,hw⟩;rw[hw])
 all_goals (go_ret;refine⟨?_,rfl⟩;unfold Nv;(repeat' split)<;>first | rfl | (exfalso;omega))
theorem Ro (t:TypeId)(a b:ByteArray):binOp .gtr t (.string a) (.string b)=pure (.bool !(Op.bytesLess a.toList b.toList||a.toList ==b.toList)):=by simp[binOp,Op.stringOp]
def Nu (x y:List UInt8):Int:=if Op.bytesLess x y=true then -1 else if (Op.bytesLess x y||x ==y)=false then 1 else 0
set_option maxHeartbeats 1000000 in
theorem Pg (x y:ByteArray)(w:World):Calls Tryz.prog 40 #[.string x,.string y] w λe w'=>e = .returned (.int .i64 (Nu x.toList y.toList))∧w'=w:=by
 have hg:=Ro
 go_enter Tryz.func40,Tryz.ntmps40
 go_wp2_with (go_at_call 60;refine(RF _ _).mono ?_;rintro e w' ⟨rfl,hw⟩;rw[hw])
 all_goals (go_ret;refine⟨?_,rfl⟩;unfold Nu;simp_all)
def R4 (p q:Int):Int:=if p=0 then q else p
set_option maxHeartbeats 1000000 in
theorem TG (p q:Int)(b cap:Nat)(w:World)(h0:w.cell? ⟨b,0,none⟩=some (.int .i64 p))(h1:w.cell? ⟨b,1,none⟩=some (.int .i64 q)):Calls Tryz.prog 38 #[.slice (some ⟨b,0,none⟩) 2 cap] w λe w'=>e = .returned (.int .i64 (R4 p q))∧w'=w:=by
 by_cases hp:p=0
 ·have er:R4 p q=q:=by unfold R4;rw[if_pos hp]
  rw[er];have hp':(p !=0)=false:=by simp[hp]
  clear er
  by_cases hq:q=0
  ·have hq':(q !=0)=false:=by simp[hq]
   subst hp;subst hq
   go_enter Tryz.func38,Tryz.ntmps38
   go_wp2
   refine wp_loop_rounds 3 ?_;rw[rounds_succ]
   go_wp2
   rw[rounds_succ]
   go_wp2
   rw[rounds_succ]
   go_wp2
   go_ret
   exact⟨rfl,rfl⟩
  ·have hq':(q !=0)=true:=by simp[hq]
   subst hp
   go_enter Tryz.func38,Tryz.ntmps38
   go_wp2
   refine wp_loop_rounds 3 ?_;rw[rounds_succ]
   go_wp2
   rw[rounds_succ]
   go_wp2
   go_ret
   exact⟨rfl,rfl⟩
 ·have er:R4 p q=p:=by unfold R4;rw[UP hp]
  rw[er];have hp':(p !=0)=true:=by simp[hp]
  clear er hp
  go_enter Tryz.func38,Tryz.ntmps38
  go_wp2
  refine wp_loop_rounds 3 ?_;rw[rounds_succ]
  go_wp2
  go_ret
  exact⟨rfl,rfl⟩
theorem Nb {P:Program}{id:Nat}{Q:Exit→Act→World→Prop}{a:Act}{w:World}{l:List Oper}(n:Nat)(hm:P.follows .mixedOrders=true)(hB:Region.lexTailB .any l.toArray n=true)
  (h:∀w2,w2=World.drew w→wpStill P l.toArray w2 (λa'=>wpList P l.toArray Q (l.drop n) a' w2) (l.take n) a):(Code.region id l.toArray true).wp P Q a w:=wp_region_still_tail n hm hB (h _ rfl)
theorem Gd (w:World)(cs:Array Value)(e:TypeId)(j:Nat):(w.alloc (.cells cs e)).cell? ⟨w.heap.size,j,none⟩=cs[j]?:=by
 have h:(w.alloc (.cells cs e)).heap[w.heap.size]? =some (.cells cs e):=by simpa using heap_alloc_new w _
 unfold World.cell?;simp only[h];rfl
theorem MJ (w:World)(o:Obj)(b j:Nat)(h:b<w.heap.size):(w.alloc o).cell? ⟨b,j,none⟩=w.cell? ⟨b,j,none⟩:=by
 have h1:(w.alloc o).heap[b]? =w.heap[b]?:=by
  show(w.heap.push o)[b]? =_;rw[Array.getElem?_push,UP (Nat.ne_of_lt h)]
 unfold World.cell?;simp only[h1]
theorem HA (w:World)(o:Obj):w.alloc o=grow w #[o]:=by unfold grow World.alloc;simp
set_option maxRecDepth 100000 in
set_option maxHeartbeats 1000000 in
theorem SE (s1 s2:ByteArray)(n1 n2:Int)(a2 a3 a4 b2 b3 b4:Value)(ha2:a2.oneCell'=true)(ha3:a3.oneCell'=true)(ha4:a4.oneCell'=true)(hb2:b2.oneCell'=true)(hb3:b3.oneCell'=true)(hb4:b4.oneCell'=true)(W:World) :
  Calls Tryz.prog 37 #[.agg #[.string s1,.int .i64 n1,a2,a3,a4],.agg #[.string s2,.int .i64 n2,b2,b3,b4]] W λe w'=>e = .returned (.int .i64 (R4 (Nv n1 n2) (Nu s1.toList s2.toList)))∧∃q os',w'=grow (W.drewN q) os':=by
 have hci:=λW=>Ph n1 n2 W;have hcs:=λW=>Pg s1 s2 W;generalize Nv n1 n2=r1 at hci ⊢;generalize Nu s1.toList s2.toList=r2 at hcs ⊢
 go_enter Tryz.func37,Tryz.ntmps37
 go_wp2
 have hm:Tryz.prog.follows .mixedOrders=true:=by kernel_rfl
 refine Nb 10 hm (by kernel_rfl) ?_;intro W2 hW2;have hs1:(W.alloc (.cells #[.string s1,.int .i64 n1,a2,a3,a4] 31)).heap.size=W.heap.size+1:=by simp
 have ha:W2.cell? ⟨W.heap.size,0,none⟩=some (.string s1):=by
  rw[hW2];exact(MJ _ _ _ _ (by rw[hs1];omega)).trans (Gd ..)
 have hb:W2.cell? ⟨W.heap.size,1,none⟩=some (.int .i64 n1):=by
  rw[hW2];exact(MJ _ _ _ _ (by rw[hs1];omega)).trans (Gd ..)
 have c20:W2.cell? ⟨W.heap.size+1,0,none⟩=some (.string s2):=by
  rw[hW2,← hs1];exact Gd ..
 have c21:W2.cell? ⟨W.heap.size+1,1,none⟩=some (.int .i64 n2):=by
  rw[hW2,← hs1];exact Gd ..
 have hg:∃q os',W2=grow (W.drewN q) os':=⟨1,#[.cells #[.string s1,.int .i64 n1,a2,a3,a4] 31,.cells #[.string s2,.int .i64 n2,b2,b3,b4] 31],by
  rw[hW2,HA,HA,grow_grow];rfl⟩
 have hsz:W.heap.size<W2.heap.size:=by
  rw[hW2];simp[World.drew];omega
 clear hW2 hs1;simp only[List.take_succ_cons,List.take_zero,List.drop_succ_cons,List.drop_zero]
 still_step
 still_step
 still_step
 still_step
 still_call (hci _)
 still_step
 still_step
 still_step
 still_step
 still_call (hcs _)
 refine wpStill_nil ?_
 go_wp2_with (go_at_call 38;refine(TG r1 r2 _ _ _ (Gd _ _ _ 0) (Gd _ _ _ 1)).mono ?_;rintro e w' ⟨rfl,rfl⟩)
 go_ret
 obtain⟨q,os',rfl⟩:=hg;exact⟨rfl,q,_,by rw[HA,grow_grow]⟩
end Go.Proofs.YtmmbdclkpijkpaaGreatDoor.Q
namespace Go.Proofs
open Go.Shelf
def Tryz.SoL_ren:Go.Shelf.Ren:=⟨fun | 6=>36 | 15=>58 | 14=>57 | 28=>83 | 29=>84 | 20=>75 | 21=>76 | 22=>77 | 23=>78 | 24=>79 | 25=>80 | 26=>81 | 27=>82 | 46=>106 | 47=>107 | 48=>108 | 49=>109 | 50=>110 | 57=>126 | n=>n,fun | 22=>35 | 24=>31 | 25=>74 | 3=>3 | 39=>98 | 0=>0 | 53=>123 | 55=>125 | 4=>4 | 46=>117 | 45=>116 | 50=>41 | 5=>5 | 9=>9 | 66=>143 | 70=>147 | 76=>165 | 77=>166 | n=>n,fun | n=>n⟩
theorem Tryz.SoL:Go.Proofs.SlLaysF0.n6 Tryz.prog Tryz.SoL_ren:={
 mixed:=by kernel_rfl
 f6:=⟨Tryz.f36.name,by decide,Tryz.func36.trans (congrArg some (by kernel_rfl))⟩
 f14:=⟨Tryz.f57.name,by decide,Tryz.func57.trans (congrArg some (by kernel_rfl))⟩
 f15:=Tryz.func58.trans (congrArg some (by kernel_rfl))
 f20:=⟨Tryz.f75.name,by decide,Tryz.func75.trans (congrArg some (by kernel_rfl))⟩
 f21:=⟨Tryz.f76.name,by decide,Tryz.func76.trans (congrArg some (by kernel_rfl))⟩
 f22:=⟨Tryz.f77.name,by decide,Tryz.func77.trans (congrArg some (by kernel_rfl))⟩
 f23:=⟨Tryz.f78.name,by decide,Tryz.func78.trans (congrArg some (by kernel_rfl))⟩
 f24:=⟨Tryz.f79.name,by decide,Tryz.func79.trans (congrArg some (by kernel_rfl))⟩
 f25:=⟨Tryz.f80.name,by decide,Tryz.func80.trans (congrArg some (by kernel_rfl))⟩
 f26:=⟨Tryz.f81.name,by decide,Tryz.func81.trans (congrArg some (by kernel_rfl))⟩
 f27:=⟨Tryz.f82.name,by decide,Tryz.func82.trans (congrArg some (by kernel_rfl))⟩
 f28:=Tryz.func83.trans (congrArg some (by kernel_rfl))
 f29:=Tryz.func84.trans (congrArg some (by kernel_rfl))
 f46:=⟨Tryz.f106.name,by decide,Tryz.func106.trans (congrArg some (by kernel_rfl))⟩
 f47:=Tryz.func107.trans (congrArg some (by kernel_rfl))
 f48:=Tryz.func108.trans (congrArg some (by kernel_rfl))
 f49:=⟨Tryz.f109.name,by decide,Tryz.func109.trans (congrArg some (by kernel_rfl))⟩
 f50:=⟨Tryz.f110.name,by decide,Tryz.func110.trans (congrArg some (by kernel_rfl))⟩
 f57:=⟨Tryz.f126.name,by decide,Tryz.func126.trans (congrArg some (by kernel_rfl))⟩
 t0:=Tryz.underlying0
 a0:=Tryz.isAgg0
 z0:=Tryz.sizeOf0
 v0:=Tryz.zeroValue0
 t3:=Tryz.underlying3
 a3:=Tryz.isAgg3
 z3:=Tryz.sizeOf3
 v3:=Tryz.zeroValue3
 t4:=Tryz.underlying4
 a4:=Tryz.isAgg4
 z4:=Tryz.sizeOf4
 v4:=Tryz.zeroValue4
 t5:=Tryz.underlying5
 a5:=Tryz.isAgg5
 z5:=Tryz.sizeOf5
 v5:=Tryz.zeroValue5
 t9:=Tryz.underlying9
 a9:=Tryz.isAgg9
 z9:=Tryz.sizeOf9
 v9:=Tryz.zeroValue9
 t22:=Tryz.underlying35
 a22:=Tryz.isAgg35
 z22:=Tryz.sizeOf35
 v22:=Tryz.zeroValue35
 t25:=Tryz.underlying74
 a25:=Tryz.isAgg74
 z25:=Tryz.sizeOf74
 v25:=Tryz.zeroValue74
 t39:=Tryz.underlying98
 a39:=Tryz.isAgg98
 z39:=Tryz.sizeOf98
 v39:=Tryz.zeroValue98
 t45:=Tryz.underlying116
 a45:=Tryz.isAgg116
 z45:=Tryz.sizeOf116
 v45:=Tryz.zeroValue116
 t46:=Tryz.underlying117
 a46:=Tryz.isAgg117
 z46:=Tryz.sizeOf117
 v46:=Tryz.zeroValue117
 t50:=Tryz.underlying41
 a50:=Tryz.isAgg41
 z50:=Tryz.sizeOf41
 v50:=Tryz.zeroValue41
 t53:=Tryz.underlying123
 a53:=Tryz.isAgg123
 z53:=Tryz.sizeOf123
 v53:=Tryz.zeroValue123
 t55:=Tryz.underlying125
 a55:=Tryz.isAgg125
 z55:=Tryz.sizeOf125
 v55:=Tryz.zeroValue125
 t66:=Tryz.underlying143
 a66:=Tryz.isAgg143
 z66:=Tryz.sizeOf143
 v66:=Tryz.zeroValue143
 t70:=Tryz.underlying147
 a70:=Tryz.isAgg147
 z70:=Tryz.sizeOf147
 v70:=Tryz.zeroValue147
 t76:=Tryz.underlying165
 a76:=Tryz.isAgg165
 z76:=Tryz.sizeOf165
 v76:=Tryz.zeroValue165
 t77:=Tryz.underlying166
 a77:=Tryz.isAgg166
 z77:=Tryz.sizeOf166
 v77:=Tryz.zeroValue166 }
end Go.Proofs
namespace Go.Proofs.YtmmbdclkpijkpaaGreatDoor.Q
open Go Go.RowKit Go.Sort Go.Shelf Go.Proofs
set_option linter.unusedVariables false
set_option linter.unusedSimpArgs false
theorem QK (n1 n2:Int)(s1 s2:Ak):decide (R4 (Nv n1 n2) (Nu s1 s2)<0)=CQ n1 n2 s1 s2:=by
 unfold R4 Nv Nu CQ
 by_cases h1:n1<n2
 ·simp[h1]
 ·by_cases h2:n2<n1
  ·have : ¬ n1=n2:=by omega
   simp[h1,h2,this]
  ·have e:n1=n2:=by omega
   cases h3:Op.bytesLess s1 s2 with
   | true=>simp[e,h3]
   | false=>
    by_cases h4:s1=s2
    ·simp[e,h3,h4,h4▸h3]
    ·have h5:(s1 ==s2)=false:=by simp[h4]
     simp[e,h3,h5]
abbrev MO:=Ak×Int × {r:List Value // r.length=3∧∀v∈r,v.oneCell'=true}
instance:Inhabited MO:=⟨([],0,⟨[.bool true,.bool true,.bool true],rfl,λv h=>by simp at h;subst h;rfl⟩)⟩
def Lf (a:MO):List Value:=.string (B a.1)::.int .i64 a.2.1::a.2.2.1
def TA (a b:MO):Int:=R4 (Nv a.2.1 b.2.1) (Nu a.1 b.1)
theorem Lp (a b:MO):ltOf TA a b=CQ a.2.1 b.2.1 a.1 b.1:=QK ..
theorem TF:SWO (ltOf TA) where
 irrefl x:=by rw[Lp];exact KE ..
 trans x y z h1 h2:=by rw[Lp] at *;exact My h1 h2
 ntrans x y z h1 h2:=by rw[Lp] at *;exact Ii h1 h2
theorem Tc (Z:Fz)(x:Ab)(us:List Value)(h:AS Z (Ah x) us):∃r : {r:List Value // r.length=3∧∀v∈r,v.oneCell'=true},us=Lf (x.fID,x.fAt,r):=by
 have hl:=h.length;have h1:=AS.one (DB x) h;obtain⟨v0,v1,v2,v3,v4,rfl⟩:∃v0 v1 v2 v3 v4,us=[v0,v1,v2,v3,v4]:=by
  match us,hl with
  | [v0,v1,v2,v3,v4],_=>exact⟨_,_,_,_,_,rfl⟩
 obtain⟨h5,h6,h7⟩:=h;have e0:v0 = .string (B x.fID):=h5;have e1:v1 = .int .i64 x.fAt:=h6;subst e0;subst e1;exact⟨⟨[v2,v3,v4],rfl,λv hv=>h1 v (by simp at hv ⊢;rcases hv with h | h | h<;>simp[h])⟩,rfl⟩
theorem Jd {Z:Fz}{x:Ab}{a:MO}(h:AS Z (Ah x) (Lf a)):a.1=x.fID∧a.2.1=x.fAt:=by
 obtain⟨h5,h6,h7⟩:=h;have e0:Value.string (B a.1) = .string (B x.fID):=h5;have e1:Value.int .i64 a.2.1 = .int .i64 x.fAt:=h6;exact⟨HN e0,(Value.int.inj e1).2⟩
theorem PO (a:MO):(Lf a).length=5:=by simp[Lf,a.2.2.2.1]
theorem PN (a:MO):∀v∈Lf a,v.oneCell'=true:=λv h=>by
 simp only[Lf,UM] at h;rcases h with rfl | rfl | h
 ·rfl
 ·rfl
 ·exact a.2.2.2.2 v h
theorem TN (a b:MO)(W:World):Calls Tryz.prog 37 #[.agg (Lf a).toArray,.agg (Lf b).toArray] W λe w'=>e = .returned (.int .i64 (TA a b))∧∃q os',w'=grow (W.drewN q) os':=by
 obtain⟨s1,n1,⟨r,hr,ho⟩⟩:=a;obtain⟨s2,n2,⟨t,ht,hp⟩⟩:=b;obtain⟨a2,a3,a4,rfl⟩:∃a2 a3 a4,r=[a2,a3,a4]:=by
  match r,hr with
  | [a2,a3,a4],_=>exact⟨_,_,_,rfl⟩
 obtain⟨b2,b3,b4,rfl⟩:∃a2 a3 a4,t=[a2,a3,a4]:=by
  match t,ht with
  | [a2,a3,a4],_=>exact⟨_,_,_,rfl⟩
 have h:=SE (B s1) (B s2) n1 n2 a2 a3 a4 b2 b3 b4 (ho _ (by simp)) (ho _ (by simp)) (ho _ (by simp)) (hp _ (by simp)) (hp _ (by simp)) (hp _ (by simp)) W;rw[C5,C5] at h;exact h
theorem Rq {v:Value}{e:TypeId}{xs:List Ab}(hd:EO (λx y:Ab=>CQ x.fAt y.fAt x.fID y.fID) xs=true)(hsz:Nat.blt xs.length 4611686018427387904=true) :
  Fn Tryz.prog GE 36 [rv v,rv (.func (.func 37) #[] #[])] [.row v e 5 (xs.map Ah)] (λR H=>R=rv (.tuple #[])∧H=[.row v e 5 ((srt (λx y:Ab=>CQ x.fAt y.fAt x.fID y.fID) xs).map Ah)]):=
 S0 Tryz.SoL Tryz.isAgg31 Tryz.sizeOf31 (λx=>rfl) Lf PO PN TA TF (Np (λx:Ab=>x.fAt) (λx=>x.fID))
  (λZ x us h=>by obtain⟨r,e⟩:=Tc Z x us h;exact⟨_,e⟩)
  (λZ x y a b h1 h2=>by rw[Lp,(Jd h1).1,(Jd h1).2,(Jd h2).1,(Jd h2).2])
  37 (enters_of Tryz.func37 (by kernel_rfl) rfl) TN hd hsz
end Go.Proofs.YtmmbdclkpijkpaaGreatDoor.Q
namespace Go.Proofs
open Go.Shelf
def Tryz.keys29_ren:Go.Shelf.Ren:=⟨fun | 7=>29 | 10=>50 | n=>n,fun | 23=>52 | 26=>9 | 3=>65 | 28=>62 | 0=>0 | 27=>61 | 33=>91 | 4=>4 | n=>n,fun | n=>n⟩
theorem Tryz.keys29:Go.Proofs.SlLaysZ.n7 Tryz.prog Tryz.keys29_ren:={
 mixed:=by kernel_rfl
 f7:=⟨Tryz.f29.name,by decide,Tryz.func29.trans (congrArg some (by kernel_rfl))⟩
 f10:=⟨Tryz.f50.name,by decide,Tryz.func50.trans (congrArg some (by kernel_rfl))⟩
 t0:=Tryz.underlying0
 a0:=Tryz.isAgg0
 z0:=Tryz.sizeOf0
 v0:=Tryz.zeroValue0
 t4:=Tryz.underlying4
 a4:=Tryz.isAgg4
 z4:=Tryz.sizeOf4
 v4:=Tryz.zeroValue4
 t23:=Tryz.underlying52
 a23:=Tryz.isAgg52
 z23:=Tryz.sizeOf52
 v23:=Tryz.zeroValue52
 t26:=Tryz.underlying9
 a26:=Tryz.isAgg9
 z26:=Tryz.sizeOf9
 v26:=Tryz.zeroValue9
 t27:=Tryz.underlying61
 a27:=Tryz.isAgg61
 z27:=Tryz.sizeOf61
 v27:=Tryz.zeroValue61
 t28:=Tryz.underlying62
 a28:=Tryz.isAgg62
 z28:=Tryz.sizeOf62
 v28:=Tryz.zeroValue62
 t33:=Tryz.underlying91
 a33:=Tryz.isAgg91
 z33:=Tryz.sizeOf91
 v33:=Tryz.zeroValue91 }
def Tryz.collect28_ren:Go.Shelf.Ren:=⟨fun | 8=>28 | 11=>49 | n=>n,fun | 26=>9 | 28=>62 | 24=>59 | 0=>0 | 33=>91 | 4=>4 | n=>n,fun | n=>n⟩
theorem Tryz.collect28:Go.Proofs.SlLaysZ.n8 Tryz.prog Tryz.collect28_ren:={
 mixed:=by kernel_rfl
 f8:=⟨Tryz.f28.name,by decide,Tryz.func28.trans (congrArg some (by kernel_rfl))⟩
 f11:=⟨Tryz.f49.name,by decide,Tryz.func49.trans (congrArg some (by kernel_rfl))⟩
 t0:=Tryz.underlying0
 a0:=Tryz.isAgg0
 z0:=Tryz.sizeOf0
 v0:=Tryz.zeroValue0
 t24:=Tryz.underlying59
 a24:=Tryz.isAgg59
 z24:=Tryz.sizeOf59
 v24:=Tryz.zeroValue59
 t26:=Tryz.underlying9
 a26:=Tryz.isAgg9
 z26:=Tryz.sizeOf9
 v26:=Tryz.zeroValue9
 t28:=Tryz.underlying62
 a28:=Tryz.isAgg62
 z28:=Tryz.sizeOf62
 v28:=Tryz.zeroValue62
 i26:=by kernel_rfl }
end Go.Proofs
namespace Go.Proofs.YtmmbdclkpijkpaaGreatDoor.Q
open Go Go.RowKit Go.Maps Go.Sort Go.Shelf Go.Proofs
set_option linter.unusedVariables false
set_option maxHeartbeats 1000000
theorem Nf {Z:Fz}{v:Value}{vs:List Value}(h:AS Z [rv v] vs):vs=[v]:=AS.eq_rv (us:=[v]) h
theorem OU {T:Type}(enc:T→Rp)(xs:List (Ak×T)):(AV enc xs).map (·.1)=xs.map (·.1):=by simp[AV]
theorem No (b:Nat):Fn Tryz.prog GE 29 [rv (.map (some b))] [] (λR H=>∃k:Nat,R=rv (.func (.func 50) #[] #[.pointer (some ⟨k,0,none⟩)])∧H=[.blk k [rv (.map (some b))] 52]):=λw Z vs hv hs=>by
 have e:=Nf hv;subst e;have hc:Calls Tryz.prog 29 #[.map (some b)] w (λe w'=>e = .returned (.func (.func 50) #[] #[.pointer (some ⟨w.heap.size,0,none⟩)])∧w'=w.alloc (.cells #[.map (some b)] 52)):=callsIn_wide.1 (AnyZ.keys_in Tryz.keys29 Fence.wide 5 trivial rfl (some b) w);refine hc.mono ?_;rintro e w' ⟨rfl,rfl⟩;exact⟨_,_,_,Z,rfl,⟨w.heap.size,rfl,rfl⟩,rfl,hs.alloc _ ⟨[.map (some b)],by simpa using heap_alloc_new w _,rfl,trivial⟩ rfl⟩
theorem Lx {T:Type}(enc:T→Rp)(xs:List (Ak×T))(k b:Nat)(hk:keysOk xs=true):Fn Tryz.prog GE 28 [rv (.func (.func 50) #[] #[.pointer (some ⟨k,0,none⟩)])] [.blk k [rv (.map (some b))] 52,.map b (AV enc xs)] (λR H=>∃ (v:Value) (ks:List Ak),R=rv v∧ks.Perm (xs.map (·.1))∧H=[.row v 9 1 (ks.map eS),.blk k [rv (.map (some b))] 52,.map b (AV enc xs)]):=λw Z vs hv hs=>by
 have e:=Nf hv;subst e;obtain⟨us,h1,h2⟩:=hs.ent (i:=0) rfl;have e2:=Nf h2;subst e2;obtain⟨es,ck,h3,h4⟩:=hs.ent (i:=1) rfl;unfold keysOk at hk;simp only[Ui,Ud,U2] at hk;have hlen:(AV enc xs).length=xs.length:=GH enc xs;have hkl:∀p∈AV enc xs,p.1.length≤maxLen:=λp hp=>by
  obtain⟨y,hy,rfl⟩:=List.mem_map.1 hp;have:=hk.2 y hy;have e:maxLen=9223372036854775807:=rfl;rw[e];simpa[QU] using this
 obtain⟨D0,d1,d2,d3⟩:=R2 (k:=9) Tryz.underlying9 h3 h4 hkl (by rw[hlen];have:=hk.1;have e:maxLen=9223372036854775807:=rfl;omega);have hkb:k<w.heap.size:=(Array.getElem?_eq_some_iff.1 h1).1;have hcell:w.cell? ⟨k,0,none⟩=some (.map (some b)):=by simp[World.cell?,h1]
 have hseq:SeqGives Fence.wide 3 Tryz.prog 50 #[.pointer (some ⟨k,0,none⟩)] encStr (λss=>ss.Perm (strKeys D0)) (Maps.size D0) w:=
  AnyZ.keys_gives (ρ:=Tryz.keys29_ren) { Tryz.keys29 with } Fence.wide _ trivial rfl (by omega) k b es.size D0 w hkb hcell d1
 have hc:=AnyZ.collect_in Tryz.collect28 Fence.wide 5 trivial trivial rfl (by omega) 50 #[.pointer (some ⟨k,0,none⟩)] trivial (enters_of Tryz.func50 (by kernel_rfl) rfl) _ (Maps.size D0) (by rw[d3,hlen];have:=hk.1;have e:maxLen=9223372036854775807:=rfl;omega) (by rw[d3,hlen];exact hk.1) w hseq;refine(callsIn_wide.1 hc).mono ?_;rintro e w' ⟨v,ss,rfl,hS,hrow,hnil,hb⟩;have hp:ss.Perm (xs.map (·.1)):=hS.trans (by rw[← OU enc xs];exact d2);exact⟨_,v,_,Z,rfl,⟨v,ss,rfl,hp,rfl⟩,rfl,hs.newrow hb hrow⟩
open Go Go.RowKit
set_option linter.unusedSimpArgs false
set_option maxRecDepth 100000
set_option maxHeartbeats 4000000
@[reducible] def El (x:Aa):List Rp:=[rS x.fTimer.fID,Aq x.fTimer.fAt,rS x.fTimer.fTenant,rS x.fTimer.fSource,AY 4 (AD Ad x.fTimer.fBody),rB x.fTold]
@[reducible] def Ai (x:Aa):Rp:=Bf (El x)
theorem Dw (Z:Fz):(Ai (Aa.mk (Ab.mk ([]:Ak) 0 ([]:Ak) ([]:Ak) ([]:(List Ac))) false)).p Z (.agg #[(.string ⟨#[]⟩),(.int .i64 0),(.string ⟨#[]⟩),(.string ⟨#[]⟩),(.slice none 0 0),(.bool false)]):=⟨[.string ⟨#[]⟩,.int .i64 0,.string ⟨#[]⟩,.string ⟨#[]⟩,.slice none 0 0,.bool false],rfl,rfl,rfl,rfl,rfl,MR.nil _ _,rfl,trivial⟩
theorem Ns:∃inf,Tryz.prog.info? 31=some inf∧inf.zero=some (.agg #[(.string ⟨#[]⟩),(.int .i64 0),(.string ⟨#[]⟩),(.string ⟨#[]⟩),(.slice none 0 0)])∧inf.size=5∧inf.bytes=80:=by
  have key:(Tryz.prog.info? 31).map (λi=>(i.zero,i.size,i.bytes))=some (some (.agg #[(.string ⟨#[]⟩),(.int .i64 0),(.string ⟨#[]⟩),(.string ⟨#[]⟩),(.slice none 0 0)]),5,80):=by kernel_rfl
  obtain⟨inf,h1,h2⟩:=Option.map_eq_some_iff.1 key;simp only[Prod.mk.injEq] at h2;exact⟨inf,h1,h2.1,h2.2.1,h2.2.2⟩
theorem RS (parts:List (Nat×Value)):Tryz.prog.built 54 parts=Instr.fill (λi=>(#[(0,1)]:Array (Nat×Nat))[i]?) #[((.map none))] parts:=by kernel_rfl
theorem Mo {n:Nat}{c:Cx}{l:Fr}{H:List Ent}{d:Option Nat}{ty:TypeId}{pos:String}{af:Array Edge}{g:Option (Nat×Bool)}{x0:Operand}{r0:Rp}(h0:ev l x0=some r0)(u0:r0.one=true):Bc Tryz.prog n c l H { dst:=d,op:=.build 54 #[(0,x0)],type:=ty,pos:=pos,after:=af,guard:=g } (Bf [r0]):=λa w Z ha _=>by
  have p0:=ha.ev h0;have c0:=BI (r0.hone u0 Z _ p0);have hb:Tryz.prog.built 54 [(0,a.eval x0)]=some #[a.eval x0]:=by
    rw[RS];generalize a.eval x0=v0 at *;simp[Instr.fill,c0]
  refine⟨.agg #[a.eval x0],⟨[a.eval x0],rfl,p0,trivial⟩,?_⟩;have:=run_build w 54 #[(0,a.eval x0)] _ (by simpa using hb);simp[execOp,this]
theorem RQ (parts:List (Nat×Value)):Tryz.prog.built 65 parts=Instr.fill (λi=>(#[(0,5),(5,1)]:Array (Nat×Nat))[i]?) #[(.string ⟨#[]⟩),(.int .i64 0),(.string ⟨#[]⟩),(.string ⟨#[]⟩),((.slice none 0 0)),(.bool false)] parts:=by kernel_rfl
theorem Mm {n:Nat}{c:Cx}{l:Fr}{H:List Ent}{d:Option Nat}{ty:TypeId}{pos:String}{af:Array Edge}{g:Option (Nat×Bool)}{x0:Operand}{r0_0 r0_1 r0_2 r0_3 r0_4:Rp}(h0:ev l x0=some (Bf [r0_0,r0_1,r0_2,r0_3,r0_4])):Bc Tryz.prog n c l H { dst:=d,op:=.build 65 #[(0,x0)],type:=ty,pos:=pos,after:=af,guard:=g } (Bf [r0_0,r0_1,r0_2,r0_3,r0_4,rB false]):=λa w Z ha _=>by
  obtain⟨us0,e0,q0⟩:=ha.ev h0;obtain⟨y0_0,y0_1,y0_2,y0_3,y0_4,rfl,q0⟩:=AS.d5 q0;have hb:Tryz.prog.built 65 [(0,a.eval x0)]=some #[y0_0,y0_1,y0_2,y0_3,y0_4,(.bool false)]:=by
    rw[RQ];simp[Instr.fill,e0,Value.cells]
  refine⟨.agg #[y0_0,y0_1,y0_2,y0_3,y0_4,(.bool false)],⟨[y0_0,y0_1,y0_2,y0_3,y0_4,(.bool false)],rfl,q0.1,q0.2.1,q0.2.2.1,q0.2.2.2.1,q0.2.2.2.2.1,rfl,trivial⟩,?_⟩;have:=run_build w 65 #[(0,a.eval x0)] _ (by simpa using hb);simp[execOp,this]
theorem PB  (r:A8)(h:PC=some r):Fn Tryz.prog GE 7 [] [] (λR H=>∃u0:Nat,∃u0_0:Nat,R=rP u0 0∧H=[.blk u0 [rv (.map (some u0_0))] 54,.map u0_0 (AV Ai r.fTimers)]):=by
 refine enter (n:=4) Tryz.func7 rfl Tryz.ntmps7 rfl (λw Z=>?_);unfold PC at h;refine Al (wa rfl (BW (Oo rfl (λb1=>?_))));refine wv (r:=Bf [rv (.map (some b1))]) (Mo rfl rfl) (B3 rfl rfl (λb2=>?_));refine wa rfl (Aw (Az ?_));obtain rfl:=A2 h;exact Ay (Bw Tryz.results7 (AT rfl)) (sC (sC sN)) ⟨b2,b1,rfl,rfl⟩
theorem HL (hb:Nat)(ha:Nat)(q:A8)(r:Bool×A8)(h:Gx q=some r):Fn Tryz.prog GE 27 [rP hb 0] [.blk hb [rv (.map (some ha))] 54,.map ha (AV Ai q.fTimers)] (λR H=>R=rB r.1∧H=[.blk hb [rv (.map (some ha))] 54,.map ha (AV Ai r.2.fTimers)]):=by
 refine enter (n:=12) Tryz.func27 rfl Tryz.ntmps27 rfl (λw Z=>?_);unfold Gx at h;refine Al (wa rfl (Aw (AA [(2,rB true)] [.blk hb [rv (.map (some ha))] 54,.map ha (AV Ai q.fTimers)] ?_ ?_)))
 ·refine An (wm rfl (wv (r:=rB true) (OI ⟨_,So⟩ rfl) (wm rfl (AG (b:=true) rfl rfl rfl (wm rfl (AG (b:=true) rfl rfl rfl (wv (AU rfl) (AG (b:=true) rfl rfl rfl (vF Jr rfl Js (AG (b:=true) rfl rfl rfl (vL 0 Jv rfl (AG (b:=true) rfl rfl rfl (wv (r:=rB true) (OJ (v:=some ha) Kl rfl) (wv (r:=rB true) (Ao (b:=true) rfl rfl rfl) (wa rfl (Am ?_))))))))))))))));exact wt
 refine Az ?_;obtain rfl:=A2 h;exact Ay (Bw Tryz.results27 (AT rfl)) (sC (sC sN)) ⟨rfl,rfl⟩
theorem NA (ha:Nat)(t:Ab)(now:Int)(r:Bool)(h:J5 t now=some r):Fn Tryz.prog GE 31 [Bf (Ah t),rP ha 0] [.blk ha [Aq now] 3] (λR H=>R=rB r∧H=[.blk ha [Aq now] 3]):=by
 refine enter (n:=8) Tryz.func31 rfl Tryz.ntmps31 rfl (λw Z=>?_);unfold J5 at h;refine Al (B3 rfl rfl (λb1=>?_));refine wa rfl (BW (vF BL rfl Cv (vL 0 CC rfl (vL 1 CC rfl (wv (Dl rfl rfl) (wa rfl (Aw (Az ?_))))))));obtain rfl:=A2 h;exact Ay (Bw Tryz.results31 (AT rfl)) (sS (sC sN)) ⟨rfl,rfl⟩
theorem M7 (F:Nat)(ha:Value)(hb:Nat)(ys:(List Ab))(now:Int)(r:Int)(h:Ga F ys now=some r):Fn Tryz.prog GE 51 [rv ha,rv (.func (.func 31) #[] #[(.pointer (some ⟨hb,0,none⟩))])] [.row ha 31 5 (AD Ah ys),.blk hb [Aq now] 3] (λR H=>R=Aq r∧H=[.row ha 31 5 (AD Ah ys),.blk hb [Aq now] 3]):=by
 refine enter (n:=19) Tryz.func51 rfl Tryz.ntmps51 rfl (λw Z=>?_);unfold Ga at h;refine Al (wa rfl (Aw (At (Al (wm rfl (wv (BF (ys:=ys) (enc:=Ah) (i:=0) DZ rfl rfl) (wv (r:=Aq 0) (A3 rfl) (Aw (AJ (ob h λhj hk hh=>Bs (S:=Nat×(Int)×(Unit)) (V:=(Unit)×(Unit)) 0 (λσ=>Cu (λσ=>Cq ys now σ) σ.1 σ.2.1=some hj) (λσ=>[(0,rv ha),(1,rv (.func (.func 31) #[] #[(.pointer (some ⟨hb,0,none⟩))])),(4,Aq 0),(7,Aq (ys.length:Int)),(8,Aq σ.2.1)]) (λσ=>[.row ha 31 5 (AD Ah ys),.blk hb [Aq now] 3]) (λσ=>σ.1) (F,0,()) hk (AF.c5 rfl rfl rfl rfl rfl AF.nil) (sC (sC sN)) (λσ=>Ei =some r) (λσ=>[(4,Aq 0)]) (λσ=>[.row ha 31 5 (AD Ah ys),.blk hb [Aq now] 3]) ?_ ?_))))))))))
 ·rintro⟨h4,hd,⟨⟩⟩ hl;refine Ca (l':=[(0,rv ha),(1,rv (.func (.func 31) #[] #[(.pointer (some ⟨hb,0,none⟩))])),(4,Aq 0),(7,Aq (ys.length:Int)),(8,Aq hd)]) (H':=[.row ha 31 5 (AD Ah ys),.blk hb [Aq now] 3]) rfl rfl ?_;obtain⟨hm,rfl,hn,he,hg⟩:=CJ hl;replace he:Cq ys now hd=some hn:=he;unfold Cq at he;refine Al (wv (C0 rfl rfl) (Aw (At (cz he rfl (λho hp=>?_) (λho hq=>?_)))))
  ·refine A0 (AQ (At (AJ (Al (wm rfl (wa rfl (BW (wm rfl (wm rfl (wm rfl (ck hp λhi hr=>wv (r:=rv (C6 5 ha (Ci hd) 0)) (CF (i:=0) DZ BP rfl rfl rfl (AW hi)) (wv (r:=Bf (Ah (Aj ys hd))) (If (enc:=Ah) (ys:=ys) (i:=0) (j:=hd) EE BP rfl rfl hi rfl rfl) (ob hr λhs ht hu=>N4 (rs:=[Bf (Ah (Aj ys hd))]) (Hin:=[.blk hb [Aq now] 3]) (Hr:=[.row ha 31 5 (AD Ah ys)]) Tryz.call31 rfl rfl ((Ar (i:=1) rfl).trans (Uf _ (Ug _))) (NA hb (Aj ys hd) now hs ht) rfl ?_)))))))))))));rintro _ _ ⟨rfl,rfl⟩;refine Aw (cz hu rfl (λhw hx=>?_) (λhw hy=>?_))
   ·refine Al (wm rfl (wa rfl (Aw (Az (A9 (Af (Af (Bi ?_))))))));have hz:=BC hx hg hh;refine A9 (Af (Cn (H2:=[.row ha 31 5 (AD Ah ys),.blk hb [Aq now] 3]) ((Ar (i:=1) rfl).trans (Uf _ (Ug _))) ?_));obtain rfl:=A2 hz;exact Ay (Bw Tryz.results51 (AT rfl)) (sC (sC sN)) ⟨rfl,rfl⟩
   ·refine A0 (AO (AQ (An (ck hy λh0 h1=>wv (Bt rfl rfl h0) (wm rfl (Am (Cn (H2:=[.row ha 31 5 (AD Ah ys),.blk hb [Aq now] 3]) ((Ar (i:=1) rfl).trans (Uf _ (Ug _))) ?_)))))));have h2:=Be h1 hg;exact A5 (AE (hm,hd+1,()) ⟨h2,Ur _⟩ (AF.c5 rfl rfl rfl rfl rfl AF.nil) (sC (sC sN)))
  ·refine Bu (A4 ?_);have h3:=BY hq hg hh;exact A4 (Bb (AE ((),()) h3 (AF.c rfl AF.nil) (sC (sC sN))))
 ·rintro⟨⟨⟩,⟨⟩⟩ hf;refine C7 (l':=[(4,Aq 0)]) (H':=[.row ha 31 5 (AD Ah ys),.blk hb [Aq now] 3]) rfl rfl ?_;replace hf:Ei =some r:=hf;unfold Ei at hf;refine Ba (AQ (Al (wv (r:=Aq (-1)) (AK rfl) (Aw (Az ?_)))));obtain rfl:=A2 hf;exact Ay (Bw Tryz.results51 (AT rfl)) (sC (sC sN)) ⟨rfl,rfl⟩
theorem Lw (F:Nat)(hd:Value)(he:Nat)(ys:(List Ab))(now:Int)(r:(List Ab))(h:E5 F ys now=some r):Fn Tryz.prog GE 30 [rv hd,rv (.func (.func 31) #[] #[(.pointer (some ⟨he,0,none⟩))])] [.row hd 31 5 (AD Ah ys),.blk he [Aq now] 3] (λR H=>∃u0:Value,R=rv u0∧H=[.row u0 31 5 (AD Ah r),.blk he [Aq now] 3]):=by
 refine enter (n:=42) Tryz.func30 rfl Tryz.ntmps30 rfl (λw Z=>?_);unfold E5 at h;refine Al (wa rfl (BW (wm rfl (wm rfl (ob h λr1 e3 h2=>Gw (Hr:=[]) Tryz.call51 (M7 F hd he ys now r1 e3) rfl (Ug _) rfl ?_)))));rintro _ _ ⟨rfl,rfl⟩;refine wa rfl (Aw (At (Al (wm rfl (wv (Bj rfl rfl) (Aw (cz h2 rfl (λc4 h5=>?_) (λc4 h6=>?_))))))))
 ·refine Al (wm rfl (wa rfl (Aw (Az (Af ?_)))));obtain rfl:=A2 h5;exact Ay (Bw Tryz.results30 (AT rfl)) (sC (sC sN)) ⟨hd,rfl,rfl⟩
 ·refine A0 (AQ (At (Al (wm rfl (ck h6 λg7 h8=>wv (Bt rfl rfl g7) (wa rfl (Aw (AJ (ob h8 λhw hx hy=>Bs (S:=Nat×(Int×Int×(List Ab))×(Unit)) (V:=(Int×(List Ab))×(Unit)) 0 (λσ=>Cu (λσ=>Ce now σ.1 σ.2.1 σ.2.2) σ.1 σ.2.1=some hw) (λσ=>[(0,rv hd),(1,rv (.func (.func 31) #[] #[(.pointer (some ⟨he,0,none⟩))])),(4,rv (.slice none 0 0)),(5,Aq σ.2.1.1),(6,Aq σ.2.1.2.1)]) (λσ=>[.row hd 31 5 (AD Ah σ.2.1.2.2),.blk he [Aq now] 3]) (λσ=>σ.1) (F,(r1,r1+1,ys),()) hx (AF.c5 rfl rfl rfl rfl rfl AF.nil) (sC (sC sN)) (λσ=>Dt σ.1.1 σ.1.2=some r) (λσ=>[(0,rv hd),(4,rv (.slice none 0 0)),(5,Aq σ.1.1)]) (λσ=>[.row hd 31 5 (AD Ah σ.1.2),.blk he [Aq now] 3]) ?_ ?_)))))))))
  ·rintro⟨hU,⟨hf,ha,hb⟩,⟨⟩⟩ hz;refine Ca (l':=[(0,rv hd),(1,rv (.func (.func 31) #[] #[(.pointer (some ⟨he,0,none⟩))])),(4,rv (.slice none 0 0)),(5,Aq hf),(6,Aq ha)]) (H':=[.row hd 31 5 (AD Ah hb),.blk he [Aq now] 3]) rfl rfl ?_;obtain⟨h0,rfl,t145,hj,hp⟩:=CJ hz;replace hj:Ce now hf ha hb=some t145:=hj;unfold Ce at hj;refine At (Al (wm rfl (wm rfl (wv (BF (ys:=hb) (enc:=Ah) (i:=0) DZ rfl rfl) (wv (C0 rfl rfl) (Aw (cz hj rfl (λh1 h3=>?_) (λh1 h4=>?_))))))))
   ·refine A0 (AQ (CV (S:=(Int×Bool×Bool×(List Ab))×(Unit)) (λσ=>Ct ha σ.1.1 σ.1.2.1 σ.1.2.2.1 σ.1.2.2.2=some t145) (λσ=>[(0,rv hd),(1,rv (.func (.func 31) #[] #[(.pointer (some ⟨he,0,none⟩))])),(4,rv (.slice none 0 0)),(5,Aq σ.1.1),(6,Aq ha),(16,Aq ha),(17,rv hd),(18,Aq (hb.length:Int)),(19,rB (decide (ha<(hb.length:Int)))),(22,rv hd),(23,Aq ha),(25,Bf (Ah (Aj hb ha))),(26,rv (.func (.func 31) #[] #[(.pointer (some ⟨he,0,none⟩))])),(27,Bf (Ah (Aj hb ha))),(28,rB σ.1.2.1),(29,rB σ.1.2.2.1)]) (λσ=>[.blk he [Aq now] 3,.row hd 31 5 (AD Ah σ.1.2.2.2)]) ?_ ?_))
    ·refine AJ (Al (wm rfl (wm rfl (ck h3 λhq h7=>wv (r:=rv (C6 5 hd (Ci ha) 0)) (CF (i:=0) DZ BP rfl rfl rfl (AW hq)) (wv (r:=Bf (Ah (Aj hb ha))) (If (enc:=Ah) (ys:=hb) (i:=0) (j:=ha) EE BP rfl rfl hq rfl rfl) (CO (cs:=[rS ([]:Ak),Aq 0,rS ([]:Ak),rS ([]:Ak),rv (.slice none 0 0)]) MT rfl rfl (λhn=>?_)))))));refine BJ (i:=0) BP rfl rfl rfl (BV.c rfl) rfl rfl (cs':=[rS ((Aj hb ha).fID),Aq ((Aj hb ha).fAt),rS ((Aj hb ha).fTenant),rS ((Aj hb ha).fSource),AY 4 (AD Ad ((Aj hb ha).fBody))]) rfl (H':=[.blk hn (Ah (Aj hb ha)) 31,.row hd 31 5 (AD Ah hb),.blk he [Aq now] 3]) rfl (BW (wm rfl (wv (Bo (i:=0) EE BP rfl rfl rfl rfl) (ob h7 λhg h9 hA=>N4 (rs:=[Bf (Ah (Aj hb ha))]) (Hin:=[.blk he [Aq now] 3]) (Hr:=[.blk hn (Ah (Aj hb ha)) 31,.row hd 31 5 (AD Ah hb)]) Tryz.call31 rfl rfl ((Ar (i:=2) rfl).trans (Uf _ (Ug _))) (NA he (Aj hb ha) now hg h9) rfl ?_))));rintro _ _ ⟨rfl,rfl⟩;refine wv (BD rfl) (Aw (cz hA rfl (λhB hC=>?_) (λhB hD=>?_)))
     ·refine Al (wm rfl (wm rfl (wv (Bo (i:=1) EE BP rfl rfl rfl rfl) (ck hC λhr hE=>wv (r:=rv (C6 5 hd (Ci hf) 0)) (CF (i:=2) DZ BP rfl rfl rfl (AW hr)) (Rj (enc:=Ah) (ys:=hb) (y':=(Aj hb ha)) (i:=2) (j:=hf) BP rfl rfl (BV.c rfl) rfl hr rfl rfl rfl (H':=[.blk he [Aq now] 3,.blk hn (Ah (Aj hb ha)) 31,.row hd 31 5 (AD Ah (List.set hb (Ci hf) (Aj hb ha)))]) rfl (bd hE λhG hH hI=>?_))))));rw[← hH];exact Aw (An (wm rfl (ck hI λhJ hK=>wv (Bt rfl rfl hJ) (wa rfl (Am (AO (A5 (AE ((hf+1,hg,!hg,hG),()) hK (AF.c rfl (AF.c5 rfl rfl rfl rfl rfl (AF.c5 rfl rfl rfl rfl rfl (AF.c5 rfl rfl rfl rfl rfl AF.nil)))) (sC (sS (sC sN)))))))))))
     ·exact A0 (AO (A5 (AE ((hf,hg,!hg,hb),()) hD (AF.c rfl (AF.c5 rfl rfl rfl rfl rfl (AF.c5 rfl rfl rfl rfl rfl (AF.c5 rfl rfl rfl rfl rfl AF.nil)))) (sC (sS (sC sN))))))
    ·rintro⟨⟨ho,hs,ht,hk⟩,⟨⟩⟩ hl;refine Ca (l':=[(0,rv hd),(1,rv (.func (.func 31) #[] #[(.pointer (some ⟨he,0,none⟩))])),(4,rv (.slice none 0 0)),(5,Aq ho),(6,Aq ha),(16,Aq ha),(17,rv hd),(18,Aq (hb.length:Int)),(19,rB (decide (ha<(hb.length:Int)))),(22,rv hd),(23,Aq ha),(25,Bf (Ah (Aj hb ha))),(26,rv (.func (.func 31) #[] #[(.pointer (some ⟨he,0,none⟩))])),(27,Bf (Ah (Aj hb ha))),(28,rB hs),(29,rB ht)]) (H':=[.blk he [Aq now] 3,.row hd 31 5 (AD Ah hk)]) rfl rfl ?_;replace hl:Ct ha ho hs ht hk=some t145:=hl;unfold Ct at hl;refine An (wm rfl (ck hl λhL hN=>wv (Bt rfl rfl hL) (wa rfl (Am (Cn (H2:=[.row hd 31 5 (AD Ah hk),.blk he [Aq now] 3]) ((Ar (i:=1) rfl).trans (Uf _ (Ug _))) ?_)))));have hO:=Be hN hp;exact A5 (AE (h0,(ho,ha+1,hk),()) ⟨hO,Ur _⟩ (AF.c5 rfl rfl rfl rfl rfl AF.nil) (sC (sC sN)))
   ·refine Bu (A4 ?_);have hP:=BY h4 hp hy;exact A4 (Bb (AE ((hf,hb),()) hP (AF.c rfl (AF.c rfl (AF.c rfl AF.nil))) (sC (sC sN))))
  ·rintro⟨⟨hh,hi⟩,⟨⟩⟩ hm;refine C7 (l':=[(0,rv hd),(4,rv (.slice none 0 0)),(5,Aq hh)]) (H':=[.row hd 31 5 (AD Ah hi),.blk he [Aq now] 3]) rfl rfl ?_;replace hm:Dt hh hi=some r:=hm;unfold Dt at hm;refine Ba (AQ (Al (wm rfl (wm rfl (ck hm λhu hQ=>wv (r:=rv (J7 5 hd (Ci hh))) (SA (i:=0) DZ BP rfl rfl rfl hu) (KY (ys:=hi) (enc:=Ah) (i:=0) (z0:=Ab.mk ([]:Ak) 0 ([]:Ak) ([]:Ak) ([]:(List Ac))) DZ MT rfl rfl rfl (by decide) (λZ=>⟨rfl,rfl,rfl,rfl,MR.nil _ _,trivial⟩) rfl rfl rfl hu (H':=[.row hd 31 5 (AD Ah (List.take (Ci hh) hi++List.replicate (hi.length-Ci hh) (Ab.mk ([]:Ak) 0 ([]:Ak) ([]:Ak) ([]:(List Ac))))),.blk he [Aq now] 3]) rfl (BW (wm rfl (wm rfl (ck hQ λhR hS=>Sc (i:=0) DZ BP rfl rfl rfl hR rfl (λhT=>?_)))))))))));refine wa rfl (Aw (Az ?_));obtain rfl:=A2 hS;exact Ay (Bw Tryz.results30 (AT rfl)) (sC (sC sN)) ⟨hT,rfl,rfl⟩
theorem La (hb:Nat)(ha:Nat)(q:A8)(r:(List Ab)×A8)(h:J4 q=some r):Fn Tryz.prog GE 14 [rP hb 0] [.blk hb [rv (.map (some ha))] 54,.map ha (AV Ai q.fTimers)] (λR H=>∃u0:Value,R=rv u0∧H=[.row u0 31 5 (AD Ah r.1),.blk hb [rv (.map (some ha))] 54,.map ha (AV Ai r.2.fTimers)]):=by
 refine enter (n:=27) Tryz.func14 rfl Tryz.ntmps14 rfl (λw Z=>?_);unfold J4 at h;refine Al (wa rfl (Aw (At (Al (wm rfl (ob h λr1 e3 h2=>Gw (Hr:=[]) Py (HL hb ha q r1 e3) rfl (Ug _) rfl ?_))))));rintro _ _ ⟨rfl,rfl⟩;refine wv (BD rfl) (Aw (cz h2 rfl (λc4 h5=>?_) (λc4 h6=>?_)))
 ·refine Al (wa rfl (Aw (Az (Af (WK.nilrow (e:=31) (sz:=5) ?_)))));obtain rfl:=A2 h5;exact Ay (Bw Tryz.results14 (AT rfl)) (sC (sC (sC sN))) ⟨(.slice none 0 0                               ),rfl,rfl⟩
 ·refine A0 (AQ (Al (wa rfl (Aw (At (Al (wm rfl (wv (AU rfl) (vF Jr rfl Js (vL 0 Jv rfl (Rf (i:=1) Kl rfl rfl rfl (λb7=>?_))))))))))));refine Aw (AJ (WC.nilrow (e:=31) (sz:=5) (HF (H2:=[.blk hb [rv (.map (some ha))] 54,.mit ha b7 (AV Ai r1.2.fTimers) (AV Ai r1.2.fTimers) none,.row (.slice none 0 0                               ) 31 5 (AD Ah ([]:List Ab))]) ((Ar (i:=1) rfl).trans (Uf _ ((Ar (i:=1) rfl).trans (Uf _ (Ug _))))) ?_)));have hr:=Qv h6;refine Bs (S:=(List (Ak×Aa))×((List Ab))×(Value)) (V:=((List Ab))×(Value)) 0 (λσ=>∀q:List (Ak×Aa),q.Perm σ.1→B0 (NS (λp τ=>Ew p.1 p.2 τ) q σ.2.1) (B9 λν=>Ev r1 ν)=some r) (λσ=>[(2,rv (.slice none 0 0)),(3,rv σ.2.2),(13,rP b7 0)]) (λσ=>[.blk hb [rv (.map (some ha))] 54,.mit ha b7 (AV Ai r1.2.fTimers) (AV Ai σ.1) none,.row σ.2.2 31 5 (AD Ah σ.2.1)]) (λσ=>σ.1.length) (r1.2.fTimers,([]:List Ab),(.slice none 0 0                               )) hr (AF.c rfl (AF.c rfl (AF.c rfl AF.nil))) (sC (sC (sC sN))) (λσ=>Ev r1 σ.1=some r) (λσ=>[(2,rv (.slice none 0 0)),(3,rv σ.2),(13,rP b7 0)]) (λσ=>[.blk hb [rv (.map (some ha))] 54,.map ha (AV Ai r1.2.fTimers),.row σ.2 31 5 (AD Ah σ.1)]) ?_ ?_
  ·rintro⟨hm,hf,hg⟩ hn;refine Ca (l':=[(2,rv (.slice none 0 0)),(3,rv hg),(13,rP b7 0)]) (H':=[.blk hb [rv (.map (some ha))] 54,.mit ha b7 (AV Ai r1.2.fTimers) (AV Ai hm) none,.row hg 31 5 (AD Ah hf)]) rfl rfl (Al (Ss (enc:=Ai) (ys:=hm) (i:=1) rfl rfl rfl (λhy=>?_) (λp hh ho=>?_)))
   ·have hs:Ev r1 hf=some r:=RC hn hy;exact wv (Bp rfl rfl) (Aw (At (DJ rfl rfl (Bu (A4 (WK.unmit (i:=1) rfl (A4 (Bb (AE (hf,hg) hs (AF.c rfl (AF.c rfl (AF.c rfl AF.nil))) (sC (sC (sC sN))))))))))))
   ·obtain⟨hi,hd⟩:=p;obtain⟨ht,hj,hu⟩:=Ti hn ho;replace hj:Ew hi hd hf=some ht:=hj;unfold Ew at hj;refine Sq (H':=[.blk hb [rv (.map (some ha))] 54,.mit ha b7 (AV Ai r1.2.fTimers) (AV Ai hh) (some (hi,Ai hd)),.row hg 31 5 (AD Ah hf)]) rfl (wv (Bp rfl rfl) (Aw (At (EH rfl rfl (A0 (AQ (AJ (Al (wv (r:=Hb [rS hi,Bf (El hd)]) (R8 (i:=1) rfl rfl) (wv (Bp rfl rfl) (CO (cs:=[rS ([]:Ak),Aq 0,rS ([]:Ak),rS ([]:Ak),rv (.slice none 0 0),rB false]) LE rfl rfl (λhp=>?_))))))))))));refine BJ (i:=0) Pw rfl rfl rfl (BV.c rfl) rfl rfl (cs':=[rS hd.fTimer.fID,Aq hd.fTimer.fAt,rS hd.fTimer.fTenant,rS hd.fTimer.fSource,AY 4 (AD Ad hd.fTimer.fBody),rB hd.fTold]) rfl (H':=[.blk hp (El hd) 65,.blk hb [rv (.map (some ha))] 54,.mit ha b7 (AV Ai r1.2.fTimers) (AV Ai hh) (some (hi,Ai hd)),.row hg 31 5 (AD Ah hf)]) rfl (Aw (An (wm rfl (vF Oj rfl BP (wv (Bo (i:=0) EE BP rfl rfl rfl rfl) (ob hj λhe hw hx=>CS Tryz.call35 (P9 hd.fTimer he hw) rfl (Co (ys:=([he]:List Ab)) (enc:=Ah) (css:=[[rS he.fID,Aq he.fAt,rS he.fTenant,rS he.fSource,AY 4 (AD Ad he.fBody)]]) (xs:=[.tmp 21]) DZ BP MT rfl rfl rfl ⟨QR.agg ⟨Up.refl _,Up.refl _,Up.refl _,Up.refl _,Up.refl _,trivial⟩,trivial⟩ rfl C2 rfl rfl rfl (λhz=>?_))))))));refine ck hx λh0 h1=>Exists.elim Ns λinf hinf=>CW (xs:=hf) (ys:=([he]:List Ab)) (enc:=Ah) (i:=4) DZ hinf.1 hinf.2.1 hinf.2.2.1 hinf.2.2.2 rfl rfl rfl rfl rfl (MM.w (i:=0) rfl rfl) C2 DB h0 rfl (λhq=>?_);refine wa rfl (Am (AO (WK.uncur (i:=4) rfl (Cn (H2:=[.blk hb [rv (.map (some ha))] 54,.mit ha b7 (AV Ai r1.2.fTimers) (AV Ai hh) none,.row hq 31 5 (AD Ah (hf++([he]:List Ab))),.row (.slice (some ⟨hz,0,none⟩) 1 1) 31 5 (AD Ah ([he]:List Ab)),.blk hp (El hd) 65]) ((Ar (i:=3) rfl).trans (Uf _ ((Ar (i:=3) rfl).trans (Uf _ (Ug _))))) ?_))));have h3:=OW h1 hu;exact A5 (AE (hh,hf++([he]:List Ab),hq) ⟨h3,R1 ho⟩ (AF.c rfl (AF.c rfl (AF.c rfl AF.nil))) (sC (sC (sC (sS (sS sN))))))
  ·rintro⟨hl,v55⟩ hk;refine C7 (l':=[(2,rv (.slice none 0 0)),(3,rv v55),(13,rP b7 0)]) (H':=[.blk hb [rv (.map (some ha))] 54,.map ha (AV Ai r1.2.fTimers),.row v55 31 5 (AD Ah hl)]) rfl rfl ?_;replace hk:Ev r1 hl=some r:=hk;unfold Ev at hk;refine Ba (AQ (Al (wm rfl (ck hk λh4 h7=>ck h7 λh8 h9=>Ea (rs:=[rv v55,rv (.func (.func 37) #[] #[])]) (Hin:=[.row v55 31 5 (AD Ah hl)]) (Hr:=[.blk hb [rv (.map (some ha))] 54,.map ha (AV Ai r1.2.fTimers)]) Tryz.call36 rfl ((Ar (i:=2) rfl).trans (Uf _ (Ug _))) (Rq h4 h8) rfl ?_))));rintro _ _ ⟨rfl,rfl⟩;refine BW (wm rfl (wa rfl (Aw (Az ?_))));obtain rfl:=A2 h9;exact Ay (Bw Tryz.results14 (AT rfl)) (sC (sC (sC sN))) ⟨v55,rfl,rfl⟩
theorem MW (F:Nat)(hf:Nat)(he:Nat)(q:A8)(now:Int)(r:(List Ab)×A8)(h:MX F q now=some r):Fn Tryz.prog GE 10 [rP hf 0,Aq now] [.blk hf [rv (.map (some he))] 54,.map he (AV Ai q.fTimers)] (λR H=>∃u0:Value,R=rv u0∧H=[.row u0 31 5 (AD Ah r.1),.blk hf [rv (.map (some he))] 54,.map he (AV Ai r.2.fTimers)]):=by
 refine enter (n:=49) Tryz.func10 rfl Tryz.ntmps10 rfl (λw Z=>?_);unfold MX at h;refine Al (Sd rfl (CI rfl) rfl (λb1=>?_));refine wa rfl (Aw (At (Al (wm rfl (ob h λr2 e4 h3=>Gw (Hr:=[.blk b1 [Aq now] 3]) Py (HL hf he q r2 e4) rfl ((Ar (i:=1) rfl).trans (Uf _ ((Ar (i:=1) rfl).trans (Uf _ (Ug _))))) rfl ?_)))));rintro _ _ ⟨rfl,rfl⟩;refine wv (BD rfl) (Aw (cz h3 rfl (λc5 h6=>?_) (λc5 h7=>?_)))
 ·refine Al (wa rfl (Aw (Az (Af (WK.nilrow (e:=31) (sz:=5) ?_)))));obtain rfl:=A2 h6;exact Ay (Bw Tryz.results10 (AT rfl)) (sC (sC (sC (sS sN)))) ⟨(.slice none 0 0                               ),rfl,rfl⟩
 ·refine A0 (AQ (At (Al (wm rfl (wv (AU rfl) (vF Jr rfl Js (vL 0 Jv rfl (Ea (rs:=[rv (.map (some he))]) (Hin:=[]) (Hr:=[.blk hf [rv (.map (some he))] 54,.map he (AV Ai r2.2.fTimers),.blk b1 [Aq now] 3]) Tryz.call29 rfl (Ug _) (No he) rfl ?_))))))));rintro _ _ ⟨b8,rfl,rfl⟩;refine ck h7 λg9 hp=>Ea (rs:=[rv (.func (.func 50) #[] #[(.pointer (some ⟨b8,0,none⟩))])]) (Hin:=[.blk b8 [rv (.map (some he))] 52,.map he (AV Ai r2.2.fTimers)]) (Hr:=[.blk hf [rv (.map (some he))] 54,.blk b1 [Aq now] 3]) Tryz.call28 rfl ((Ar (i:=0) rfl).trans (Uf _ ((Ar (i:=1) rfl).trans (Uf _ (Ug _))))) (Lx Ai r2.2.fTimers b8 he g9) rfl ?_;rintro _ _ ⟨hh,ha,rfl,hq,rfl⟩;have hr:=Qv hp ha hq;refine wv (BF (ys:=ha) (enc:=eS) (i:=0) Tryz.underlying59 rfl rfl) (wv (r:=Aq 0) (A3 rfl) (Aw (AJ (ob hr λhs ht hu=>Bs (S:=Nat×(Int×(List (Ak×Aa)))×(Unit)) (V:=((List (Ak×Aa)))×(Unit)) 0 (λσ=>Cu (λσ=>E7 now ha σ.1 σ.2) σ.1 σ.2.1=some hs) (λσ=>[(0,rP hf 0),(3,rP b1 0),(16,rv hh),(17,Aq (ha.length:Int)),(18,Aq σ.2.1.1)]) (λσ=>[.row hh 9 1 (AD eS ha),.map he (AV Ai σ.2.1.2),.blk hf [rv (.map (some he))] 54,.blk b1 [Aq now] 3]) (λσ=>σ.1) (F,(0,r2.2.fTimers),()) ht (AF.c5 rfl rfl rfl rfl rfl AF.nil) (sC (sS (sC (sC (sC sN))))) (λσ=>HM F now σ.1=some r) (λσ=>[(0,rP hf 0),(3,rP b1 0)]) (λσ=>[.map he (AV Ai σ.1),.blk hf [rv (.map (some he))] 54,.blk b1 [Aq now] 3]) ?_ ?_))))
  ·rintro⟨hI,⟨hd,hb⟩,⟨⟩⟩ hw;refine Ca (l':=[(0,rP hf 0),(3,rP b1 0),(16,rv hh),(17,Aq (ha.length:Int)),(18,Aq hd)]) (H':=[.row hh 9 1 (AD eS ha),.map he (AV Ai hb),.blk hf [rv (.map (some he))] 54,.blk b1 [Aq now] 3]) rfl rfl ?_;obtain⟨hx,rfl,hy,hj,hn⟩:=CJ hw;replace hj:E7 now ha hd hb=some hy:=hj;unfold E7 at hj;refine Al (wv (C0 rfl rfl) (Aw (At (cz hj rfl (λhz h0=>?_) (λhz h1=>?_)))))
   ·refine A0 (AQ (At (AJ (Al (ck h0 λho h2=>wv (r:=rv (C6 1 hh (Ci hd) 0)) (CF (i:=0) Tryz.underlying59 D5 rfl rfl rfl (AW ho)) (wv (r:=rS (Aj ha hd)) (Dq (enc:=eS) (ys:=ha) (i:=0) (j:=hd) DF rfl rfl ho rfl) (wa rfl (BW (wm rfl (wv (AU rfl) (vF Jr rfl Js (vL 2 Jv rfl (wm rfl (wv (r:=Bf [rS (((AN hb (Aj ha hd) (Aa.mk (Ab.mk ([]:Ak) 0 ([]:Ak) ([]:Ak) ([]:(List Ac))) false)).fTimer).fID),Aq (((AN hb (Aj ha hd) (Aa.mk (Ab.mk ([]:Ak) 0 ([]:Ak) ([]:Ak) ([]:(List Ac))) false)).fTimer).fAt),rS (((AN hb (Aj ha hd) (Aa.mk (Ab.mk ([]:Ak) 0 ([]:Ak) ([]:Ak) ([]:(List Ac))) false)).fTimer).fTenant),rS (((AN hb (Aj ha hd) (Aa.mk (Ab.mk ([]:Ak) 0 ([]:Ak) ([]:Ak) ([]:(List Ac))) false)).fTimer).fSource),AY 4 (AD Ad (((AN hb (Aj ha hd) (Aa.mk (Ab.mk ([]:Ak) 0 ([]:Ak) ([]:Ak) ([]:(List Ac))) false)).fTimer).fBody)),rB ((AN hb (Aj ha hd) (Aa.mk (Ab.mk ([]:Ak) 0 ([]:Ak) ([]:Ak) ([]:(List Ac))) false)).fTold)]) (Qn (enc:=Ai) (xs:=hb) (z:=Aa.mk (Ab.mk ([]:Ak) 0 ([]:Ak) ([]:Ak) ([]:(List Ac))) false) (i:=1) Kl Es LE Dw rfl rfl rfl) (CO (cs:=[rS ([]:Ak),Aq 0,rS ([]:Ak),rS ([]:Ak),rv (.slice none 0 0),rB false]) LE rfl rfl (λhi=>?_))))))))))))))));refine BJ (i:=0) Pw rfl rfl rfl (BV.c rfl) rfl rfl (cs':=[rS (((AN hb (Aj ha hd) (Aa.mk (Ab.mk ([]:Ak) 0 ([]:Ak) ([]:Ak) ([]:(List Ac))) false)).fTimer).fID),Aq (((AN hb (Aj ha hd) (Aa.mk (Ab.mk ([]:Ak) 0 ([]:Ak) ([]:Ak) ([]:(List Ac))) false)).fTimer).fAt),rS (((AN hb (Aj ha hd) (Aa.mk (Ab.mk ([]:Ak) 0 ([]:Ak) ([]:Ak) ([]:(List Ac))) false)).fTimer).fTenant),rS (((AN hb (Aj ha hd) (Aa.mk (Ab.mk ([]:Ak) 0 ([]:Ak) ([]:Ak) ([]:(List Ac))) false)).fTimer).fSource),AY 4 (AD Ad (((AN hb (Aj ha hd) (Aa.mk (Ab.mk ([]:Ak) 0 ([]:Ak) ([]:Ak) ([]:(List Ac))) false)).fTimer).fBody)),rB ((AN hb (Aj ha hd) (Aa.mk (Ab.mk ([]:Ak) 0 ([]:Ak) ([]:Ak) ([]:(List Ac))) false)).fTold)]) rfl (H':=[.blk hi [rS (((AN hb (Aj ha hd) (Aa.mk (Ab.mk ([]:Ak) 0 ([]:Ak) ([]:Ak) ([]:(List Ac))) false)).fTimer).fID),Aq (((AN hb (Aj ha hd) (Aa.mk (Ab.mk ([]:Ak) 0 ([]:Ak) ([]:Ak) ([]:(List Ac))) false)).fTimer).fAt),rS (((AN hb (Aj ha hd) (Aa.mk (Ab.mk ([]:Ak) 0 ([]:Ak) ([]:Ak) ([]:(List Ac))) false)).fTimer).fTenant),rS (((AN hb (Aj ha hd) (Aa.mk (Ab.mk ([]:Ak) 0 ([]:Ak) ([]:Ak) ([]:(List Ac))) false)).fTimer).fSource),AY 4 (AD Ad (((AN hb (Aj ha hd) (Aa.mk (Ab.mk ([]:Ak) 0 ([]:Ak) ([]:Ak) ([]:(List Ac))) false)).fTimer).fBody)),rB ((AN hb (Aj ha hd) (Aa.mk (Ab.mk ([]:Ak) 0 ([]:Ak) ([]:Ak) ([]:(List Ac))) false)).fTold)] 65,.row hh 9 1 (AD eS ha),.map he (AV Ai hb),.blk hf [rv (.map (some he))] 54,.blk b1 [Aq now] 3]) rfl (Aw (AA [(0,rP hf 0),(3,rP b1 0),(6,rS (Aj ha hd)),(7,rP hi 0),(16,rv hh),(17,Aq (ha.length:Int)),(18,Aq hd)] [.blk hi [rS (((AN hb (Aj ha hd) (Aa.mk (Ab.mk ([]:Ak) 0 ([]:Ak) ([]:Ak) ([]:(List Ac))) false)).fTimer).fID),Aq (((AN hb (Aj ha hd) (Aa.mk (Ab.mk ([]:Ak) 0 ([]:Ak) ([]:Ak) ([]:(List Ac))) false)).fTimer).fAt),rS (((AN hb (Aj ha hd) (Aa.mk (Ab.mk ([]:Ak) 0 ([]:Ak) ([]:Ak) ([]:(List Ac))) false)).fTimer).fTenant),rS (((AN hb (Aj ha hd) (Aa.mk (Ab.mk ([]:Ak) 0 ([]:Ak) ([]:Ak) ([]:(List Ac))) false)).fTimer).fSource),AY 4 (AD Ad (((AN hb (Aj ha hd) (Aa.mk (Ab.mk ([]:Ak) 0 ([]:Ak) ([]:Ak) ([]:(List Ac))) false)).fTimer).fBody)),rB (((AN hb (Aj ha hd) (Aa.mk (Ab.mk ([]:Ak) 0 ([]:Ak) ([]:Ak) ([]:(List Ac))) false)).fTold)||(decide ((((AN hb (Aj ha hd) (Aa.mk (Ab.mk ([]:Ak) 0 ([]:Ak) ([]:Ak) ([]:(List Ac))) false)).fTimer).fAt)≤now)))] 65,.row hh 9 1 (AD eS ha),.map he (AV Ai hb),.blk hf [rv (.map (some he))] 54,.blk b1 [Aq now] 3] ?_ ?_))
    ·refine An (vF Oj rfl ED (vL 0 L9 rfl (wm rfl (AH ((AN hb (Aj ha hd) (Aa.mk (Ab.mk ([]:Ak) 0 ([]:Ak) ([]:Ak) ([]:(List Ac))) false)).fTold) (λhg=>?_) (λhg=>?_)))))
     ·refine wf hg (wf hg (wf hg (wf hg (wf hg (wv (r:=rB true) (Ao rfl hg rfl) (vF Oj rfl ED (CP (i:=0) ED rfl rfl (CI rfl) rfl rfl (cs':=[rS (((AN hb (Aj ha hd) (Aa.mk (Ab.mk ([]:Ak) 0 ([]:Ak) ([]:Ak) ([]:(List Ac))) false)).fTimer).fID),Aq (((AN hb (Aj ha hd) (Aa.mk (Ab.mk ([]:Ak) 0 ([]:Ak) ([]:Ak) ([]:(List Ac))) false)).fTimer).fAt),rS (((AN hb (Aj ha hd) (Aa.mk (Ab.mk ([]:Ak) 0 ([]:Ak) ([]:Ak) ([]:(List Ac))) false)).fTimer).fTenant),rS (((AN hb (Aj ha hd) (Aa.mk (Ab.mk ([]:Ak) 0 ([]:Ak) ([]:Ak) ([]:(List Ac))) false)).fTimer).fSource),AY 4 (AD Ad (((AN hb (Aj ha hd) (Aa.mk (Ab.mk ([]:Ak) 0 ([]:Ak) ([]:Ak) ([]:(List Ac))) false)).fTimer).fBody)),rB true]) rfl (H':=[.blk hi [rS (((AN hb (Aj ha hd) (Aa.mk (Ab.mk ([]:Ak) 0 ([]:Ak) ([]:Ak) ([]:(List Ac))) false)).fTimer).fID),Aq (((AN hb (Aj ha hd) (Aa.mk (Ab.mk ([]:Ak) 0 ([]:Ak) ([]:Ak) ([]:(List Ac))) false)).fTimer).fAt),rS (((AN hb (Aj ha hd) (Aa.mk (Ab.mk ([]:Ak) 0 ([]:Ak) ([]:Ak) ([]:(List Ac))) false)).fTimer).fTenant),rS (((AN hb (Aj ha hd) (Aa.mk (Ab.mk ([]:Ak) 0 ([]:Ak) ([]:Ak) ([]:(List Ac))) false)).fTimer).fSource),AY 4 (AD Ad (((AN hb (Aj ha hd) (Aa.mk (Ab.mk ([]:Ak) 0 ([]:Ak) ([]:Ak) ([]:(List Ac))) false)).fTimer).fBody)),rB true] 65,.row hh 9 1 (AD eS ha),.map he (AV Ai hb),.blk hf [rv (.map (some he))] 54,.blk b1 [Aq now] 3]) rfl (Am (Gh (H':=[.blk hi [rS (((AN hb (Aj ha hd) (Aa.mk (Ab.mk ([]:Ak) 0 ([]:Ak) ([]:Ak) ([]:(List Ac))) false)).fTimer).fID),Aq (((AN hb (Aj ha hd) (Aa.mk (Ab.mk ([]:Ak) 0 ([]:Ak) ([]:Ak) ([]:(List Ac))) false)).fTimer).fAt),rS (((AN hb (Aj ha hd) (Aa.mk (Ab.mk ([]:Ak) 0 ([]:Ak) ([]:Ak) ([]:(List Ac))) false)).fTimer).fTenant),rS (((AN hb (Aj ha hd) (Aa.mk (Ab.mk ([]:Ak) 0 ([]:Ak) ([]:Ak) ([]:(List Ac))) false)).fTimer).fSource),AY 4 (AD Ad (((AN hb (Aj ha hd) (Aa.mk (Ab.mk ([]:Ak) 0 ([]:Ak) ([]:Ak) ([]:(List Ac))) false)).fTimer).fBody)),rB (((AN hb (Aj ha hd) (Aa.mk (Ab.mk ([]:Ak) 0 ([]:Ak) ([]:Ak) ([]:(List Ac))) false)).fTold)||(decide ((((AN hb (Aj ha hd) (Aa.mk (Ab.mk ([]:Ak) 0 ([]:Ak) ([]:Ak) ([]:(List Ac))) false)).fTimer).fAt)≤now)))] 65,.row hh 9 1 (AD eS ha),.map he (AV Ai hb),.blk hf [rv (.map (some he))] 54,.blk b1 [Aq now] 3]) (by simp only[hg,Uz,U8,UI,U0,UA,U9,UF,UG,Uu,UD,Ut,Un]) ?_)))))))));exact wt
     ·refine wo hg (vF Oj rfl BP (wo hg (vF BL rfl Cv (wo hg (vL 0 CC rfl (wo hg (vL 4 CC rfl (wo hg (wv (Ie rfl rfl) (DT rfl hg rfl (vF Oj rfl ED (CP (i:=0) ED rfl rfl (CI rfl) rfl rfl (cs':=[rS (((AN hb (Aj ha hd) (Aa.mk (Ab.mk ([]:Ak) 0 ([]:Ak) ([]:Ak) ([]:(List Ac))) false)).fTimer).fID),Aq (((AN hb (Aj ha hd) (Aa.mk (Ab.mk ([]:Ak) 0 ([]:Ak) ([]:Ak) ([]:(List Ac))) false)).fTimer).fAt),rS (((AN hb (Aj ha hd) (Aa.mk (Ab.mk ([]:Ak) 0 ([]:Ak) ([]:Ak) ([]:(List Ac))) false)).fTimer).fTenant),rS (((AN hb (Aj ha hd) (Aa.mk (Ab.mk ([]:Ak) 0 ([]:Ak) ([]:Ak) ([]:(List Ac))) false)).fTimer).fSource),AY 4 (AD Ad (((AN hb (Aj ha hd) (Aa.mk (Ab.mk ([]:Ak) 0 ([]:Ak) ([]:Ak) ([]:(List Ac))) false)).fTimer).fBody)),rB (decide ((((AN hb (Aj ha hd) (Aa.mk (Ab.mk ([]:Ak) 0 ([]:Ak) ([]:Ak) ([]:(List Ac))) false)).fTimer).fAt)≤now))]) rfl (H':=[.blk hi [rS (((AN hb (Aj ha hd) (Aa.mk (Ab.mk ([]:Ak) 0 ([]:Ak) ([]:Ak) ([]:(List Ac))) false)).fTimer).fID),Aq (((AN hb (Aj ha hd) (Aa.mk (Ab.mk ([]:Ak) 0 ([]:Ak) ([]:Ak) ([]:(List Ac))) false)).fTimer).fAt),rS (((AN hb (Aj ha hd) (Aa.mk (Ab.mk ([]:Ak) 0 ([]:Ak) ([]:Ak) ([]:(List Ac))) false)).fTimer).fTenant),rS (((AN hb (Aj ha hd) (Aa.mk (Ab.mk ([]:Ak) 0 ([]:Ak) ([]:Ak) ([]:(List Ac))) false)).fTimer).fSource),AY 4 (AD Ad (((AN hb (Aj ha hd) (Aa.mk (Ab.mk ([]:Ak) 0 ([]:Ak) ([]:Ak) ([]:(List Ac))) false)).fTimer).fBody)),rB (decide ((((AN hb (Aj ha hd) (Aa.mk (Ab.mk ([]:Ak) 0 ([]:Ak) ([]:Ak) ([]:(List Ac))) false)).fTimer).fAt)≤now))] 65,.row hh 9 1 (AD eS ha),.map he (AV Ai hb),.blk hf [rv (.map (some he))] 54,.blk b1 [Aq now] 3]) rfl (Am (Gh (H':=[.blk hi [rS (((AN hb (Aj ha hd) (Aa.mk (Ab.mk ([]:Ak) 0 ([]:Ak) ([]:Ak) ([]:(List Ac))) false)).fTimer).fID),Aq (((AN hb (Aj ha hd) (Aa.mk (Ab.mk ([]:Ak) 0 ([]:Ak) ([]:Ak) ([]:(List Ac))) false)).fTimer).fAt),rS (((AN hb (Aj ha hd) (Aa.mk (Ab.mk ([]:Ak) 0 ([]:Ak) ([]:Ak) ([]:(List Ac))) false)).fTimer).fTenant),rS (((AN hb (Aj ha hd) (Aa.mk (Ab.mk ([]:Ak) 0 ([]:Ak) ([]:Ak) ([]:(List Ac))) false)).fTimer).fSource),AY 4 (AD Ad (((AN hb (Aj ha hd) (Aa.mk (Ab.mk ([]:Ak) 0 ([]:Ak) ([]:Ak) ([]:(List Ac))) false)).fTimer).fBody)),rB (((AN hb (Aj ha hd) (Aa.mk (Ab.mk ([]:Ak) 0 ([]:Ak) ([]:Ak) ([]:(List Ac))) false)).fTold)||(decide ((((AN hb (Aj ha hd) (Aa.mk (Ab.mk ([]:Ak) 0 ([]:Ak) ([]:Ak) ([]:(List Ac))) false)).fTimer).fAt)≤now)))] 65,.row hh 9 1 (AD eS ha),.map he (AV Ai hb),.blk hf [rv (.map (some he))] 54,.blk b1 [Aq now] 3]) (by simp only[hg,Uz,U8,UI,U0,UA,U9,UF,UG,Uu,UD,Ut,Un]) ?_))))))))))))));exact wt
    refine IY 6 [0,3,6,7,16,17,18] [⟨[],rP hf 0,none,none,none⟩,⟨[0],rP hf 0,none,none,none⟩,⟨[1],rP hf 0,none,none,none⟩,⟨[2],rv (.map (some he)),none,none,none⟩,⟨[],rS (Aj ha hd),none,none,none⟩,⟨[],Bf [rS (((AN hb (Aj ha hd) (Aa.mk (Ab.mk ([]:Ak) 0 ([]:Ak) ([]:Ak) ([]:(List Ac))) false)).fTimer).fID),Aq (((AN hb (Aj ha hd) (Aa.mk (Ab.mk ([]:Ak) 0 ([]:Ak) ([]:Ak) ([]:(List Ac))) false)).fTimer).fAt),rS (((AN hb (Aj ha hd) (Aa.mk (Ab.mk ([]:Ak) 0 ([]:Ak) ([]:Ak) ([]:(List Ac))) false)).fTimer).fTenant),rS (((AN hb (Aj ha hd) (Aa.mk (Ab.mk ([]:Ak) 0 ([]:Ak) ([]:Ak) ([]:(List Ac))) false)).fTimer).fSource),AY 4 (AD Ad (((AN hb (Aj ha hd) (Aa.mk (Ab.mk ([]:Ak) 0 ([]:Ak) ([]:Ak) ([]:(List Ac))) false)).fTimer).fBody)),rB (((AN hb (Aj ha hd) (Aa.mk (Ab.mk ([]:Ak) 0 ([]:Ak) ([]:Ak) ([]:(List Ac))) false)).fTold)||(decide ((((AN hb (Aj ha hd) (Aa.mk (Ab.mk ([]:Ak) 0 ([]:Ak) ([]:Ak) ([]:(List Ac))) false)).fTimer).fAt)≤now)))],none,none,none⟩] ?_ (λβ=>?_)
    ·refine Ji (A3 rfl) (Ji (AU rfl) (Ji (Bg Jr rfl Js rfl rfl) (Sf (CE (i:=3) Jv rfl rfl rfl) (Ji (A3 rfl) (Sf (Bo (i:=0) Tryz.isAgg65 Pw rfl rfl rfl rfl) ?_)))));exact T9
    refine G8 (H1:=[.blk hi [rS (((AN hb (Aj ha hd) (Aa.mk (Ab.mk ([]:Ak) 0 ([]:Ak) ([]:Ak) ([]:(List Ac))) false)).fTimer).fID),Aq (((AN hb (Aj ha hd) (Aa.mk (Ab.mk ([]:Ak) 0 ([]:Ak) ([]:Ak) ([]:(List Ac))) false)).fTimer).fAt),rS (((AN hb (Aj ha hd) (Aa.mk (Ab.mk ([]:Ak) 0 ([]:Ak) ([]:Ak) ([]:(List Ac))) false)).fTimer).fTenant),rS (((AN hb (Aj ha hd) (Aa.mk (Ab.mk ([]:Ak) 0 ([]:Ak) ([]:Ak) ([]:(List Ac))) false)).fTimer).fSource),AY 4 (AD Ad (((AN hb (Aj ha hd) (Aa.mk (Ab.mk ([]:Ak) 0 ([]:Ak) ([]:Ak) ([]:(List Ac))) false)).fTimer).fBody)),rB (((AN hb (Aj ha hd) (Aa.mk (Ab.mk ([]:Ak) 0 ([]:Ak) ([]:Ak) ([]:(List Ac))) false)).fTold)||(decide ((((AN hb (Aj ha hd) (Aa.mk (Ab.mk ([]:Ak) 0 ([]:Ak) ([]:Ak) ([]:(List Ac))) false)).fTimer).fAt)≤now)))] 65,.row hh 9 1 (AD eS ha),.map he (AV Ai hb),.blk hf [rv (.map (some he))] 54,.blk b1 [Aq now] 3]) [38,39,40,41,42,43,0,3,6,7,16,17,18] ?_;refine N5 (enc:=Ai) (xs:=hb) (v:=(Aa.mk ((AN hb (Aj ha hd) (Aa.mk (Ab.mk ([]:Ak) 0 ([]:Ak) ([]:Ak) ([]:(List Ac))) false)).fTimer) (((AN hb (Aj ha hd) (Aa.mk (Ab.mk ([]:Ak) 0 ([]:Ak) ([]:Ak) ([]:(List Ac))) false)).fTold)||(decide ((((AN hb (Aj ha hd) (Aa.mk (Ab.mk ([]:Ak) 0 ([]:Ak) ([]:Ak) ([]:(List Ac))) false)).fTimer).fAt)≤now))))) (i:=2) Kl Es rfl rfl rfl rfl (H':=[.blk hi [rS (((AN hb (Aj ha hd) (Aa.mk (Ab.mk ([]:Ak) 0 ([]:Ak) ([]:Ak) ([]:(List Ac))) false)).fTimer).fID),Aq (((AN hb (Aj ha hd) (Aa.mk (Ab.mk ([]:Ak) 0 ([]:Ak) ([]:Ak) ([]:(List Ac))) false)).fTimer).fAt),rS (((AN hb (Aj ha hd) (Aa.mk (Ab.mk ([]:Ak) 0 ([]:Ak) ([]:Ak) ([]:(List Ac))) false)).fTimer).fTenant),rS (((AN hb (Aj ha hd) (Aa.mk (Ab.mk ([]:Ak) 0 ([]:Ak) ([]:Ak) ([]:(List Ac))) false)).fTimer).fSource),AY 4 (AD Ad (((AN hb (Aj ha hd) (Aa.mk (Ab.mk ([]:Ak) 0 ([]:Ak) ([]:Ak) ([]:(List Ac))) false)).fTimer).fBody)),rB (((AN hb (Aj ha hd) (Aa.mk (Ab.mk ([]:Ak) 0 ([]:Ak) ([]:Ak) ([]:(List Ac))) false)).fTold)||(decide ((((AN hb (Aj ha hd) (Aa.mk (Ab.mk ([]:Ak) 0 ([]:Ak) ([]:Ak) ([]:(List Ac))) false)).fTimer).fAt)≤now)))] 65,.row hh 9 1 (AD eS ha),.map he (AV Ai (mset hb (Aj ha hd) (Aa.mk ((AN hb (Aj ha hd) (Aa.mk (Ab.mk ([]:Ak) 0 ([]:Ak) ([]:Ak) ([]:(List Ac))) false)).fTimer) (((AN hb (Aj ha hd) (Aa.mk (Ab.mk ([]:Ak) 0 ([]:Ak) ([]:Ak) ([]:(List Ac))) false)).fTold)||(decide ((((AN hb (Aj ha hd) (Aa.mk (Ab.mk ([]:Ak) 0 ([]:Ak) ([]:Ak) ([]:(List Ac))) false)).fTimer).fAt)≤now)))))),.blk hf [rv (.map (some he))] 54,.blk b1 [Aq now] 3]) rfl (Am (AO (AQ (An (ck h2 λh4 h5=>wv (Bt rfl rfl h4) (wm rfl (Am ?_)))))));have h8:=Be h5 hn;exact A5 (AE (hx,(hd+1,mset hb (Aj ha hd) (Aa.mk ((AN hb (Aj ha hd) (Aa.mk (Ab.mk ([]:Ak) 0 ([]:Ak) ([]:Ak) ([]:(List Ac))) false)).fTimer) (((AN hb (Aj ha hd) (Aa.mk (Ab.mk ([]:Ak) 0 ([]:Ak) ([]:Ak) ([]:(List Ac))) false)).fTold)||(decide ((((AN hb (Aj ha hd) (Aa.mk (Ab.mk ([]:Ak) 0 ([]:Ak) ([]:Ak) ([]:(List Ac))) false)).fTimer).fAt)≤now))))),()) ⟨h8,Ur _⟩ (AF.c5 rfl rfl rfl rfl rfl AF.nil) (sS (sC (sC (sC (sC sN))))))
   ·refine Bu (A4 ?_);have h9:=BY h1 hn hu;exact A4 (Bb (AE (hb,()) h9 (AF.c rfl (AF.c rfl AF.nil)) (sS (sC (sC (sC sN))))))
  ·rintro⟨hl,⟨⟩⟩ hk;refine C7 (l':=[(0,rP hf 0),(3,rP b1 0)]) (H':=[.map he (AV Ai hl),.blk hf [rv (.map (some he))] 54,.blk b1 [Aq now] 3]) rfl rfl ?_;replace hk:HM F now hl=some r:=hk;unfold HM at hk;refine Ba (AQ (Al (wm rfl (ob hk λhm hA hB=>Gw (Hr:=[.blk b1 [Aq now] 3]) Tryz.call14 (La hf he (A8.mk hl) hm hA) rfl ((Ar (i:=1) rfl).trans (Uf _ (Ug _))) rfl ?_))));rintro _ _ ⟨hC,rfl,rfl⟩;refine wv (r:=rv (.func (.func 31) #[] #[(.pointer (some ⟨b1,0,none⟩))])) (Nm rfl) (ob hB λhD hE hG=>Gw (Hr:=[.blk hf [rv (.map (some he))] 54,.map he (AV Ai hm.2.fTimers)]) Tryz.call30 (Lw F hC b1 hm.1 now hD hE) rfl ((Ar (i:=0) rfl).trans (Uf _ ((Ar (i:=2) rfl).trans (Uf _ (Ug _))))) rfl ?_);rintro _ _ ⟨hH,rfl,rfl⟩;refine wa rfl (Aw (Az ?_));obtain rfl:=A2 hG;exact Ay (Bw Tryz.results10 (AT rfl)) (sC (sS (sC (sC sN)))) ⟨hH,rfl,rfl⟩
theorem J2 (F:Nat)(ha:Nat)(hb:Nat)(q:A8)(t:Ab)(now:Int)(r:Int×A8)(h:KZ F q t now=some r):Fn Tryz.prog GE 21 [rP ha 0,Bf (Ah t),Aq now] [.blk ha [rv (.map (some hb))] 54,.map hb (AV Ai q.fTimers)] (λR H=>R=Aq r.1∧H=[.blk ha [rv (.map (some hb))] 54,.map hb (AV Ai r.2.fTimers)]):=by
 refine enter (n:=56) Tryz.func21 rfl Tryz.ntmps21 rfl (λw Z=>?_);unfold KZ at h;refine Al (B3 rfl rfl (λb1=>?_));refine wa rfl (Aw (At (Al (wm rfl (ob h λr2 e4 h3=>Gw (Hr:=[.blk b1 (Ah t) 31]) Py (HL ha hb q r2 e4) rfl ((Ar (i:=1) rfl).trans (Uf _ ((Ar (i:=1) rfl).trans (Uf _ (Ug _))))) rfl ?_)))));rintro _ _ ⟨rfl,rfl⟩;refine wv (BD rfl) (Aw (cz h3 rfl (λc5 h6=>?_) (λc5 h7=>?_)))
 ·refine Al (wa rfl (Aw (Az (Af ?_))));obtain rfl:=A2 h6;exact Ay (Bw On (AT rfl)) (sC (sC (sS sN))) ⟨rfl,rfl⟩
 ·refine A0 (AQ (At (Al (wv (Bo (i:=2) EE BP rfl rfl rfl rfl) (ob h7 λr8 hg h9=>CS Tryz.call41 (PE F t r8 hg) rfl (wa rfl (BW (wm rfl (wv (Eb rfl rfl) (Aw (cz h9 rfl (λhi hj=>?_) (λhi hk=>?_))))))))))))
  ·refine Al (wm rfl (wa rfl (Aw (Az (Af ?_)))));obtain rfl:=A2 hj;exact Ay (Bw On (AT rfl)) (sC (sC (sS sN))) ⟨rfl,rfl⟩
  ·refine A0 (AQ (At (IY 12 [0,2,4] [⟨[],rP ha 0,none,none,none⟩,⟨[0],rP ha 0,none,none,none⟩,⟨[1],rP ha 0,none,none,none⟩,⟨[2],rv (.map (some hb)),none,none,none⟩,⟨[],rP b1 0,none,none,none⟩,⟨[4],rS t.fID,none,none,none⟩,⟨[3,5],Hb [Bf [rS (((AN r2.2.fTimers t.fID (Aa.mk (Ab.mk ([]:Ak) 0 ([]:Ak) ([]:Ak) ([]:(List Ac))) false)).fTimer).fID),Aq (((AN r2.2.fTimers t.fID (Aa.mk (Ab.mk ([]:Ak) 0 ([]:Ak) ([]:Ak) ([]:(List Ac))) false)).fTimer).fAt),rS (((AN r2.2.fTimers t.fID (Aa.mk (Ab.mk ([]:Ak) 0 ([]:Ak) ([]:Ak) ([]:(List Ac))) false)).fTimer).fTenant),rS (((AN r2.2.fTimers t.fID (Aa.mk (Ab.mk ([]:Ak) 0 ([]:Ak) ([]:Ak) ([]:(List Ac))) false)).fTimer).fSource),AY 4 (AD Ad (((AN r2.2.fTimers t.fID (Aa.mk (Ab.mk ([]:Ak) 0 ([]:Ak) ([]:Ak) ([]:(List Ac))) false)).fTimer).fBody)),rB ((AN r2.2.fTimers t.fID (Aa.mk (Ab.mk ([]:Ak) 0 ([]:Ak) ([]:Ak) ([]:(List Ac))) false)).fTold)],rB (DM r2.2.fTimers t.fID)],none,none,none⟩,⟨[6],Hb [Bf [rS (((AN r2.2.fTimers t.fID (Aa.mk (Ab.mk ([]:Ak) 0 ([]:Ak) ([]:Ak) ([]:(List Ac))) false)).fTimer).fID),Aq (((AN r2.2.fTimers t.fID (Aa.mk (Ab.mk ([]:Ak) 0 ([]:Ak) ([]:Ak) ([]:(List Ac))) false)).fTimer).fAt),rS (((AN r2.2.fTimers t.fID (Aa.mk (Ab.mk ([]:Ak) 0 ([]:Ak) ([]:Ak) ([]:(List Ac))) false)).fTimer).fTenant),rS (((AN r2.2.fTimers t.fID (Aa.mk (Ab.mk ([]:Ak) 0 ([]:Ak) ([]:Ak) ([]:(List Ac))) false)).fTimer).fSource),AY 4 (AD Ad (((AN r2.2.fTimers t.fID (Aa.mk (Ab.mk ([]:Ak) 0 ([]:Ak) ([]:Ak) ([]:(List Ac))) false)).fTimer).fBody)),rB ((AN r2.2.fTimers t.fID (Aa.mk (Ab.mk ([]:Ak) 0 ([]:Ak) ([]:Ak) ([]:(List Ac))) false)).fTold)],rB (DM r2.2.fTimers t.fID)],none,none,none⟩,⟨[7],Bf [rS (((AN r2.2.fTimers t.fID (Aa.mk (Ab.mk ([]:Ak) 0 ([]:Ak) ([]:Ak) ([]:(List Ac))) false)).fTimer).fID),Aq (((AN r2.2.fTimers t.fID (Aa.mk (Ab.mk ([]:Ak) 0 ([]:Ak) ([]:Ak) ([]:(List Ac))) false)).fTimer).fAt),rS (((AN r2.2.fTimers t.fID (Aa.mk (Ab.mk ([]:Ak) 0 ([]:Ak) ([]:Ak) ([]:(List Ac))) false)).fTimer).fTenant),rS (((AN r2.2.fTimers t.fID (Aa.mk (Ab.mk ([]:Ak) 0 ([]:Ak) ([]:Ak) ([]:(List Ac))) false)).fTimer).fSource),AY 4 (AD Ad (((AN r2.2.fTimers t.fID (Aa.mk (Ab.mk ([]:Ak) 0 ([]:Ak) ([]:Ak) ([]:(List Ac))) false)).fTimer).fBody)),rB ((AN r2.2.fTimers t.fID (Aa.mk (Ab.mk ([]:Ak) 0 ([]:Ak) ([]:Ak) ([]:(List Ac))) false)).fTold)],none,none,none⟩,⟨[7],rB (DM r2.2.fTimers t.fID),none,none,none⟩,⟨[],rv undef,some ([rS ([]:Ak),Aq 0,rS ([]:Ak),rS ([]:Ak),rv (.slice none 0 0),rB false],65),some (11,[rS (((AN r2.2.fTimers t.fID (Aa.mk (Ab.mk ([]:Ak) 0 ([]:Ak) ([]:Ak) ([]:(List Ac))) false)).fTimer).fID),Aq (((AN r2.2.fTimers t.fID (Aa.mk (Ab.mk ([]:Ak) 0 ([]:Ak) ([]:Ak) ([]:(List Ac))) false)).fTimer).fAt),rS (((AN r2.2.fTimers t.fID (Aa.mk (Ab.mk ([]:Ak) 0 ([]:Ak) ([]:Ak) ([]:(List Ac))) false)).fTimer).fTenant),rS (((AN r2.2.fTimers t.fID (Aa.mk (Ab.mk ([]:Ak) 0 ([]:Ak) ([]:Ak) ([]:(List Ac))) false)).fTimer).fSource),AY 4 (AD Ad (((AN r2.2.fTimers t.fID (Aa.mk (Ab.mk ([]:Ak) 0 ([]:Ak) ([]:Ak) ([]:(List Ac))) false)).fTimer).fBody)),rB ((AN r2.2.fTimers t.fID (Aa.mk (Ab.mk ([]:Ak) 0 ([]:Ak) ([]:Ak) ([]:(List Ac))) false)).fTold)]),none⟩,⟨[8],rv undef,none,none,some 10⟩] ?_ (λβ=>?_))))
   ·refine Ji (A3 rfl) (Ji (AU rfl) (Ji (Bg Jr rfl Js rfl rfl) (Sf (CE (i:=0) Jv rfl rfl rfl) (Ji (Bg BL rfl D5 rfl rfl) (Sf (CE (i:=2) DF rfl rfl rfl) (Sf (NN (enc:=Ai) (xs:=r2.2.fTimers) (z:=Aa.mk (Ab.mk ([]:Ak) 0 ([]:Ak) ([]:Ak) ([]:(List Ac))) false) (i:=1) Kl Es LE Dw rfl rfl rfl) (Ji (A3 rfl) (Ji (Bp rfl rfl) (Ji (Bp rfl rfl) (TZ (Tz (cs:=[rS ([]:Ak),Aq 0,rS ([]:Ak),rS ([]:Ak),rv (.slice none 0 0),rB false]) LE rfl) (TY (fun {hf hh}=>Mi (CL (i:=0) Pw rfl rfl rfl (BV.c rfl) rfl rfl (cs':=[rS (((AN r2.2.fTimers t.fID (Aa.mk (Ab.mk ([]:Ak) 0 ([]:Ak) ([]:Ak) ([]:(List Ac))) false)).fTimer).fID),Aq (((AN r2.2.fTimers t.fID (Aa.mk (Ab.mk ([]:Ak) 0 ([]:Ak) ([]:Ak) ([]:(List Ac))) false)).fTimer).fAt),rS (((AN r2.2.fTimers t.fID (Aa.mk (Ab.mk ([]:Ak) 0 ([]:Ak) ([]:Ak) ([]:(List Ac))) false)).fTimer).fTenant),rS (((AN r2.2.fTimers t.fID (Aa.mk (Ab.mk ([]:Ak) 0 ([]:Ak) ([]:Ak) ([]:(List Ac))) false)).fTimer).fSource),AY 4 (AD Ad (((AN r2.2.fTimers t.fID (Aa.mk (Ab.mk ([]:Ak) 0 ([]:Ak) ([]:Ak) ([]:(List Ac))) false)).fTimer).fBody)),rB ((AN r2.2.fTimers t.fID (Aa.mk (Ab.mk ([]:Ak) 0 ([]:Ak) ([]:Ak) ([]:(List Ac))) false)).fTold)]) rfl (H':=.blk hf [rS (((AN r2.2.fTimers t.fID (Aa.mk (Ab.mk ([]:Ak) 0 ([]:Ak) ([]:Ak) ([]:(List Ac))) false)).fTimer).fID),Aq (((AN r2.2.fTimers t.fID (Aa.mk (Ab.mk ([]:Ak) 0 ([]:Ak) ([]:Ak) ([]:(List Ac))) false)).fTimer).fAt),rS (((AN r2.2.fTimers t.fID (Aa.mk (Ab.mk ([]:Ak) 0 ([]:Ak) ([]:Ak) ([]:(List Ac))) false)).fTimer).fTenant),rS (((AN r2.2.fTimers t.fID (Aa.mk (Ab.mk ([]:Ak) 0 ([]:Ak) ([]:Ak) ([]:(List Ac))) false)).fTimer).fSource),AY 4 (AD Ad (((AN r2.2.fTimers t.fID (Aa.mk (Ab.mk ([]:Ak) 0 ([]:Ak) ([]:Ak) ([]:(List Ac))) false)).fTimer).fBody)),rB ((AN r2.2.fTimers t.fID (Aa.mk (Ab.mk ([]:Ak) 0 ([]:Ak) ([]:Ak) ([]:(List Ac))) false)).fTold)] 65::hh) rfl)) ?_)))))))))));exact T9
   refine G8 (H1:=[.blk ha [rv (.map (some hb))] 54,.map hb (AV Ai r2.2.fTimers),.blk b1 (Ah t) 31,.blk (β 10) [rS (((AN r2.2.fTimers t.fID (Aa.mk (Ab.mk ([]:Ak) 0 ([]:Ak) ([]:Ak) ([]:(List Ac))) false)).fTimer).fID),Aq (((AN r2.2.fTimers t.fID (Aa.mk (Ab.mk ([]:Ak) 0 ([]:Ak) ([]:Ak) ([]:(List Ac))) false)).fTimer).fAt),rS (((AN r2.2.fTimers t.fID (Aa.mk (Ab.mk ([]:Ak) 0 ([]:Ak) ([]:Ak) ([]:(List Ac))) false)).fTimer).fTenant),rS (((AN r2.2.fTimers t.fID (Aa.mk (Ab.mk ([]:Ak) 0 ([]:Ak) ([]:Ak) ([]:(List Ac))) false)).fTimer).fSource),AY 4 (AD Ad (((AN r2.2.fTimers t.fID (Aa.mk (Ab.mk ([]:Ak) 0 ([]:Ak) ([]:Ak) ([]:(List Ac))) false)).fTimer).fBody)),rB ((AN r2.2.fTimers t.fID (Aa.mk (Ab.mk ([]:Ak) 0 ([]:Ak) ([]:Ak) ([]:(List Ac))) false)).fTold)] 65]) [19,20,21,22,23,24,25,18,26,27,8,0,2,4] ?_;generalize β 10=hf;refine wa rfl (Aw (At (AJ (ck hk λg15 hl=>AA [(0,rP ha 0),(4,rP b1 0),(9,rB (DM r2.2.fTimers t.fID)),(28,rB ((!(ov (Hh now)))||(decide (t.fAt<now))))] [.blk ha [rv (.map (some hb))] 54,.map hb (AV Ai r2.2.fTimers),.blk b1 (Ah t) 31] ?_ ?_))))
   ·refine An (wm rfl (CS Tryz.call48 (N7 now (ov (Hh now)) (E0 g15)) rfl (wv (BD rfl) (wm rfl (AH (!(ov (Hh now))) (λhd=>?_) (λhd=>?_))))))
    ·refine wf hd (wf hd (wf hd (wf hd (wv (r:=rB true) (Ao rfl hd rfl) (wa rfl (Am ?_))))));exact BA hd
    ·refine wo hd (vF BL rfl Cv (wo hd (vL 2 CC rfl (wo hd (wm rfl (wo hd (wv (C0 rfl rfl) (DT rfl hd rfl (wa rfl (Am ?_))))))))));exact BA hd
   refine cz hl rfl (λhm hn=>?_) (λhm ho=>?_)
   ·refine Al (wa rfl (Aw (Az (A9 (Af ?_)))));obtain rfl:=A2 hn;exact Ay (Bw On (AT rfl)) (sC (sC (sS sN))) ⟨rfl,rfl⟩
   ·refine Al (wm rfl (wa rfl (Aw (cz ho rfl (λc21 hp=>?_) (λc21 hq=>?_)))))
    ·refine Al (wa rfl (Aw (Az (A9 (Af ?_)))));obtain rfl:=A2 hp;exact Ay (Bw On (AT rfl)) (sC (sC (sS sN))) ⟨rfl,rfl⟩
    ·refine Al (wm rfl (wv (AU rfl) (vF Jr rfl Js (vL 0 Jv rfl (wv (r:=Aq (r2.2.fTimers.length:Int)) (SB (N:=r2.2.fTimers.length) (i:=1) Kl rfl rfl (GH _ _)) (wv (G4 rfl rfl) (wa rfl (Aw (cz hq rfl (λhr hs=>?_) (λhr ht=>?_))))))))))
     ·refine Al (wa rfl (Aw (Az (A9 (Af ?_)))));obtain rfl:=A2 hs;exact Ay (Bw On (AT rfl)) (sC (sC (sS sN))) ⟨rfl,rfl⟩
     ·refine A0 (AO (AQ (At (ob ht λhe hu hw=>IY 9 [0,4] [⟨[],rP ha 0,none,none,none⟩,⟨[0],rP ha 0,none,none,none⟩,⟨[1],rP ha 0,none,none,none⟩,⟨[2],rv (.map (some hb)),none,none,none⟩,⟨[],rP b1 0,none,none,none⟩,⟨[4],rS t.fID,none,none,none⟩,⟨[],Bf (Ah t),none,none,none⟩,⟨[6],Bf (Ah he),none,none,none⟩,⟨[7],Bf [rS he.fID,Aq he.fAt,rS he.fTenant,rS he.fSource,AY 4 (AD Ad he.fBody),rB false],none,none,none⟩] ?_ (λβ=>?_)))))
      ·refine Ji (A3 rfl) (Ji (AU rfl) (Ji (Bg Jr rfl Js rfl rfl) (Sf (CE (i:=0) Jv rfl rfl rfl) (Ji (Bg BL rfl D5 rfl rfl) (Sf (CE (i:=2) DF rfl rfl rfl) (Sf (Bo (i:=2) EE BP rfl rfl rfl rfl) (Ua (NM Tryz.call35 (P9 t he hu) rfl) (Ji (Mm rfl) ?_))))))));exact T9
      refine G8 (H1:=[.blk ha [rv (.map (some hb))] 54,.map hb (AV Ai r2.2.fTimers),.blk b1 (Ah t) 31]) [47,48,49,50,51,52,53,54,55,0,4] ?_;refine N5 (enc:=Ai) (xs:=r2.2.fTimers) (v:=(Aa.mk he false)) (i:=1) Kl Es rfl rfl rfl rfl (H':=[.blk ha [rv (.map (some hb))] 54,.map hb (AV Ai (mset r2.2.fTimers t.fID (Aa.mk he false))),.blk b1 (Ah t) 31]) rfl (BW (wa rfl (Aw (Az ?_))));obtain rfl:=A2 hw;exact Ay (Bw On (AT rfl)) (sC (sC (sS sN))) ⟨rfl,rfl⟩
theorem MZ (hb:Nat)(ha:Nat)(q:A8)(id:Ak)(r:Int×A8)(h:Na q id=some r):Fn Tryz.prog GE 24 [rP hb 0,rS id] [.blk hb [rv (.map (some ha))] 54,.map ha (AV Ai q.fTimers)] (λR H=>R=Aq r.1∧H=[.blk hb [rv (.map (some ha))] 54,.map ha (AV Ai r.2.fTimers)]):=by
 refine enter (n:=26) Tryz.func24 rfl Tryz.ntmps24 rfl (λw Z=>?_);unfold Na at h;refine Al (wa rfl (Aw (At (Al (wm rfl (ob h λr1 e3 h2=>Gw (Hr:=[]) Py (HL hb ha q r1 e3) rfl (Ug _) rfl ?_))))));rintro _ _ ⟨rfl,rfl⟩;refine wv (BD rfl) (Aw (cz h2 rfl (λc4 h5=>?_) (λc4 h6=>?_)))
 ·refine Al (wa rfl (Aw (Az (Af ?_))));obtain rfl:=A2 h5;exact Ay (Bw Tryz.results24 (AT rfl)) (sC (sC sN)) ⟨rfl,rfl⟩
 ·refine A0 (AQ (At (Al (wm rfl (wv (AU rfl) (vF Jr rfl Js (vL 0 Jv rfl (wm rfl (wv (r:=Hb [Bf [rS (((AN r1.2.fTimers id (Aa.mk (Ab.mk ([]:Ak) 0 ([]:Ak) ([]:Ak) ([]:(List Ac))) false)).fTimer).fID),Aq (((AN r1.2.fTimers id (Aa.mk (Ab.mk ([]:Ak) 0 ([]:Ak) ([]:Ak) ([]:(List Ac))) false)).fTimer).fAt),rS (((AN r1.2.fTimers id (Aa.mk (Ab.mk ([]:Ak) 0 ([]:Ak) ([]:Ak) ([]:(List Ac))) false)).fTimer).fTenant),rS (((AN r1.2.fTimers id (Aa.mk (Ab.mk ([]:Ak) 0 ([]:Ak) ([]:Ak) ([]:(List Ac))) false)).fTimer).fSource),AY 4 (AD Ad (((AN r1.2.fTimers id (Aa.mk (Ab.mk ([]:Ak) 0 ([]:Ak) ([]:Ak) ([]:(List Ac))) false)).fTimer).fBody)),rB ((AN r1.2.fTimers id (Aa.mk (Ab.mk ([]:Ak) 0 ([]:Ak) ([]:Ak) ([]:(List Ac))) false)).fTold)],rB (DM r1.2.fTimers id)]) (NN (enc:=Ai) (xs:=r1.2.fTimers) (z:=Aa.mk (Ab.mk ([]:Ak) 0 ([]:Ak) ([]:Ak) ([]:(List Ac))) false) (i:=1) Kl Es LE Dw rfl rfl rfl) (wm rfl (wv (Bp rfl rfl) (wv (Bp rfl rfl) (CO (cs:=[rS ([]:Ak),Aq 0,rS ([]:Ak),rS ([]:Ak),rv (.slice none 0 0),rB false]) LE rfl rfl (λb7=>?_))))))))))))));refine BJ (i:=0) Pw rfl rfl rfl (BV.c rfl) rfl rfl (cs':=[rS (((AN r1.2.fTimers id (Aa.mk (Ab.mk ([]:Ak) 0 ([]:Ak) ([]:Ak) ([]:(List Ac))) false)).fTimer).fID),Aq (((AN r1.2.fTimers id (Aa.mk (Ab.mk ([]:Ak) 0 ([]:Ak) ([]:Ak) ([]:(List Ac))) false)).fTimer).fAt),rS (((AN r1.2.fTimers id (Aa.mk (Ab.mk ([]:Ak) 0 ([]:Ak) ([]:Ak) ([]:(List Ac))) false)).fTimer).fTenant),rS (((AN r1.2.fTimers id (Aa.mk (Ab.mk ([]:Ak) 0 ([]:Ak) ([]:Ak) ([]:(List Ac))) false)).fTimer).fSource),AY 4 (AD Ad (((AN r1.2.fTimers id (Aa.mk (Ab.mk ([]:Ak) 0 ([]:Ak) ([]:Ak) ([]:(List Ac))) false)).fTimer).fBody)),rB ((AN r1.2.fTimers id (Aa.mk (Ab.mk ([]:Ak) 0 ([]:Ak) ([]:Ak) ([]:(List Ac))) false)).fTold)]) rfl (H':=[.blk b7 [rS (((AN r1.2.fTimers id (Aa.mk (Ab.mk ([]:Ak) 0 ([]:Ak) ([]:Ak) ([]:(List Ac))) false)).fTimer).fID),Aq (((AN r1.2.fTimers id (Aa.mk (Ab.mk ([]:Ak) 0 ([]:Ak) ([]:Ak) ([]:(List Ac))) false)).fTimer).fAt),rS (((AN r1.2.fTimers id (Aa.mk (Ab.mk ([]:Ak) 0 ([]:Ak) ([]:Ak) ([]:(List Ac))) false)).fTimer).fTenant),rS (((AN r1.2.fTimers id (Aa.mk (Ab.mk ([]:Ak) 0 ([]:Ak) ([]:Ak) ([]:(List Ac))) false)).fTimer).fSource),AY 4 (AD Ad (((AN r1.2.fTimers id (Aa.mk (Ab.mk ([]:Ak) 0 ([]:Ak) ([]:Ak) ([]:(List Ac))) false)).fTimer).fBody)),rB ((AN r1.2.fTimers id (Aa.mk (Ab.mk ([]:Ak) 0 ([]:Ak) ([]:Ak) ([]:(List Ac))) false)).fTold)] 65,.blk hb [rv (.map (some ha))] 54,.map ha (AV Ai r1.2.fTimers)]) rfl (wa rfl (BW (wm rfl (wv (BD rfl) (Aw (cz h6 rfl (λc8 h9=>?_) (λc8 hd=>?_)))))))
  ·refine Al (wa rfl (Aw (Az (Af ?_))));obtain rfl:=A2 h9;exact Ay (Bw Tryz.results24 (AT rfl)) (sS (sC (sC sN))) ⟨rfl,rfl⟩
  ·refine A0 (AQ (Al (wm rfl (wv (AU rfl) (vF Jr rfl Js (vL 1 Jv rfl (wm rfl (Rk (enc:=Ai) (xs:=r1.2.fTimers) (i:=2) Kl Es rfl rfl rfl (H':=[.blk b7 [rS (((AN r1.2.fTimers id (Aa.mk (Ab.mk ([]:Ak) 0 ([]:Ak) ([]:Ak) ([]:(List Ac))) false)).fTimer).fID),Aq (((AN r1.2.fTimers id (Aa.mk (Ab.mk ([]:Ak) 0 ([]:Ak) ([]:Ak) ([]:(List Ac))) false)).fTimer).fAt),rS (((AN r1.2.fTimers id (Aa.mk (Ab.mk ([]:Ak) 0 ([]:Ak) ([]:Ak) ([]:(List Ac))) false)).fTimer).fTenant),rS (((AN r1.2.fTimers id (Aa.mk (Ab.mk ([]:Ak) 0 ([]:Ak) ([]:Ak) ([]:(List Ac))) false)).fTimer).fSource),AY 4 (AD Ad (((AN r1.2.fTimers id (Aa.mk (Ab.mk ([]:Ak) 0 ([]:Ak) ([]:Ak) ([]:(List Ac))) false)).fTimer).fBody)),rB ((AN r1.2.fTimers id (Aa.mk (Ab.mk ([]:Ak) 0 ([]:Ak) ([]:Ak) ([]:(List Ac))) false)).fTold)] 65,.blk hb [rv (.map (some ha))] 54,.map ha (AV Ai (mdel r1.2.fTimers id))]) rfl (BW (wa rfl (Aw (Az ?_))))))))))));obtain rfl:=A2 hd;exact Ay (Bw Tryz.results24 (AT rfl)) (sS (sC (sC sN))) ⟨rfl,rfl⟩
theorem K0 (hd:Nat)(hb:Nat)(q:A8)(id:Ak)(r:Int×A8)(h:GN q id=some r):Fn Tryz.prog GE 25 [rP hd 0,rS id] [.blk hd [rv (.map (some hb))] 54,.map hb (AV Ai q.fTimers)] (λR H=>R=Aq r.1∧H=[.blk hd [rv (.map (some hb))] 54,.map hb (AV Ai r.2.fTimers)]):=by
 refine enter (n:=19) Tryz.func25 rfl Tryz.ntmps25 rfl (λw Z=>?_);unfold GN at h;refine Al (wa rfl (Aw (At (CV (S:=(Bool×(List (Ak×Aa)))×(Unit)) (λσ=>DL id σ.1.1 σ.1.2=some r) (λσ=>[(0,rP hd 0),(1,rS id),(4,Aq 0),(15,rB σ.1.1)]) (λσ=>[.blk hd [rv (.map (some hb))] 54,.map hb (AV Ai σ.1.2)]) ?_ ?_))))
 ·refine An (wm rfl (ob h λr9 hf hg=>Gw (Hr:=[]) Py (HL hd hb q r9 hf) rfl (Ug _) rfl ?_));rintro _ _ ⟨rfl,rfl⟩;refine wm rfl (bz hg (λha hh=>?_) (λha hi=>?_))
  ·exact wo ha (wm rfl (wo ha (wv (AU rfl) (wo ha (vF Jr rfl Js (wo ha (vL 0 Jv rfl (wo ha (wm rfl (wo ha (wv (r:=Bf [rS (((AN r9.2.fTimers id (Aa.mk (Ab.mk ([]:Ak) 0 ([]:Ak) ([]:Ak) ([]:(List Ac))) false)).fTimer).fID),Aq (((AN r9.2.fTimers id (Aa.mk (Ab.mk ([]:Ak) 0 ([]:Ak) ([]:Ak) ([]:(List Ac))) false)).fTimer).fAt),rS (((AN r9.2.fTimers id (Aa.mk (Ab.mk ([]:Ak) 0 ([]:Ak) ([]:Ak) ([]:(List Ac))) false)).fTimer).fTenant),rS (((AN r9.2.fTimers id (Aa.mk (Ab.mk ([]:Ak) 0 ([]:Ak) ([]:Ak) ([]:(List Ac))) false)).fTimer).fSource),AY 4 (AD Ad (((AN r9.2.fTimers id (Aa.mk (Ab.mk ([]:Ak) 0 ([]:Ak) ([]:Ak) ([]:(List Ac))) false)).fTimer).fBody)),rB ((AN r9.2.fTimers id (Aa.mk (Ab.mk ([]:Ak) 0 ([]:Ak) ([]:Ak) ([]:(List Ac))) false)).fTold)]) (Qn (enc:=Ai) (xs:=r9.2.fTimers) (z:=Aa.mk (Ab.mk ([]:Ak) 0 ([]:Ak) ([]:Ak) ([]:(List Ac))) false) (i:=1) Kl Es LE Dw rfl rfl rfl) (wo ha (wv (r:=rB ((AN r9.2.fTimers id (Aa.mk (Ab.mk ([]:Ak) 0 ([]:Ak) ([]:Ak) ([]:(List Ac))) false)).fTold)) (R7 Oj rfl L9 rfl rfl) (Eu rfl ha rfl (Am (A5 (AE (((AN r9.2.fTimers id (Aa.mk (Ab.mk ([]:Ak) 0 ([]:Ak) ([]:Ak) ([]:(List Ac))) false)).fTold,r9.2.fTimers),()) hh (AF.c rfl (AF.c rfl (AF.c rfl (AF.c rfl AF.nil)))) (sC (sC sN)))))))))))))))))))
  ·exact wf ha (wf ha (wf ha (wf ha (wf ha (wf ha (wf ha (wv (r:=rB false) (A1 rfl ha rfl) (Am (A5 (AE ((false,r9.2.fTimers),()) hi (AF.c rfl (AF.c rfl (AF.c rfl (AF.c rfl AF.nil)))) (sC (sC sN))))))))))))
 ·rintro⟨⟨x7,x8⟩,⟨⟩⟩ he;refine Ca (l':=[(0,rP hd 0),(1,rS id),(4,Aq 0),(15,rB x7)]) (H':=[.blk hd [rv (.map (some hb))] 54,.map hb (AV Ai x8)]) rfl rfl ?_;replace he:DL id x7 x8=some r:=he;unfold DL at he;refine cz he rfl (λhj hk=>?_) (λhj hl=>?_)
  ·refine Al (wa rfl (Aw (Az (Af ?_))));obtain rfl:=A2 hk;exact Ay (Bw Tryz.results25 (AT rfl)) (sC (sC sN)) ⟨rfl,rfl⟩
  ·refine A0 (AQ (Al (wm rfl (wm rfl (ob hl λhm hn ho=>Gw (Hr:=[]) Tryz.call24 (MZ hd hb (A8.mk x8) id hm hn) rfl (Ug _) rfl ?_)))));rintro _ _ ⟨rfl,rfl⟩;refine wa rfl (Aw (Az ?_));obtain rfl:=A2 ho;exact Ay (Bw Tryz.results25 (AT rfl)) (sC (sC sN)) ⟨rfl,rfl⟩
theorem N9 (hb:Nat)(ha:Nat)(q:A8)(r:Int×Bool×A8)(h:Kx q=some r):Fn Tryz.prog GE 16 [rP hb 0] [.blk hb [rv (.map (some ha))] 54,.map ha (AV Ai q.fTimers)] (λR H=>R=Hb [Aq r.1,rB r.2.1]∧H=[.blk hb [rv (.map (some ha))] 54,.map ha (AV Ai r.2.2.fTimers)]):=by
 refine enter (n:=14) Tryz.func16 rfl Tryz.ntmps16 rfl (λw Z=>?_);unfold Kx at h;refine Al (wa rfl (wa rfl (BW (wm rfl (ob h λr1 e3 h2=>Gw (Hr:=[]) Tryz.call14 (La hb ha q r1 e3) rfl (Ug _) rfl ?_)))));rintro _ _ ⟨v4,rfl,rfl⟩;refine wa rfl (Aw (At (Al (wm rfl (wv (BF (ys:=r1.1) (enc:=Ah) (i:=0) DZ rfl rfl) (wv (Bj rfl rfl) (Aw (cz h2 rfl (λc5 h6=>?_) (λc5 h7=>?_)))))))))
 ·refine Al (wa rfl (wa rfl (Aw (Az (Af ?_)))));obtain rfl:=A2 h6;exact Ay (Td Tryz.results16 (AT rfl) (AT rfl)) (sS (sC (sC sN))) ⟨rfl,rfl⟩
 ·refine A0 (AQ (Al (wm rfl (ck h7 λg8 h9=>wv (r:=rv (C6 5 v4 (Ci 0) 0)) (CF (i:=0) DZ BP rfl rfl rfl (AW g8)) (wv (r:=rv (C6 5 v4 (Ci 0) 1)) (BQ (k:=0) BL rfl Cv rfl (AW g8) rfl rfl rfl) (wv (r:=Aq ((Aj r1.1 0).fAt)) (Dq (enc:=Ah) (ys:=r1.1) (i:=0) (j:=0) CC rfl rfl g8 rfl) (wa rfl (wa rfl (Aw (Az ?_))))))))));obtain rfl:=A2 h9;exact Ay (Td Tryz.results16 (AT rfl) (AT rfl)) (sS (sC (sC sN))) ⟨rfl,rfl⟩
end Go.Proofs.YtmmbdclkpijkpaaGreatDoor.Q
namespace Go.Proofs.YtmmbdclkpijkpaaGreatDoor
open Go
set_option linter.unusedVariables false
structure As where
 fTimer:Ab
 fReturned:Bool
 deriving DecidableEq,Inhabited
structure Ap where
 fMade:Bool
 fTimers:(List As)
 deriving DecidableEq,Inhabited
def J9 (F:Nat)(t:Ab):Option (Int):=
 B0 (QC F t.fID) λr2=>Bm (!r2) (some 4) (Bm (((decide (t.fAt<0))||(decide (1073741824<t.fAt)))) (some 2) (Bk ((D9 F t.fTenant).isSome)<|Bk (imp (!(!(ov (D9 F t.fTenant)))) ((D9 F t.fSource).isSome))<|Bm (((!(ov (D9 F t.fTenant)))||(!(ov (D9 F t.fSource))))) (some 4) (B0 (JH F t.fBody) λha=>some ha)))
def Rv :Option (Ap):=
 some (Ap.mk true ([]:List As))
def D6 (q:Ap)(id:Ak)(ha:Int):Option (Stp (Int) (Out (Int×Ap) (Unit))):=
 Bm (decide (ha<(q.fTimers.length:Int))) (Bk (D2 ha (q.fTimers.length:Int))<|Bm (decide ((((Aj q.fTimers ha).fTimer).fID)=id)) (some (.out (.ret (ha,q)))) (Bk (BH .i64 (ha+1))<|some (.next (ha+1)))) (some (.out (.go ())))
def HZ (q:Ap):Option (Int×Ap):=
 some ((-1),q)
def JG (F:Nat)(q:Ap)(id:Ak):Option (Int×Ap):=
 B0 (Cu (λσ=>D6 q id σ) F 0) (B9 λν=>HZ q )
def E9 (a:Ab)(b:Ab):Option (Bool):=
 some ((decide (a.fAt<b.fAt))||((decide (a.fAt=b.fAt))&&(Bz a.fID b.fID)))
def E8 (t:Ab)(hb:Int×Ap)(ha:Int):Option (Stp (Int) (Out (Int×Ap) (Int))):=
 Bk (imp (decide (ha<(hb.2.fTimers.length:Int))) (D2 ha (hb.2.fTimers.length:Int)))<|Bk (imp (decide (ha<(hb.2.fTimers.length:Int))) ((E9 ((Aj hb.2.fTimers ha).fTimer) t).isSome))<|Bm (((decide (ha<(hb.2.fTimers.length:Int)))&&(ov (E9 ((Aj hb.2.fTimers ha).fTimer) t)))) (Bk (BH .i64 (ha+1))<|some (.next (ha+1))) (some (.out (.go ha)))
def HU (t:Ab)(ha:Int×Ap)(hb:Int):Option (Int×Ap):=
 Bk (Ki hb (ha.2.fTimers.length:Int))<|Bk (LA 88 (([]:List As).length+(List.take (Int.toNat hb) ha.2.fTimers).length))<|Bk (LA 88 ((([]:List As)++(List.take (Int.toNat hb) ha.2.fTimers)).length+([(As.mk t false)]:List As).length))<|Bk (LA 88 (((([]:List As)++(List.take (Int.toNat hb) ha.2.fTimers))++([(As.mk t false)]:List As)).length+(List.drop (Int.toNat hb) ha.2.fTimers).length))<|some (0,(Ap.mk ha.2.fMade (((([]:List As)++(List.take (Int.toNat hb) ha.2.fTimers))++([(As.mk t false)]:List As))++(List.drop (Int.toNat hb) ha.2.fTimers))))
def PU (F:Nat)(q:Ap)(t:Ab)(now:Int):Option (Int×Ap):=
 Bm (!q.fMade) (some (10,q)) (B0 (J9 F t) λr5=>Bm (!decide (r5=0)) (some (r5,q)) (Bm (((decide (now<0))||((decide (1073741824<now))||(decide (t.fAt<now))))) (some (2,q)) (B0 (JG F q t.fID) λha=>Bm (decide (0≤ha.1)) (some (6,ha.2)) (Bm (decide ((ha.2.fTimers.length:Int)=256)) (some (3,ha.2)) (B0 (Cu (λσ=>E8 t ha σ) F 0) (B9 λν=>HU t ha ν))))))
def GR (q:Ap)(pos:Int):Option (Ap):=
 Bk (Ki pos (q.fTimers.length:Int))<|Bk (LA 88 (([]:List As).length+(List.take (Int.toNat pos) q.fTimers).length))<|Bk (BH .i64 (pos+1))<|Bk (Ki (pos+1) (q.fTimers.length:Int))<|Bk (LA 88 ((([]:List As)++(List.take (Int.toNat pos) q.fTimers)).length+(List.drop (Int.toNat (pos+1)) q.fTimers).length))<|some (Ap.mk q.fMade ((([]:List As)++(List.take (Int.toNat pos) q.fTimers))++(List.drop (Int.toNat (pos+1)) q.fTimers)))
def Gk (ha:Int)(hb:(List Ab))(hd:(List As)):Option (Stp ((List Ab)×Int×(List As)) (Out ((List Ab)×Ap) ((List Ab)×(List As)))):=
 Bk (BH .i64 (ha+1))<|some (.next (hb,ha+1,hd))
def Gl (q:Ap)(now:Int)(hd:(List Ab))(ha:Int)(hb:(List As)):Option (Stp ((List Ab)×Int×(List As)) (Out ((List Ab)×Ap) ((List Ab)×(List As)))):=
 Bm (decide (ha<(q.fTimers.length:Int))) (Bk (D2 ha (hb.length:Int))<|Bm (decide ((((Aj hb ha).fTimer).fAt)≤now)) (ML (List.set hb (Int.toNat ha) (As.mk ((Aj hb ha).fTimer) true)) λhe=>Bk (D2 ha (he.length:Int))<|Bk (LA 80 (hd.length+([((Aj he ha).fTimer)]:List Ab).length))<|Gk ha (hd++([((Aj he ha).fTimer)]:List Ab)) he) (Gk ha hd hb)) (some (.out (.go (hd,hb))))
def Jf (q:Ap)(ha:(List Ab))(hb:(List As)):Option ((List Ab)×Ap):=
 some (ha,(Ap.mk q.fMade hb))
def Qa (F:Nat)(q:Ap)(now:Int):Option ((List Ab)×Ap):=
 Bm (!q.fMade) (some (([]:List Ab),q)) (B0 (Cu (λσ=>Gl q now σ.1 σ.2.1 σ.2.2) F (([]:List Ab),0,q.fTimers)) (B9 λν=>Jf q ν.1 ν.2))
def Qc (F:Nat)(q:Ap)(id:Ak):Option (Int×Ap):=
 Bm (!q.fMade) (some (10,q)) (B0 (JG F q id) λr4=>Bm (decide (r4.1<0)) (some (5,r4.2)) (B0 (GR r4.2 r4.1) λha=>some (0,ha)))
def Ia (F:Nat)(q:Ap)(id:Ak):Option (Int×Ap):=
 Bm (!q.fMade) (some (10,q)) (B0 (JG F q id) λr4=>Bm (decide (r4.1<0)) (some (5,r4.2)) (Bk (D2 r4.1 (r4.2.fTimers.length:Int))<|Bm ((Aj r4.2.fTimers r4.1).fReturned) (some (10,r4.2)) (B0 (GR r4.2 r4.1) λha=>some (0,ha))))
def HV (q:Ap):Option (Int×Bool×Ap):=
 Bm (((!q.fMade)||(decide ((q.fTimers.length:Int)=0)))) (some (0,false,q)) (Bk (D2 0 (q.fTimers.length:Int))<|some (((Aj q.fTimers 0).fTimer).fAt,true,q))
def Ez (q:Ap)(hb:(List Ab))(ha:Int):Option (Stp ((List Ab)×Int) (Out ((List Ab)×Ap) ((List Ab)))):=
 Bm (decide (ha<(q.fTimers.length:Int))) (Bk (D2 ha (q.fTimers.length:Int))<|Bk (LA 80 (hb.length+([((Aj q.fTimers ha).fTimer)]:List Ab).length))<|Bk (BH .i64 (ha+1))<|some (.next (hb++([((Aj q.fTimers ha).fTimer)]:List Ab),ha+1))) (some (.out (.go hb)))
def HW (q:Ap)(ha:(List Ab)):Option ((List Ab)×Ap):=
 some (ha,q)
def Mb (F:Nat)(q:Ap):Option ((List Ab)×Ap):=
 Bm (!q.fMade) (some (([]:List Ab),q)) (B0 (Cu (λσ=>Ez q σ.1 σ.2) F (([]:List Ab),0)) (B9 λν=>HW q ν))
def Dg (a:Ab)(b:Ab)(ha:Int):Option (Stp (Int) (Out (Bool) (Unit))):=
 Bm (decide (ha<(a.fBody.length:Int))) (Bk (D2 ha (a.fBody.length:Int))<|Bk (D2 ha (b.fBody.length:Int))<|Bm (!(decide (((Aj a.fBody ha).fKind)=((Aj b.fBody ha).fKind))&&decide (((Aj a.fBody ha).fInt)=((Aj b.fBody ha).fInt))&&decide (((Aj a.fBody ha).fStr)=((Aj b.fBody ha).fStr))&&decide (((Aj a.fBody ha).fN)=((Aj b.fBody ha).fN)))) (some (.out (.ret false))) (Bk (BH .i64 (ha+1))<|some (.next (ha+1)))) (some (.out (.go ())))
def GQ :Option (Bool):=
 some true
def JC (F:Nat)(a:Ab)(b:Ab):Option (Bool):=
 Bm (((!decide (a.fID=b.fID))||((!decide (a.fAt=b.fAt))||((!decide (a.fTenant=b.fTenant))||((!decide (a.fSource=b.fSource))||(!decide ((a.fBody.length:Int)=(b.fBody.length:Int)))))))) (some false) (B0 (Cu (λσ=>Dg a b σ) F 0) (B9 λν=>GQ ))
def Df (F:Nat)(a:(List Ab))(b:(List Ab))(ha:Int):Option (Stp (Int) (Out (Bool) (Unit))):=
 Bm (decide (ha<(a.length:Int))) (Bk (D2 ha (a.length:Int))<|Bk (D2 ha (b.length:Int))<|B0 (JC F (Aj a ha) (Aj b ha)) λhb=>Bm (!hb) (some (.out (.ret false))) (Bk (BH .i64 (ha+1))<|some (.next (ha+1)))) (some (.out (.go ())))
def GP :Option (Bool):=
 some true
def H0 (F:Nat)(a:(List Ab))(b:(List Ab)):Option (Bool):=
 Bm (!decide ((a.length:Int)=(b.length:Int))) (some false) (B0 (Cu (λσ=>Df F a b σ) F 0) (B9 λν=>GP ))
def De (t:Ab)(ha:Int):Option (Stp (Int) (Out (Bool) (Unit))):=
 Bm (decide (ha<(t.fBody.length:Int))) (Bk (D2 ha (t.fBody.length:Int))<|Bm (decide (5000<(((Aj t.fBody ha).fStr).length:Int))) (some (.out (.ret false))) (Bk (BH .i64 (ha+1))<|some (.next (ha+1)))) (some (.out (.go ())))
def GO :Option (Bool):=
 some true
def JB (F:Nat)(t:Ab):Option (Bool):=
 Bm (((decide (300<(t.fID.length:Int)))||((decide (300<(t.fTenant.length:Int)))||((decide (300<(t.fSource.length:Int)))||(decide (300<(t.fBody.length:Int))))))) (some false) (B0 (Cu (λσ=>De t σ) F 0) (B9 λν=>GO ))
end Go.Proofs.YtmmbdclkpijkpaaGreatDoor
namespace Go.Proofs.YtmmbdclkpijkpaaGreatDoor.Q
open Go Go.RowKit
set_option linter.unusedVariables false
set_option linter.unusedSimpArgs false
set_option maxRecDepth 100000
set_option maxHeartbeats 4000000
@[reducible] def Ae (x:As):List Rp:=[rS x.fTimer.fID,Aq x.fTimer.fAt,rS x.fTimer.fTenant,rS x.fTimer.fSource,AY 4 (AD Ad x.fTimer.fBody),rB x.fReturned]
theorem BO (x:As):(Ae x).length=6:=rfl
theorem Ch (x:As):(Ae x).all (·.one)=true:=rfl
theorem JX:∃inf,Tryz.prog.info? 68=some inf∧inf.zero=some (.agg #[(.string ⟨#[]⟩),(.int .i64 0),(.string ⟨#[]⟩),(.string ⟨#[]⟩),(.slice none 0 0),(.bool false)])∧inf.size=6∧inf.bytes=88:=by
  have key:(Tryz.prog.info? 68).map (λi=>(i.zero,i.size,i.bytes))=some (some (.agg #[(.string ⟨#[]⟩),(.int .i64 0),(.string ⟨#[]⟩),(.string ⟨#[]⟩),(.slice none 0 0),(.bool false)]),6,88):=by kernel_rfl
  obtain⟨inf,h1,h2⟩:=Option.map_eq_some_iff.1 key;simp only[Prod.mk.injEq] at h2;exact⟨inf,h1,h2.1,h2.2.1,h2.2.2⟩
theorem RR (parts:List (Nat×Value)):Tryz.prog.built 57 parts=Instr.fill (λi=>(#[(0,1),(1,1)]:Array (Nat×Nat))[i]?) #[(.bool false),((.slice none 0 0))] parts:=by kernel_rfl
theorem Mn {n:Nat}{c:Cx}{l:Fr}{H:List Ent}{d:Option Nat}{ty:TypeId}{pos:String}{af:Array Edge}{g:Option (Nat×Bool)}{x0:Operand}{r0:Rp}(h0:ev l x0=some r0)(u0:r0.one=true):Bc Tryz.prog n c l H { dst:=d,op:=.build 57 #[(0,x0)],type:=ty,pos:=pos,after:=af,guard:=g } (Bf [r0,rv (.slice none 0 0)]):=λa w Z ha _=>by
  have p0:=ha.ev h0;have c0:=BI (r0.hone u0 Z _ p0);have hb:Tryz.prog.built 57 [(0,a.eval x0)]=some #[a.eval x0,((.slice none 0 0))]:=by
    rw[RR];generalize a.eval x0=v0 at *;simp[Instr.fill,c0]
  refine⟨.agg #[a.eval x0,((.slice none 0 0))],⟨[a.eval x0,((.slice none 0 0))],rfl,p0,rfl,trivial⟩,?_⟩;have:=run_build w 57 #[(0,a.eval x0)] _ (by simpa using hb);simp[execOp,this]
theorem RP (parts:List (Nat×Value)):Tryz.prog.built 68 parts=Instr.fill (λi=>(#[(0,5),(5,1)]:Array (Nat×Nat))[i]?) #[(.string ⟨#[]⟩),(.int .i64 0),(.string ⟨#[]⟩),(.string ⟨#[]⟩),((.slice none 0 0)),(.bool false)] parts:=by kernel_rfl
theorem Ml {n:Nat}{c:Cx}{l:Fr}{H:List Ent}{d:Option Nat}{ty:TypeId}{pos:String}{af:Array Edge}{g:Option (Nat×Bool)}{x0:Operand}{r0_0 r0_1 r0_2 r0_3 r0_4:Rp}(h0:ev l x0=some (Bf [r0_0,r0_1,r0_2,r0_3,r0_4])):Bc Tryz.prog n c l H { dst:=d,op:=.build 68 #[(0,x0)],type:=ty,pos:=pos,after:=af,guard:=g } (Bf [r0_0,r0_1,r0_2,r0_3,r0_4,rB false]):=λa w Z ha _=>by
  obtain⟨us0,e0,q0⟩:=ha.ev h0;obtain⟨y0_0,y0_1,y0_2,y0_3,y0_4,rfl,q0⟩:=AS.d5 q0;have hb:Tryz.prog.built 68 [(0,a.eval x0)]=some #[y0_0,y0_1,y0_2,y0_3,y0_4,(.bool false)]:=by
    rw[RP];simp[Instr.fill,e0,Value.cells]
  refine⟨.agg #[y0_0,y0_1,y0_2,y0_3,y0_4,(.bool false)],⟨[y0_0,y0_1,y0_2,y0_3,y0_4,(.bool false)],rfl,q0.1,q0.2.1,q0.2.2.1,q0.2.2.2.1,q0.2.2.2.2.1,rfl,trivial⟩,?_⟩;have:=run_build w 68 #[(0,a.eval x0)] _ (by simpa using hb);simp[execOp,this]
theorem QO {a0 b0:Int}{a1 b1:Int}{a2 b2:Ak}{a3 b3:Int}(w:World):(Op.equalIn 10000 89 (.agg #[.int .i64 a0,.int .i64 a1,.string (B a2),.int .i64 a3]) (.agg #[.int .i64 b0,.int .i64 b1,.string (B b2),.int .i64 b3])).run Tryz.prog w = .ok (decide (a0=b0)&&decide (a1=b1)&&decide (a2=b2)&&decide (a3=b3)) w:=by
  have hS:Tryz.prog.underlying 89=some (.struct (Tryz.prog.fieldsOf 89)):=by kernel_rfl
  have hp:Tryz.prog.stoodInHeld 89=false:=by kernel_rfl
  have u3:=TE;have ia3:=CC;have so3:=Cv;have u9:=Es;have ia9:=DF;have so9:=D5;have ha:=Tryz.underlying87;have hb:=DI;have hd:=DH;rw[show(10000:Nat)=9999+1 from rfl,run_equalIn_agg w 9999 89 _ _ hS hp];simp only[Program.fieldsOf,Bh]
  go_simp
  simp only[C5]
  by_cases h0:a0=b0<;>by_cases h1:a1=b1<;>by_cases h2:a2=b2<;>by_cases h3:a3=b3<;>simp[h0,h1,h2,h3]
theorem Mp {n:Nat}{c:Cx}{l:Fr}{H:List Ent}{d:Option Nat}{ty rty:TypeId}{pos:String}{af:Array Edge}{g:Option (Nat×Bool)}{x y:Operand}{a0 b0:Int}{a1 b1:Int}{a2 b2:Ak}{a3 b3:Int}(hx:ev l x=some (Bf [Aq a0,Aq a1,rS a2,Aq a3]))(hy:ev l y=some (Bf [Aq b0,Aq b1,rS b2,Aq b3])):Bc Tryz.prog n c l H { dst:=d,op:=.binOp .neq 89 x y rty,type:=ty,pos:=pos,after:=af,guard:=g } (rB (!(decide (a0=b0)&&decide (a1=b1)&&decide (a2=b2)&&decide (a3=b3)))):=λa w Z ha hw=>by
  obtain⟨us,e1,q1⟩:=ha.ev hx;obtain⟨vs,e2,q2⟩:=ha.ev hy;have k1:=AS.eq_rv (us:=[.int .i64 a0,.int .i64 a1,.string (B a2),.int .i64 a3]) q1;have k2:=AS.eq_rv (us:=[.int .i64 b0,.int .i64 b1,.string (B b2),.int .i64 b3]) q2;subst k1;subst k2;have hm:Tryz.prog.eqGuardType Tryz.prog.depth 89=false:=by kernel_rfl
  have hb:=QO (a0:=a0) (a1:=a1) (a2:=a2) (a3:=a3) (b0:=b0) (b1:=b1) (b2:=b2) (b3:=b3) w;refine⟨.bool (!(decide (a0=b0)&&decide (a1=b1)&&decide (a2=b2)&&decide (a3=b3))),rfl,?_⟩;have hg:=run_eqGuard_agg (P:=Tryz.prog) w .neq 89 x y #[.int .i64 a0,.int .i64 a1,.string (B a2),.int .i64 a3] #[.int .i64 b0,.int .i64 b1,.string (B b2),.int .i64 b3] hm;simp only[execOp,e1,e2,Sem.run_bind,hg,Result.andThen_ok,run_neq_struct,hb,Sem.run_pure]
theorem PP (F:Nat)(t:Ab)(r:Int)(h:J9 F t=some r):Fn Tryz.prog GE 52 [Bf (Ah t)] [] (λR H=>R=Aq r∧H=[]):=by
 refine enter (n:=28) Tryz.func52 rfl Tryz.ntmps52 rfl (λw Z=>?_);unfold J9 at h;refine Al (B3 rfl rfl (λb1=>?_));refine wa rfl (Aw (At (Al (vF BL rfl D5 (vL 0 DF rfl (ob h λr2 e4 h3=>CS Tryz.call72 (SI F t.fID r2 e4) rfl (wv (BD rfl) (Aw (cz h3 rfl (λc5 h6=>?_) (λc5 h7=>?_))))))))))
 ·refine Al (wa rfl (Aw (Az (Af ?_))));obtain rfl:=A2 h6;exact Ay (Bw QY (AT rfl)) (sS sN) ⟨rfl,rfl⟩
 ·refine A0 (AQ (At (AA [(1,rP b1 0),(14,rB ((decide (t.fAt<0))||(decide (1073741824<t.fAt))))] [.blk b1 (Ah t) 31] ?_ ?_)))
  ·refine An (vF BL rfl Cv (vL 0 CC rfl (wv (C0 rfl rfl) (wm rfl (AH (decide (t.fAt<0)) (λc8=>?_) (λc8=>?_))))))
   ·refine wf c8 (wf c8 (wf c8 (wv (r:=rB true) (Ao rfl c8 rfl) (Am ?_))));exact BA c8
   ·refine wo c8 (vF BL rfl Cv (wo c8 (vL 0 CC rfl (wo c8 (wv (Dl rfl rfl) (DT rfl c8 rfl (Am ?_)))))));exact BA c8
  refine cz h7 rfl (λc9 hb=>?_) (λc9 hd=>?_)
  ·refine Al (wa rfl (Aw (Az (Af ?_))));obtain rfl:=A2 hb;exact Ay (Bw QY (AT rfl)) (sS sN) ⟨rfl,rfl⟩
  ·refine A0 (AQ (At (ck hd λhe hf=>ck hf λhg hh=>AA [(1,rP b1 0),(24,rB ((!(ov (D9 F t.fTenant)))||(!(ov (D9 F t.fSource)))))] [.blk b1 (Ah t) 31] ?_ ?_)))
   ·refine An (vF BL rfl D5 (vL 0 DF rfl (CS Tryz.call73 (M9 F t.fTenant (ov (D9 F t.fTenant)) (E0 he)) rfl (wv (BD rfl) (wm rfl (AH (!(ov (D9 F t.fTenant))) (λha=>?_) (λha=>?_)))))))
    ·refine wf ha (wf ha (wf ha (wf ha (wv (r:=rB true) (Ao rfl ha rfl) (Am ?_)))));exact BA ha
    ·refine wo ha (vF BL rfl D5 (wo ha (vL 0 DF rfl (wo ha (CS Tryz.call73 (M9 F t.fSource (ov (D9 F t.fSource)) (E0 (D8 hg ha))) rfl (wo ha (wv (BD rfl) (DT rfl ha rfl (Am ?_)))))))));exact BA ha
   refine cz hh rfl (λhi hj=>?_) (λhi hk=>?_)
   ·refine Al (wa rfl (Aw (Az (Af ?_))));obtain rfl:=A2 hj;exact Ay (Bw QY (AT rfl)) (sS sN) ⟨rfl,rfl⟩
   ·refine A0 (AQ (Al (vF BL rfl Ir (vL 0 Jw rfl (ob hk λhl hm hn=>CS Tryz.call74 (Qb F t.fBody hl hm) rfl (wa rfl (Aw (Az ?_))))))));obtain rfl:=A2 hn;exact Ay (Bw QY (AT rfl)) (sS sN) ⟨rfl,rfl⟩
theorem S5  (r:Ap)(h:Rv=some r):Fn Tryz.prog GE 8 [] [] (λR H=>∃u0:Nat,∃u0_1:Value,R=rP u0 0∧H=[.blk u0 [rB r.fMade,rv u0_1] 57,.row u0_1 68 6 (AD Ae r.fTimers)]):=by
 refine enter (n:=3) Tryz.func8 rfl Tryz.ntmps8 rfl (λw Z=>?_);unfold Rv at h;refine Al (wa rfl (BW (wv (r:=Bf [rB true,rv (.slice none 0 0)]) (Mn rfl rfl) (B3 rfl rfl (λb1=>?_)))));refine wa rfl (Aw (Az (WK.nilrow (e:=68) (sz:=6) (Cn (H2:=[.blk b1 [rB true,rv (.slice none 0 0)] 57,.row (.slice none 0 0                                                                    ) 68 6 (AD Ae ([]:List As))]) ((Ar (i:=1) rfl).trans (Uf _ (Ug _))) ?_))));obtain rfl:=A2 h;exact Ay (Bw Tryz.results8 (AT rfl)) (sC (sC sN)) ⟨b1,(.slice none 0 0                                                                    ),rfl,rfl⟩
theorem Lj (F:Nat)(hb:Nat)(ha:Value)(q:Ap)(id:Ak)(r:Int×Ap)(h:JG F q id=some r):Fn Tryz.prog GE 53 [rP hb 0,rS id] [.blk hb [rB q.fMade,rv ha] 57,.row ha 68 6 (AD Ae q.fTimers)] (λR H=>∃w0_1:Value,R=Aq r.1∧H=[.blk hb [rB r.2.fMade,rv w0_1] 57,.row w0_1 68 6 (AD Ae r.2.fTimers)]):=by
 refine enter (n:=27) Tryz.func53 rfl Tryz.ntmps53 rfl (λw Z=>?_);unfold JG at h;refine Al (wa rfl (Aw (At (Al (wm rfl (wv (AU rfl) (vF DG rfl Et (vL 0 Gg rfl (wv (BF (ys:=q.fTimers) (enc:=Ae) (i:=1) DY rfl rfl) (wv (r:=Aq 0) (A3 rfl) (Aw (AJ (ob h λhj hk hi=>Bs (S:=Nat×(Int)×(Unit)) (V:=(Unit)×(Unit)) 0 (λσ=>Cu (λσ=>D6 q id σ) σ.1 σ.2.1=some hj) (λσ=>[(0,rP hb 0),(1,rS id),(4,Aq 0),(10,Aq (q.fTimers.length:Int)),(11,Aq σ.2.1)]) (λσ=>[.blk hb [rB q.fMade,rv ha] 57,.row ha 68 6 (AD Ae q.fTimers)]) (λσ=>σ.1) (F,0,()) hk (AF.c5 rfl rfl rfl rfl rfl AF.nil) (sC (sC sN)) (λσ=>HZ q =some r) (λσ=>[(4,Aq 0)]) (λσ=>[.blk hb [rB q.fMade,rv ha] 57,.row ha 68 6 (AD Ae q.fTimers)]) ?_ ?_)))))))))))))
 ·rintro⟨h1,hd,⟨⟩⟩ hl;refine Ca (l':=[(0,rP hb 0),(1,rS id),(4,Aq 0),(10,Aq (q.fTimers.length:Int)),(11,Aq hd)]) (H':=[.blk hb [rB q.fMade,rv ha] 57,.row ha 68 6 (AD Ae q.fTimers)]) rfl rfl ?_;obtain⟨hm,rfl,hn,he,hh⟩:=CJ hl;replace he:D6 q id hd=some hn:=he;unfold D6 at he;refine Al (wv (C0 rfl rfl) (Aw (At (cz he rfl (λho hp=>?_) (λho hq=>?_)))))
  ·refine A0 (AQ (At (AJ (Al (wm rfl (wa rfl (BW (wm rfl (wv (AU rfl) (vF DG rfl Et (vL 0 Gg rfl (wm rfl (ck hp λhf hr=>wv (r:=rv (C6 6 ha (Ci hd) 0)) (CF (i:=1) DY Ip rfl rfl rfl (AW hf)) (wv (r:=rv (C6 6 ha (Ci hd) 0)) (BQ (k:=1) LF rfl BP rfl (AW hf) rfl rfl rfl) (wv (r:=rv (C6 6 ha (Ci hd) 0)) (BQ (k:=1) BL rfl D5 rfl (AW hf) rfl rfl rfl) (wv (r:=rS (((Aj q.fTimers hd).fTimer).fID)) (Dq (enc:=Ae) (ys:=q.fTimers) (i:=1) (j:=hd) DF rfl rfl hf rfl) (wm rfl (wv (EB rfl rfl) (Aw (cz hr rfl (λhs ht=>?_) (λhs hu=>?_)))))))))))))))))))))
   ·refine Al (wm rfl (wa rfl (Aw (Az (A9 (Af (Af (Bi ?_))))))));have hw:=BC ht hh hi;refine A9 (Af ?_);obtain rfl:=A2 hw;exact Ay (Bw Tryz.results53 (AT rfl)) (sC (sC sN)) ⟨ha,rfl,rfl⟩
   ·refine A0 (AO (AQ (An (ck hu λhx hy=>wv (Bt rfl rfl hx) (wm rfl (Am ?_))))));have hz:=Be hy hh;exact A5 (AE (hm,hd+1,()) ⟨hz,Ur _⟩ (AF.c5 rfl rfl rfl rfl rfl AF.nil) (sC (sC sN)))
  ·refine Bu (A4 ?_);have h0:=BY hq hh hi;exact A4 (Bb (AE ((),()) h0 (AF.c rfl AF.nil) (sC (sC sN))))
 ·rintro⟨⟨⟩,⟨⟩⟩ hg;refine C7 (l':=[(4,Aq 0)]) (H':=[.blk hb [rB q.fMade,rv ha] 57,.row ha 68 6 (AD Ae q.fTimers)]) rfl rfl ?_;replace hg:HZ q =some r:=hg;unfold HZ at hg;refine Ba (AQ (Al (wv (r:=Aq (-1)) (AK rfl) (Aw (Az ?_)))));obtain rfl:=A2 hg;exact Ay (Bw Tryz.results53 (AT rfl)) (sC (sC sN)) ⟨ha,rfl,rfl⟩
theorem OD (a:Ab)(b:Ab)(r:Bool)(h:E9 a b=some r):Fn Tryz.prog GE 54 [Bf (Ah a),Bf (Ah b)] [] (λR H=>R=rB r∧H=[]):=by
 refine enter (n:=24) Tryz.func54 rfl Tryz.ntmps54 rfl (λw Z=>?_);unfold E9 at h;refine Al (B3 rfl rfl (λb1=>?_));refine B3 rfl rfl (λb2=>?_);refine wa rfl (Aw (AA [(4,rB ((decide (a.fAt<b.fAt))||((decide (a.fAt=b.fAt))&&(Bz a.fID b.fID))))] [] ?_ ?_))
 ·refine An (vF BL rfl Cv (vL 1 CC rfl (vF BL rfl Cv (vL 0 CC rfl (wv (C0 rfl rfl) (wm rfl (AH (decide (a.fAt<b.fAt)) (λc3=>?_) (λc3=>?_))))))))
  ·refine wf c3 (wf c3 (wf c3 (wf c3 (wf c3 (wf c3 (wu (wu (wu (wu (wu (wf c3 (wv (r:=rB true) (Ao rfl c3 rfl) (wa rfl (Am ?_))))))))))))));exact BA c3
  ·refine wo c3 (vF BL rfl Cv (wo c3 (vL 1 CC rfl (wo c3 (vF BL rfl Cv (wo c3 (vL 0 CC rfl (wo c3 (wv (Bj rfl rfl) (wo c3 (wm rfl (AH (decide (a.fAt=b.fAt)) (λc4=>?_) (λc4=>?_)))))))))))))
   ·refine wo c4 (vF BL rfl D5 (wo c4 (vL 1 DF rfl (wo c4 (vF BL rfl D5 (wo c4 (vL 0 DF rfl (wo c4 (wv (Sg rfl rfl) (wo c3 (Eu rfl c4 rfl (DT rfl c3 rfl (wa rfl (Am ?_))))))))))))));exact BA (And.intro c3 c4)
   ·refine wf c4 (wf c4 (wf c4 (wf c4 (wf c4 (wo c3 (wv (r:=rB false) (A1 rfl c4 rfl) (DT rfl c3 rfl (wa rfl (Am ?_)))))))));exact BA (And.intro c3 c4)
 refine Az ?_;obtain rfl:=A2 h;exact Ay (Bw Tryz.results54 (AT rfl)) sN ⟨rfl,rfl⟩
theorem S4 (F:Nat)(hb:Nat)(hi:Value)(q:Ap)(t:Ab)(now:Int)(r:Int×Ap)(h:PU F q t now=some r):Fn Tryz.prog GE 32 [rP hb 0,Bf (Ah t),Aq now] [.blk hb [rB q.fMade,rv hi] 57,.row hi 68 6 (AD Ae q.fTimers)] (λR H=>∃w0_1:Value,R=Aq r.1∧H=[.blk hb [rB r.2.fMade,rv w0_1] 57,.row w0_1 68 6 (AD Ae r.2.fTimers)]):=by
 refine enter (n:=93) Tryz.func32 rfl Tryz.ntmps32 rfl (λw Z=>?_);unfold PU at h;refine Al (B3 rfl rfl (λb1=>?_));refine wa rfl (Aw (At (AA [(0,rP hb 0),(2,Aq now),(4,rP b1 0),(18,rB (!q.fMade))] [.blk b1 (Ah t) 31,.blk hb [rB q.fMade,rv hi] 57,.row hi 68 6 (AD Ae q.fTimers)] ?_ ?_)))
 ·refine An (wm rfl (wv (r:=rB false) (GD ⟨_,Ok⟩ rfl) (wm rfl (AG (b:=false) rfl rfl rfl (wm rfl (AG (b:=false) rfl rfl rfl (wv (AU rfl) (AG (b:=false) rfl rfl rfl (vF DG rfl ED (AG (b:=false) rfl rfl rfl (vL 1 L9 rfl (AG (b:=false) rfl rfl rfl (wv (BD rfl) (wv (r:=rB (!q.fMade)) (A1 (b:=false) rfl rfl rfl) (Am ?_)))))))))))))));exact wt
 refine cz h rfl (λc2 h3=>?_) (λc2 h4=>?_)
 ·refine Al (wa rfl (Aw (Az (Af ?_))));obtain rfl:=A2 h3;exact Ay (Bw Om (AT rfl)) (sS (sC (sC sN))) ⟨hi,rfl,rfl⟩
 ·refine A0 (AQ (Al (wv (Bo (i:=0) EE BP rfl rfl rfl rfl) (ob h4 λr5 e7 h6=>CS Tryz.call52 (PP F t r5 e7) rfl (wa rfl (Aw (At (Al (wm rfl (wv (Eb rfl rfl) (Aw (cz h6 rfl (λc8 h9=>?_) (λc8 hr=>?_)))))))))))))
  ·refine Al (wm rfl (wa rfl (Aw (Az (Af ?_)))));obtain rfl:=A2 h9;exact Ay (Bw Om (AT rfl)) (sS (sC (sC sN))) ⟨hi,rfl,rfl⟩
  ·refine A0 (AQ (At (AA [(0,rP hb 0),(4,rP b1 0),(35,rB ((decide (now<0))||((decide (1073741824<now))||(decide (t.fAt<now)))))] [.blk b1 (Ah t) 31,.blk hb [rB q.fMade,rv hi] 57,.row hi 68 6 (AD Ae q.fTimers)] ?_ ?_)))
   ·refine An (wm rfl (wv (C0 rfl rfl) (wm rfl (AH (decide (now<0)) (λhj=>?_) (λhj=>?_)))))
    ·refine wf hj (wf hj (wv (r:=rB true) (Ao rfl hj rfl) (wm rfl (wz rfl rfl (wz rfl rfl (wz rfl rfl (wz rfl rfl (wv (r:=rB true) (Ao (b:=true) rfl rfl rfl) (Am ?_)))))))));exact BA hj
    ·refine wo hj (wm rfl (wo hj (wv (Dl rfl rfl) (DT rfl hj rfl (wm rfl (AH (decide (1073741824<now)) (λhg=>?_) (λhg=>?_)))))))
     ·refine wf hg (wf hg (wf hg (wf hg (wv (r:=rB true) (Ao rfl hg rfl) (Am ?_)))));exact BA (And.intro hj hg)
     ·refine wo hg (vF BL rfl Cv (wo hg (vL 0 CC rfl (wo hg (wm rfl (wo hg (wv (C0 rfl rfl) (DT rfl hg rfl (Am ?_)))))))));exact BA (And.intro hj hg)
   refine cz hr rfl (λhs ht=>?_) (λhs hu=>?_)
   ·refine Al (wa rfl (Aw (Az (Af ?_))));obtain rfl:=A2 ht;exact Ay (Bw Om (AT rfl)) (sS (sC (sC sN))) ⟨hi,rfl,rfl⟩
   ·refine A0 (AQ (At (Al (wm rfl (vF BL rfl D5 (vL 0 DF rfl (ob hu λha hw hx=>Gw (Hr:=[.blk b1 (Ah t) 31]) Tryz.call53 (Lj F hb hi q t.fID ha hw) rfl ((Ar (i:=1) rfl).trans (Uf _ ((Ar (i:=1) rfl).trans (Uf _ (Ug _))))) rfl ?_)))))));rintro _ _ ⟨hf,rfl,rfl⟩;refine wv (G4 rfl rfl) (Aw (cz hx rfl (λc20 hy=>?_) (λc20 hz=>?_)))
    ·refine Al (wa rfl (Aw (Az (Af ?_))));obtain rfl:=A2 hy;exact Ay (Bw Om (AT rfl)) (sC (sC (sS sN))) ⟨hf,rfl,rfl⟩
    ·refine A0 (AQ (At (Al (wm rfl (wv (AU rfl) (vF DG rfl Et (vL 0 Gg rfl (wv (BF (ys:=ha.2.fTimers) (enc:=Ae) (i:=1) DY rfl rfl) (wv (Bj rfl rfl) (Aw (cz hz rfl (λh0 h1=>?_) (λh0 h2=>?_))))))))))))
     ·refine Al (wa rfl (Aw (Az (Af ?_))));obtain rfl:=A2 h1;exact Ay (Bw Om (AT rfl)) (sC (sC (sS sN))) ⟨hf,rfl,rfl⟩
     ·refine A0 (AQ (Al (wa rfl (Aw (At (AJ (ob h2 λh5 h7 h8=>Bs (S:=Nat×(Int)×(Unit)) (V:=(Int)×(Unit)) 0 (λσ=>Cu (λσ=>E8 t ha σ) σ.1 σ.2.1=some h5) (λσ=>[(0,rP hb 0),(4,rP b1 0),(8,Aq σ.2.1)]) (λσ=>[.blk hb [rB ha.2.fMade,rv hf] 57,.row hf 68 6 (AD Ae ha.2.fTimers),.blk b1 (Ah t) 31]) (λσ=>σ.1) (F,0,()) h7 (AF.c rfl (AF.c rfl (AF.c rfl AF.nil))) (sC (sC (sC sN))) (λσ=>HU t ha σ.1=some r) (λσ=>[(0,rP hb 0),(4,rP b1 0),(8,Aq σ.1)]) (λσ=>[.blk hb [rB ha.2.fMade,rv hf] 57,.row hf 68 6 (AD Ae ha.2.fTimers),.blk b1 (Ah t) 31]) ?_ ?_)))))))
      ·rintro⟨hW,he,⟨⟩⟩ hA;refine Ca (l':=[(0,rP hb 0),(4,rP b1 0),(8,Aq he)]) (H':=[.blk hb [rB ha.2.fMade,rv hf] 57,.row hf 68 6 (AD Ae ha.2.fTimers),.blk b1 (Ah t) 31]) rfl rfl ?_;obtain⟨hB,rfl,hC,hl,ho⟩:=CJ hA;replace hl:E8 t ha he=some hC:=hl;unfold E8 at hl;refine At (ck hl λhn hD=>ck hD λhE hG=>AA [(0,rP hb 0),(4,rP b1 0),(8,Aq he),(47,Aq he),(48,rP hb 0),(49,rP hb 0),(50,rP hb 1),(51,rv hf),(52,Aq (ha.2.fTimers.length:Int)),(53,rB (decide (he<(ha.2.fTimers.length:Int)))),(54,rB (decide (he<(ha.2.fTimers.length:Int)))),(65,rB ((decide (he<(ha.2.fTimers.length:Int)))&&(ov (E9 ((Aj ha.2.fTimers he).fTimer) t))))] [.blk hb [rB ha.2.fMade,rv hf] 57,.row hf 68 6 (AD Ae ha.2.fTimers),.blk b1 (Ah t) 31] ?_ ?_)
       ·refine AH (decide (he<(ha.2.fTimers.length:Int))) (λhd=>?_) (λhd=>?_)
        ·refine It [0,4,8] [⟨[],Aq he,0⟩,⟨[],rP hb 0,0⟩,⟨[1],rP hb 0,0⟩,⟨[2],rP hb 1,0⟩,⟨[3],rv hf,1⟩,⟨[4],Aq (ha.2.fTimers.length:Int),1⟩,⟨[0,5],rB (decide (he<(ha.2.fTimers.length:Int))),0⟩,⟨[6],rB (decide (he<(ha.2.fTimers.length:Int))),0⟩,⟨[7],rP hb 0,0⟩,⟨[8,7],rP hb 0,0⟩,⟨[9,7],rP hb 1,0⟩,⟨[10,7],rv hf,1⟩,⟨[7],Aq he,0⟩,⟨[11,12,7],rv (C6 6 hf (Ci he) 0),1⟩,⟨[13,7],rv (C6 6 hf (Ci he) 0),1⟩,⟨[14,7],Bf (Ah ((Aj ha.2.fTimers he).fTimer)),1⟩,⟨[7],Bf (Ah t),1⟩,⟨[15,16,7],rB (ov (E9 ((Aj ha.2.fTimers he).fTimer) t)),0⟩,⟨[7,17],rB (ov (E9 ((Aj ha.2.fTimers he).fTimer) t)),0⟩] [47,48,49,50,51,52,53,54,55,56,57,58,59,60,61,62,63,64,65,0,4,8] ?_ ?_
         ·refine oq (A3 rfl) (oq (A3 rfl) (oq (AU rfl) (oq (Bg DG rfl Et rfl rfl) (of (CE (i:=0) Gg rfl rfl rfl) (of (BF (ys:=ha.2.fTimers) (enc:=Ae) (i:=1) DY rfl rfl) (oq (C0 rfl rfl) (oq (A3 rfl) (on hd (oq (A3 rfl) (on hd (oq (AU rfl) (on hd (oq (Bg DG rfl Et rfl rfl) (on hd (of (CE (i:=0) Gg rfl rfl rfl) (on hd (oq (A3 rfl) (on hd (of (CF (i:=1) DY Ip rfl rfl rfl (AW (CA hn hd))) (on hd (of (BQ (k:=1) LF rfl BP rfl (AW (CA hn hd)) rfl rfl rfl) (on hd (of (If (enc:=Ae) (ys:=ha.2.fTimers) (i:=1) (j:=he) EE BP rfl rfl (CA hn hd) rfl rfl) ?_)))))))))))))))))))))));refine on hd (of (Bo (i:=2) EE BP rfl rfl rfl rfl) (K6 rfl (λH=>D7 (b:=decide (he<(ha.2.fTimers.length:Int))) rfl rfl hd (NM Tryz.call54 (OD ((Aj ha.2.fTimers he).fTimer) t (ov (E9 ((Aj ha.2.fTimers he).fTimer) t)) (E0 (CA hE hd))) rfl)) ?_));refine oq (Ao rfl hd rfl) ?_;exact EW
         exact BA hd
        ·refine It [0,4,8] [⟨[],Aq he,0⟩,⟨[],rP hb 0,0⟩,⟨[1],rP hb 0,0⟩,⟨[2],rP hb 1,0⟩,⟨[3],rv hf,1⟩,⟨[4],Aq (ha.2.fTimers.length:Int),1⟩,⟨[0,5],rB (decide (he<(ha.2.fTimers.length:Int))),0⟩,⟨[6],rB (decide (he<(ha.2.fTimers.length:Int))),0⟩,⟨[7],rv undef,0⟩,⟨[8,7],rv undef,0⟩,⟨[9,7],rv undef,0⟩,⟨[10,7],rv undef,0⟩,⟨[7],rv undef,0⟩,⟨[11,12,7],rv undef,0⟩,⟨[13,7],rv undef,0⟩,⟨[14,7],rv undef,0⟩,⟨[7],rv undef,0⟩,⟨[15,16,7],rv undef,0⟩,⟨[7,17],rB false,0⟩] [47,48,49,50,51,52,53,54,55,56,57,58,59,60,61,62,63,64,65,0,4,8] ?_ ?_
         ·refine oq (A3 rfl) (oq (A3 rfl) (oq (AU rfl) (oq (Bg DG rfl Et rfl rfl) (of (CE (i:=0) Gg rfl rfl rfl) (of (BF (ys:=ha.2.fTimers) (enc:=Ae) (i:=1) DY rfl rfl) (oq (C0 rfl rfl) (oq (A3 rfl) (oz hd (oz hd (oz hd (oz hd (oz hd (oz hd (oz hd (oz hd (oz hd (oz hd (oq (A1 (b:=decide (he<(ha.2.fTimers.length:Int))) rfl hd rfl) ?_))))))))))))))))));exact EW
         exact BA hd
       refine cz hG rfl (λhH hI=>?_) (λhH hJ=>?_)
       ·refine A0 (AQ (AJ (An (wm rfl (ck hI λhK hL=>wv (Bt rfl rfl hK) (wa rfl (Am (AO ?_))))))));have hN:=Be hL ho;exact A5 (AE (hB,he+1,()) ⟨hN,Ur _⟩ (AF.c rfl (AF.c rfl (AF.c rfl AF.nil))) (sC (sC (sC sN))))
       ·refine Bu (A4 ?_);have hO:=BY hJ ho h8;exact A4 (Bb (AE (he,()) hO (AF.c rfl (AF.c rfl (AF.c rfl AF.nil))) (sC (sC (sC sN)))))
      ·rintro⟨hh,⟨⟩⟩ hm;refine C7 (l':=[(0,rP hb 0),(4,rP b1 0),(8,Aq hh)]) (H':=[.blk hb [rB ha.2.fMade,rv hf] 57,.row hf 68 6 (AD Ae ha.2.fTimers),.blk b1 (Ah t) 31]) rfl rfl ?_;replace hm:HU t ha hh=some r:=hm;unfold HU at hm;refine Ba (AQ (Al (wa rfl (BW (wm rfl (wm rfl (wv (AU rfl) (vF DG rfl Et (vL 0 Gg rfl (wm rfl (WL.freeze (i:=1) rfl (WL.up (d:=72) (r:=AY 6 (AD Ae ha.2.fTimers)) rfl (Up.fact (i:=0) rfl) (ck hm λhp hP=>wv (r:=AY 6 (AD Ae (List.take (Ci hh) ha.2.fTimers))) (JO DY Ip rfl rfl hp) (WL.nilrow (e:=68) (sz:=6) (ck hP λhQ hR=>Exists.elim JX λinf hinf=>CW (xs:=([]:List As)) (ys:=List.take (Ci hh) ha.2.fTimers) (enc:=Ae) (i:=0) DY hinf.1 hinf.2.1 hinf.2.2.1 hinf.2.2.2 rfl rfl rfl rfl rfl (MM.z rfl rfl) BO Ch hQ rfl (λhX=>?_))))))))))))))));refine wa rfl (BW (wm rfl (wv (Bo (i:=3) EE BP rfl rfl rfl rfl) (wv (r:=Bf [rS t.fID,Aq t.fAt,rS t.fTenant,rS t.fSource,AY 4 (AD Ad t.fBody),rB false]) (Ml rfl) (Co (ys:=([(As.mk t false)]:List As)) (enc:=Ae) (css:=[[rS t.fID,Aq t.fAt,rS t.fTenant,rS t.fSource,AY 4 (AD Ad t.fBody),rB false]]) (xs:=[.tmp 78]) DY Ip Tryz.zeroValue68 rfl rfl rfl ⟨QR.agg ⟨Up.refl _,Up.refl _,Up.refl _,Up.refl _,Up.refl _,Up.refl _,trivial⟩,trivial⟩ rfl BO rfl rfl rfl (λhq=>?_))))));refine ck hR λhS hT=>Exists.elim JX λinf hinf=>CW (xs:=([]:List As)++(List.take (Ci hh) ha.2.fTimers)) (ys:=([(As.mk t false)]:List As)) (enc:=Ae) (i:=1) DY hinf.1 hinf.2.1 hinf.2.2.1 hinf.2.2.2 rfl rfl rfl rfl rfl (MM.w (i:=0) rfl rfl) BO Ch hS rfl (λhY=>?_);refine wa rfl (BW (wm rfl (wm rfl (wv (AU rfl) (vF DG rfl Et (vL 3 Gg rfl (wm rfl (WL.up (d:=85) (r:=AY 6 (AD Ae ha.2.fTimers)) rfl (Up.fact (i:=2) rfl) (wv (r:=AY 6 (AD Ae (List.drop (Ci hh) ha.2.fTimers))) (JN DY Ip rfl rfl hp) (ck hT λhU hV=>Exists.elim JX λinf hinf=>CW (xs:=(([]:List As)++(List.take (Ci hh) ha.2.fTimers))++([(As.mk t false)]:List As)) (ys:=List.drop (Ci hh) ha.2.fTimers) (enc:=Ae) (i:=0) DY hinf.1 hinf.2.1 hinf.2.2.1 hinf.2.2.2 rfl rfl rfl rfl rfl (MM.z rfl rfl) BO Ch hU rfl (λhk=>?_)))))))))));refine wa rfl (BW (wm rfl (wm rfl (wv (AU rfl) (vF DG rfl Et (CP (i:=3) Et rfl rfl (Ln (i:=0) rfl) rfl rfl (cs':=[rB ha.2.fMade,rv hk]) rfl (H':=[.row hk 68 6 (AD Ae (((([]:List As)++(List.take (Ci hh) ha.2.fTimers))++([(As.mk t false)]:List As))++(List.drop (Ci hh) ha.2.fTimers))),.row (.slice (some ⟨hq,0,none⟩) 1 1) 68 6 (AD Ae ([(As.mk t false)]:List As)),.fact hf (AY 6 (AD Ae ha.2.fTimers)),.blk hb [rB ha.2.fMade,rv hk] 57,.blk b1 (Ah t) 31]) rfl (BW (wa rfl (Aw (Az (Cn (H2:=[.blk hb [rB ha.2.fMade,rv hk] 57,.row hk 68 6 (AD Ae (((([]:List As)++(List.take (Ci hh) ha.2.fTimers))++([(As.mk t false)]:List As))++(List.drop (Ci hh) ha.2.fTimers))),.row (.slice (some ⟨hq,0,none⟩) 1 1) 68 6 (AD Ae ([(As.mk t false)]:List As)),.fact hf (AY 6 (AD Ae ha.2.fTimers)),.blk b1 (Ah t) 31]) ((Ar (i:=3) rfl).trans (Uf _ (Ug _))) ?_)))))))))));obtain rfl:=A2 hV;exact Ay (Bw Om (AT rfl)) (sC (sC (sS (sS (sS sN))))) ⟨hk,rfl,rfl⟩
theorem K4 (hb:Nat)(hd:Value)(q:Ap)(pos:Int)(r:Ap)(h:GR q pos=some r):Fn Tryz.prog GE 55 [rP hb 0,Aq pos] [.blk hb [rB q.fMade,rv hd] 57,.row hd 68 6 (AD Ae q.fTimers)] (λR H=>∃w0_1:Value,R=rv (.tuple #[])∧H=[.blk hb [rB r.fMade,rv w0_1] 57,.row w0_1 68 6 (AD Ae r.fTimers)]):=by
 refine enter (n:=26) Tryz.func55 rfl Tryz.ntmps55 rfl (λw Z=>?_);unfold GR at h;refine Al (wa rfl (BW (wm rfl (wm rfl (wv (AU rfl) (vF DG rfl Et (vL 0 Gg rfl (wm rfl (WL.freeze (i:=1) rfl (WL.up (d:=9) (r:=AY 6 (AD Ae q.fTimers)) rfl (Up.fact (i:=0) rfl) (ck h λg1 h2=>wv (r:=AY 6 (AD Ae (List.take (Ci pos) q.fTimers))) (JO DY Ip rfl rfl g1) (WL.nilrow (e:=68) (sz:=6) (ck h2 λg4 h5=>Exists.elim JX λinf hinf=>CW (xs:=([]:List As)) (ys:=List.take (Ci pos) q.fTimers) (enc:=Ae) (i:=0) DY hinf.1 hinf.2.1 hinf.2.2.1 hinf.2.2.2 rfl rfl rfl rfl rfl (MM.z rfl rfl) BO Ch g4 rfl (λv3=>?_))))))))))))));refine wa rfl (BW (wm rfl (wm rfl (wv (AU rfl) (vF DG rfl Et (vL 2 Gg rfl (wm rfl (ck h5 λg6 h7=>wv (Bt rfl rfl g6) (WL.up (d:=17) (r:=AY 6 (AD Ae q.fTimers)) rfl (Up.fact (i:=1) rfl) (ck h7 λg8 h9=>wv (r:=AY 6 (AD Ae (List.drop (Ci (pos+1)) q.fTimers))) (JN DY Ip rfl rfl g8) (ck h9 λhe hf=>Exists.elim JX λinf hinf=>CW (xs:=([]:List As)++(List.take (Ci pos) q.fTimers)) (ys:=List.drop (Ci (pos+1)) q.fTimers) (enc:=Ae) (i:=0) DY hinf.1 hinf.2.1 hinf.2.2.1 hinf.2.2.2 rfl rfl rfl rfl rfl (MM.z rfl rfl) BO Ch he rfl (λha=>?_))))))))))));refine wa rfl (Aw (An (wm rfl (wm rfl (wv (AU rfl) (vF DG rfl Et (CP (i:=2) Et rfl rfl (Ln (i:=0) rfl) rfl rfl (cs':=[rB q.fMade,rv ha]) rfl (H':=[.row ha 68 6 (AD Ae ((([]:List As)++(List.take (Ci pos) q.fTimers))++(List.drop (Ci (pos+1)) q.fTimers))),.fact hd (AY 6 (AD Ae q.fTimers)),.blk hb [rB q.fMade,rv ha] 57]) rfl (Am (Cn (H2:=[.blk hb [rB q.fMade,rv ha] 57,.row ha 68 6 (AD Ae ((([]:List As)++(List.take (Ci pos) q.fTimers))++(List.drop (Ci (pos+1)) q.fTimers))),.fact hd (AY 6 (AD Ae q.fTimers))]) ((Ar (i:=2) rfl).trans (Uf _ (Ug _))) ?_)))))))));obtain rfl:=A2 hf;exact P3 (TU Tryz.results55) (sC (sC (sS sN))) ⟨ha,rfl,rfl⟩
theorem S6 (F:Nat)(hd:Nat)(hb:Value)(q:Ap)(now:Int)(r:(List Ab)×Ap)(h:Qa F q now=some r):Fn Tryz.prog GE 11 [rP hd 0,Aq now] [.blk hd [rB q.fMade,rv hb] 57,.row hb 68 6 (AD Ae q.fTimers)] (λR H=>∃u0:Value,∃w0_1:Value,R=rv u0∧H=[.row u0 31 5 (AD Ah r.1),.blk hd [rB r.2.fMade,rv w0_1] 57,.row w0_1 68 6 (AD Ae r.2.fTimers)]):=by
 refine enter (n:=55) Tryz.func11 rfl Tryz.ntmps11 rfl (λw Z=>?_);unfold Qa at h;refine Al (wa rfl (Aw (At (AA [(0,rP hd 0),(1,Aq now),(15,rB (!q.fMade))] [.blk hd [rB q.fMade,rv hb] 57,.row hb 68 6 (AD Ae q.fTimers)] ?_ ?_))))
 ·refine An (wm rfl (wv (r:=rB false) (GD ⟨_,Ok⟩ rfl) (wm rfl (AG (b:=false) rfl rfl rfl (wm rfl (AG (b:=false) rfl rfl rfl (wv (AU rfl) (AG (b:=false) rfl rfl rfl (vF DG rfl ED (AG (b:=false) rfl rfl rfl (vL 0 L9 rfl (AG (b:=false) rfl rfl rfl (wv (BD rfl) (wv (r:=rB (!q.fMade)) (A1 (b:=false) rfl rfl rfl) (Am ?_)))))))))))))));exact wt
 refine cz h rfl (λc1 h2=>?_) (λc1 h3=>?_)
 ·refine Al (wa rfl (Aw (Az (Af (WK.nilrow (e:=31) (sz:=5) ?_)))));obtain rfl:=A2 h2;exact Ay (Bw Tryz.results11 (AT rfl)) (sC (sC (sC sN))) ⟨(.slice none 0 0                               ),hb,rfl,rfl⟩
 ·refine A0 (AQ (Al (wa rfl (Aw (At (Al (wm rfl (wv (AU rfl) (vF DG rfl Et (vL 0 Gg rfl (wv (BF (ys:=q.fTimers) (enc:=Ae) (i:=1) DY rfl rfl) (wv (r:=Aq 0) (A3 rfl) (Aw (AJ (WC.nilrow (e:=31) (sz:=5) (HF (H2:=[.blk hd [rB q.fMade,rv hb] 57,.row hb 68 6 (AD Ae q.fTimers),.row (.slice none 0 0                               ) 31 5 (AD Ah ([]:List Ab))]) ((Ar (i:=1) rfl).trans (Uf _ ((Ar (i:=1) rfl).trans (Uf _ (Ug _))))) (ob h3 λhx hy hz=>Bs (S:=Nat×((List Ab)×Int×(List As))×(Value)) (V:=((List Ab)×(List As))×(Value)) 0 (λσ=>Cu (λσ=>Gl q now σ.1 σ.2.1 σ.2.2) σ.1 σ.2.1=some hx) (λσ=>[(0,rP hd 0),(1,Aq now),(5,rv σ.2.2),(20,Aq (q.fTimers.length:Int)),(21,Aq σ.2.1.2.1)]) (λσ=>[.blk hd [rB q.fMade,rv hb] 57,.row hb 68 6 (AD Ae σ.2.1.2.2),.row σ.2.2 31 5 (AD Ah σ.2.1.1)]) (λσ=>σ.1) (F,(([]:List Ab),0,q.fTimers),(.slice none 0 0                               )) hy (AF.c5 rfl rfl rfl rfl rfl AF.nil) (sC (sC (sC sN))) (λσ=>Jf q σ.1.1 σ.1.2=some r) (λσ=>[(5,rv σ.2)]) (λσ=>[.blk hd [rB q.fMade,rv hb] 57,.row hb 68 6 (AD Ae σ.1.2),.row σ.2 31 5 (AD Ah σ.1.1)]) ?_ ?_)))))))))))))))))
  ·rintro⟨hN,⟨hg,ha,he⟩,hi⟩ h0;refine Ca (l':=[(0,rP hd 0),(1,Aq now),(5,rv hi),(20,Aq (q.fTimers.length:Int)),(21,Aq ha)]) (H':=[.blk hd [rB q.fMade,rv hb] 57,.row hb 68 6 (AD Ae he),.row hi 31 5 (AD Ah hg)]) rfl rfl ?_;obtain⟨h1,rfl,hn,hj,hu⟩:=CJ h0;replace hj:Gl q now hg ha he=some hn:=hj;unfold Gl at hj;refine Al (wv (C0 rfl rfl) (Aw (At (cz hj rfl (λh4 h5=>?_) (λh4 h6=>?_)))))
   ·refine A0 (AQ (CV (S:=((List Ab)×(List As))×(Value)) (λσ=>Gk ha σ.1.1 σ.1.2=some hn) (λσ=>[(0,rP hd 0),(1,Aq now),(5,rv σ.2),(6,Aq ha),(20,Aq (q.fTimers.length:Int)),(21,Aq ha),(22,rB (decide (ha<(q.fTimers.length:Int)))),(23,Aq ha),(24,rP hd 0),(25,rP hd 0),(26,rP hd 1),(27,rv hb),(28,Aq ha),(32,Aq (((Aj he ha).fTimer).fAt)),(33,Aq now),(34,rB (decide ((((Aj he ha).fTimer).fAt)≤now)))]) (λσ=>[.blk hd [rB q.fMade,rv hb] 57,.row hb 68 6 (AD Ae σ.1.2),.row σ.2 31 5 (AD Ah σ.1.1)]) ?_ ?_))
    ·refine AJ (Al (wm rfl (wa rfl (BW (wm rfl (wv (AU rfl) (vF DG rfl Et (vL 0 Gg rfl (wm rfl (ck h5 λhh h7=>wv (r:=rv (C6 6 hb (Ci ha) 0)) (CF (i:=1) DY Ip rfl rfl rfl (AW hh)) (wv (r:=rv (C6 6 hb (Ci ha) 0)) (BQ (k:=1) LF rfl BP rfl (AW hh) rfl rfl rfl) (wv (r:=rv (C6 6 hb (Ci ha) 1)) (BQ (k:=1) BL rfl Cv rfl (AW hh) rfl rfl rfl) (wv (r:=Aq (((Aj he ha).fTimer).fAt)) (Dq (enc:=Ae) (ys:=he) (i:=1) (j:=ha) CC rfl rfl hh rfl) (wm rfl (wv (Ie rfl rfl) (Aw (cz h7 rfl (λh8 h9=>?_) (λh8 hA=>?_))))))))))))))))))
     ·refine Al (wm rfl (wv (AU rfl) (vF DG rfl Et (vL 0 Gg rfl (wm rfl (wv (r:=rv (C6 6 hb (Ci ha) 0)) (CF (i:=1) DY Ip rfl rfl rfl (AW hh)) (wv (r:=rv (C6 6 hb (Ci ha) 5)) (BQ (k:=1) LF rfl ED rfl (AW hh) rfl rfl rfl) (Hu (enc:=Ae) (ys:=he) (y':=(As.mk ((Aj he ha).fTimer) true)) (i:=1) (j:=ha) ED rfl rfl (CI rfl) rfl hh rfl rfl (H':=[.blk hd [rB q.fMade,rv hb] 57,.row hb 68 6 (AD Ae (List.set he (Ci ha) (As.mk ((Aj he ha).fTimer) true))),.row hi 31 5 (AD Ah hg)]) rfl (bd h9 λhf hB hC=>?_)))))))));rw[← hB];refine Aw (An (wm rfl (wm rfl (wv (AU rfl) (vF DG rfl Et (vL 0 Gg rfl (wm rfl (ck hC λho hD=>wv (r:=rv (C6 6 hb (Ci ha) 0)) (CF (i:=1) DY Ip rfl rfl rfl (AW ho)) (wv (r:=rv (C6 6 hb (Ci ha) 0)) (BQ (k:=1) LF rfl BP rfl (AW ho) rfl rfl rfl) (wv (r:=Bf (Ah ((Aj hf ha).fTimer))) (If (enc:=Ae) (ys:=hf) (i:=1) (j:=ha) EE BP rfl rfl ho rfl rfl) (Co (ys:=([((Aj hf ha).fTimer)]:List Ab)) (enc:=Ah) (css:=[[rS (((Aj hf ha).fTimer).fID),Aq (((Aj hf ha).fTimer).fAt),rS (((Aj hf ha).fTimer).fTenant),rS (((Aj hf ha).fTimer).fSource),AY 4 (AD Ad (((Aj hf ha).fTimer).fBody))]]) (xs:=[.tmp 50]) DZ BP MT rfl rfl rfl ⟨QR.agg ⟨Up.refl _,Up.refl _,Up.refl _,Up.refl _,Up.refl _,trivial⟩,trivial⟩ rfl C2 rfl rfl rfl (λhE=>?_))))))))))));refine ck hD λhG hH=>Exists.elim Ns λinf hinf=>CW (xs:=hg) (ys:=([((Aj hf ha).fTimer)]:List Ab)) (enc:=Ah) (i:=3) DZ hinf.1 hinf.2.1 hinf.2.2.1 hinf.2.2.2 rfl rfl rfl rfl rfl (MM.w (i:=0) rfl rfl) C2 DB hG rfl (λhw=>?_);exact wa rfl (Am (AO (Cn (H2:=[.blk hd [rB q.fMade,rv hb] 57,.row hb 68 6 (AD Ae hf),.row hw 31 5 (AD Ah (hg++([((Aj hf ha).fTimer)]:List Ab))),.row (.slice (some ⟨hE,0,none⟩) 1 1) 31 5 (AD Ah ([((Aj hf ha).fTimer)]:List Ab))]) ((Ar (i:=2) rfl).trans (Uf _ ((Ar (i:=2) rfl).trans (Uf _ (Ug _))))) (A5 (AE ((hg++([((Aj hf ha).fTimer)]:List Ab),hf),hw) hH (AF.c rfl (AF.c5 rfl rfl rfl rfl rfl (AF.c5 rfl rfl rfl rfl rfl (AF.c5 rfl rfl rfl rfl rfl AF.nil)))) (sC (sC (sC (sS sN)))))))))
     ·exact A0 (AO (A5 (AE ((hg,he),hi) hA (AF.c rfl (AF.c5 rfl rfl rfl rfl rfl (AF.c5 rfl rfl rfl rfl rfl (AF.c5 rfl rfl rfl rfl rfl AF.nil)))) (sC (sC (sC sN))))))
    ·rintro⟨⟨hp,hq⟩,hr⟩ hk;refine Ca (l':=[(0,rP hd 0),(1,Aq now),(5,rv hr),(6,Aq ha),(20,Aq (q.fTimers.length:Int)),(21,Aq ha),(22,rB (decide (ha<(q.fTimers.length:Int)))),(23,Aq ha),(24,rP hd 0),(25,rP hd 0),(26,rP hd 1),(27,rv hb),(28,Aq ha),(32,Aq (((Aj he ha).fTimer).fAt)),(33,Aq now),(34,rB (decide ((((Aj he ha).fTimer).fAt)≤now)))]) (H':=[.blk hd [rB q.fMade,rv hb] 57,.row hb 68 6 (AD Ae hq),.row hr 31 5 (AD Ah hp)]) rfl rfl ?_;replace hk:Gk ha hp hq=some hn:=hk;unfold Gk at hk;refine An (ck hk λhI hJ=>wv (Bt rfl rfl hI) (wm rfl (Am ?_)));have hK:=Be hJ hu;exact A5 (AE (h1,(hp,ha+1,hq),hr) ⟨hK,Ur _⟩ (AF.c5 rfl rfl rfl rfl rfl AF.nil) (sC (sC (sC sN))))
   ·refine Bu (A4 ?_);have hL:=BY h6 hu hz;exact A4 (Bb (AE ((hg,he),hi) hL (AF.c rfl AF.nil) (sC (sC (sC sN)))))
  ·rintro⟨⟨hs,ht⟩,hl⟩ hm;refine C7 (l':=[(5,rv hl)]) (H':=[.blk hd [rB q.fMade,rv hb] 57,.row hb 68 6 (AD Ae ht),.row hl 31 5 (AD Ah hs)]) rfl rfl ?_;replace hm:Jf q hs ht=some r:=hm;unfold Jf at hm;refine Ba (AQ (Al (wm rfl (wa rfl (Aw (Az (Cn (H2:=[.row hl 31 5 (AD Ah hs),.blk hd [rB q.fMade,rv hb] 57,.row hb 68 6 (AD Ae ht)]) ((Ar (i:=2) rfl).trans (Uf _ (Ug _))) ?_)))))));obtain rfl:=A2 hm;exact Ay (Bw Tryz.results11 (AT rfl)) (sC (sC (sC sN))) ⟨hl,hb,rfl,rfl⟩
theorem S7 (F:Nat)(ha:Nat)(hb:Value)(q:Ap)(id:Ak)(r:Int×Ap)(h:Qc F q id=some r):Fn Tryz.prog GE 33 [rP ha 0,rS id] [.blk ha [rB q.fMade,rv hb] 57,.row hb 68 6 (AD Ae q.fTimers)] (λR H=>∃w0_1:Value,R=Aq r.1∧H=[.blk ha [rB r.2.fMade,rv w0_1] 57,.row w0_1 68 6 (AD Ae r.2.fTimers)]):=by
 refine enter (n:=23) Tryz.func33 rfl Tryz.ntmps33 rfl (λw Z=>?_);unfold Qc at h;refine Al (wa rfl (Aw (At (AA [(0,rP ha 0),(1,rS id),(14,rB (!q.fMade))] [.blk ha [rB q.fMade,rv hb] 57,.row hb 68 6 (AD Ae q.fTimers)] ?_ ?_))))
 ·refine An (wm rfl (wv (r:=rB false) (GD ⟨_,Ok⟩ rfl) (wm rfl (AG (b:=false) rfl rfl rfl (wm rfl (AG (b:=false) rfl rfl rfl (wv (AU rfl) (AG (b:=false) rfl rfl rfl (vF DG rfl ED (AG (b:=false) rfl rfl rfl (vL 0 L9 rfl (AG (b:=false) rfl rfl rfl (wv (BD rfl) (wv (r:=rB (!q.fMade)) (A1 (b:=false) rfl rfl rfl) (Am ?_)))))))))))))));exact wt
 refine cz h rfl (λc1 h2=>?_) (λc1 h3=>?_)
 ·refine Al (wa rfl (Aw (Az (Af ?_))));obtain rfl:=A2 h2;exact Ay (Bw Tryz.results33 (AT rfl)) (sC (sC sN)) ⟨hb,rfl,rfl⟩
 ·refine A0 (AQ (Al (wm rfl (wm rfl (ob h3 λr4 e6 h5=>Gw (Hr:=[]) Tryz.call53 (Lj F ha hb q id r4 e6) rfl (Ug _) rfl ?_)))));rintro _ _ ⟨v7,rfl,rfl⟩;refine wa rfl (Aw (At (Al (wm rfl (wv (C0 rfl rfl) (Aw (cz h5 rfl (λc8 h9=>?_) (λc8 hd=>?_))))))))
  ·refine Al (wa rfl (Aw (Az (Af ?_))));obtain rfl:=A2 h9;exact Ay (Bw Tryz.results33 (AT rfl)) (sC (sC sN)) ⟨v7,rfl,rfl⟩
  ·refine A0 (AQ (Al (wm rfl (wm rfl (ob hd λhe hf hg=>Gw (Hr:=[]) Tryz.call55 (K4 ha v7 r4.2 r4.1 he hf) rfl (Ug _) rfl ?_)))));rintro _ _ ⟨hh,rfl,rfl⟩;refine BW (wa rfl (Aw (Az ?_)));obtain rfl:=A2 hg;exact Ay (Bw Tryz.results33 (AT rfl)) (sC (sC sN)) ⟨hh,rfl,rfl⟩
theorem OC (F:Nat)(ha:Nat)(hb:Value)(q:Ap)(id:Ak)(r:Int×Ap)(h:Ia F q id=some r):Fn Tryz.prog GE 34 [rP ha 0,rS id] [.blk ha [rB q.fMade,rv hb] 57,.row hb 68 6 (AD Ae q.fTimers)] (λR H=>∃w0_1:Value,R=Aq r.1∧H=[.blk ha [rB r.2.fMade,rv w0_1] 57,.row w0_1 68 6 (AD Ae r.2.fTimers)]):=by
 refine enter (n:=31) Tryz.func34 rfl Tryz.ntmps34 rfl (λw Z=>?_);unfold Ia at h;refine Al (wa rfl (Aw (At (AA [(0,rP ha 0),(1,rS id),(14,rB (!q.fMade))] [.blk ha [rB q.fMade,rv hb] 57,.row hb 68 6 (AD Ae q.fTimers)] ?_ ?_))))
 ·refine An (wm rfl (wv (r:=rB false) (GD ⟨_,Ok⟩ rfl) (wm rfl (AG (b:=false) rfl rfl rfl (wm rfl (AG (b:=false) rfl rfl rfl (wv (AU rfl) (AG (b:=false) rfl rfl rfl (vF DG rfl ED (AG (b:=false) rfl rfl rfl (vL 0 L9 rfl (AG (b:=false) rfl rfl rfl (wv (BD rfl) (wv (r:=rB (!q.fMade)) (A1 (b:=false) rfl rfl rfl) (Am ?_)))))))))))))));exact wt
 refine cz h rfl (λc1 h2=>?_) (λc1 h3=>?_)
 ·refine Al (wa rfl (Aw (Az (Af ?_))));obtain rfl:=A2 h2;exact Ay (Bw Ra (AT rfl)) (sC (sC sN)) ⟨hb,rfl,rfl⟩
 ·refine A0 (AQ (Al (wm rfl (wm rfl (ob h3 λr4 e6 h5=>Gw (Hr:=[]) Tryz.call53 (Lj F ha hb q id r4 e6) rfl (Ug _) rfl ?_)))));rintro _ _ ⟨v7,rfl,rfl⟩;refine wa rfl (Aw (At (Al (wm rfl (wv (C0 rfl rfl) (Aw (cz h5 rfl (λc8 h9=>?_) (λc8 he=>?_))))))))
  ·refine Al (wa rfl (Aw (Az (Af ?_))));obtain rfl:=A2 h9;exact Ay (Bw Ra (AT rfl)) (sC (sC sN)) ⟨v7,rfl,rfl⟩
  ·refine A0 (AQ (At (Al (wm rfl (wv (AU rfl) (vF DG rfl Et (vL 0 Gg rfl (wm rfl (ck he λhd hf=>wv (r:=rv (C6 6 v7 (Ci r4.1) 0)) (CF (i:=1) DY Ip rfl rfl rfl (AW hd)) (wv (r:=rv (C6 6 v7 (Ci r4.1) 5)) (BQ (k:=1) LF rfl ED rfl (AW hd) rfl rfl rfl) (wv (r:=rB ((Aj r4.2.fTimers r4.1).fReturned)) (Dq (enc:=Ae) (ys:=r4.2.fTimers) (i:=1) (j:=r4.1) L9 rfl rfl hd rfl) (Aw (cz hf rfl (λhg hh=>?_) (λhg hi=>?_))))))))))))))
   ·refine Al (wa rfl (Aw (Az (Af ?_))));obtain rfl:=A2 hh;exact Ay (Bw Ra (AT rfl)) (sC (sC sN)) ⟨v7,rfl,rfl⟩
   ·refine A0 (AQ (Al (wm rfl (wm rfl (ob hi λhj hk hl=>Gw (Hr:=[]) Tryz.call55 (K4 ha v7 r4.2 r4.1 hj hk) rfl (Ug _) rfl ?_)))));rintro _ _ ⟨hm,rfl,rfl⟩;refine BW (wa rfl (Aw (Az ?_)));obtain rfl:=A2 hl;exact Ay (Bw Ra (AT rfl)) (sC (sC sN)) ⟨hm,rfl,rfl⟩
theorem O6 (hb:Nat)(ha:Value)(q:Ap)(r:Int×Bool×Ap)(h:HV q=some r):Fn Tryz.prog GE 17 [rP hb 0] [.blk hb [rB q.fMade,rv ha] 57,.row ha 68 6 (AD Ae q.fTimers)] (λR H=>∃w0_1:Value,R=Hb [Aq r.1,rB r.2.1]∧H=[.blk hb [rB r.2.2.fMade,rv w0_1] 57,.row w0_1 68 6 (AD Ae r.2.2.fTimers)]):=by
 refine enter (n:=29) Tryz.func17 rfl Tryz.ntmps17 rfl (λw Z=>?_);unfold HV at h;refine Al (wa rfl (wa rfl (Aw (At (AA [(0,rP hb 0),(20,rB ((!q.fMade)||(decide ((q.fTimers.length:Int)=0))))] [.blk hb [rB q.fMade,rv ha] 57,.row ha 68 6 (AD Ae q.fTimers)] ?_ ?_)))))
 ·refine An (wm rfl (wv (r:=rB false) (GD ⟨_,Ok⟩ rfl) (wm rfl (AG (b:=false) rfl rfl rfl (wm rfl (AG (b:=false) rfl rfl rfl (wv (AU rfl) (AG (b:=false) rfl rfl rfl (vF DG rfl ED (AG (b:=false) rfl rfl rfl (vL 0 L9 rfl (AG (b:=false) rfl rfl rfl (wv (BD rfl) (wv (r:=rB (!q.fMade)) (A1 (b:=false) rfl rfl rfl) (wm rfl (AH (!q.fMade) (λc1=>?_) (λc1=>?_)))))))))))))))))
  ·refine wf c1 (wf c1 (wf c1 (wf c1 (wf c1 (wf c1 (wv (r:=rB true) (Ao rfl c1 rfl) (Am ?_)))))));exact BA c1
  ·refine wo c1 (wm rfl (wo c1 (wv (AU rfl) (wo c1 (vF DG rfl Et (wo c1 (vL 0 Gg rfl (wo c1 (wv (BF (ys:=q.fTimers) (enc:=Ae) (i:=1) DY rfl rfl) (wo c1 (wv (Bj rfl rfl) (DT rfl c1 rfl (Am ?_)))))))))))));exact BA c1
 refine cz h rfl (λc2 h3=>?_) (λc2 h4=>?_)
 ·refine Al (wa rfl (wa rfl (Aw (Az (Af ?_)))));obtain rfl:=A2 h3;exact Ay (Td Tryz.results17 (AT rfl) (AT rfl)) (sC (sC sN)) ⟨ha,rfl,rfl⟩
 ·refine A0 (AQ (Al (wm rfl (wv (AU rfl) (vF DG rfl Et (vL 0 Gg rfl (ck h4 λg5 h6=>wv (r:=rv (C6 6 ha (Ci 0) 0)) (CF (i:=1) DY Ip rfl rfl rfl (AW g5)) (wv (r:=rv (C6 6 ha (Ci 0) 0)) (BQ (k:=1) LF rfl BP rfl (AW g5) rfl rfl rfl) (wv (r:=rv (C6 6 ha (Ci 0) 1)) (BQ (k:=1) BL rfl Cv rfl (AW g5) rfl rfl rfl) (wv (r:=Aq (((Aj q.fTimers 0).fTimer).fAt)) (Dq (enc:=Ae) (ys:=q.fTimers) (i:=1) (j:=0) CC rfl rfl g5 rfl) (wa rfl (wa rfl (Aw (Az ?_))))))))))))));obtain rfl:=A2 h6;exact Ay (Td Tryz.results17 (AT rfl) (AT rfl)) (sC (sC sN)) ⟨ha,rfl,rfl⟩
theorem Rw (F:Nat)(hd:Nat)(ha:Value)(q:Ap)(r:(List Ab)×Ap)(h:Mb F q=some r):Fn Tryz.prog GE 15 [rP hd 0] [.blk hd [rB q.fMade,rv ha] 57,.row ha 68 6 (AD Ae q.fTimers)] (λR H=>∃u0:Value,∃w0_1:Value,R=rv u0∧H=[.row u0 31 5 (AD Ah r.1),.blk hd [rB r.2.fMade,rv w0_1] 57,.row w0_1 68 6 (AD Ae r.2.fTimers)]):=by
 refine enter (n:=35) Tryz.func15 rfl Tryz.ntmps15 rfl (λw Z=>?_);unfold Mb at h;refine Al (wa rfl (Aw (At (AA [(0,rP hd 0),(13,rB (!q.fMade))] [.blk hd [rB q.fMade,rv ha] 57,.row ha 68 6 (AD Ae q.fTimers)] ?_ ?_))))
 ·refine An (wm rfl (wv (r:=rB false) (GD ⟨_,Ok⟩ rfl) (wm rfl (AG (b:=false) rfl rfl rfl (wm rfl (AG (b:=false) rfl rfl rfl (wv (AU rfl) (AG (b:=false) rfl rfl rfl (vF DG rfl ED (AG (b:=false) rfl rfl rfl (vL 0 L9 rfl (AG (b:=false) rfl rfl rfl (wv (BD rfl) (wv (r:=rB (!q.fMade)) (A1 (b:=false) rfl rfl rfl) (Am ?_)))))))))))))));exact wt
 refine cz h rfl (λc1 h2=>?_) (λc1 h3=>?_)
 ·refine Al (wa rfl (Aw (Az (Af (WK.nilrow (e:=31) (sz:=5) ?_)))));obtain rfl:=A2 h2;exact Ay (Bw Tryz.results15 (AT rfl)) (sC (sC (sC sN))) ⟨(.slice none 0 0                               ),ha,rfl,rfl⟩
 ·refine A0 (AQ (Al (wa rfl (Aw (At (Al (wm rfl (wv (AU rfl) (vF DG rfl Et (vL 0 Gg rfl (wv (BF (ys:=q.fTimers) (enc:=Ae) (i:=1) DY rfl rfl) (wv (r:=Aq 0) (A3 rfl) (Aw (AJ (WC.nilrow (e:=31) (sz:=5) (HF (H2:=[.blk hd [rB q.fMade,rv ha] 57,.row ha 68 6 (AD Ae q.fTimers),.row (.slice none 0 0                               ) 31 5 (AD Ah ([]:List Ab))]) ((Ar (i:=1) rfl).trans (Uf _ ((Ar (i:=1) rfl).trans (Uf _ (Ug _))))) (ob h3 λhm hn ho=>Bs (S:=Nat×((List Ab)×Int)×(Value)) (V:=((List Ab))×(Value)) 0 (λσ=>Cu (λσ=>Ez q σ.1 σ.2) σ.1 σ.2.1=some hm) (λσ=>[(0,rP hd 0),(3,rv σ.2.2),(18,Aq (q.fTimers.length:Int)),(19,Aq σ.2.1.2)]) (λσ=>[.blk hd [rB q.fMade,rv ha] 57,.row ha 68 6 (AD Ae q.fTimers),.row σ.2.2 31 5 (AD Ah σ.2.1.1)]) (λσ=>σ.1) (F,(([]:List Ab),0),(.slice none 0 0                               )) hn (AF.c rfl (AF.c rfl (AF.c rfl (AF.c rfl AF.nil)))) (sC (sC (sC sN))) (λσ=>HW q σ.1=some r) (λσ=>[(3,rv σ.2)]) (λσ=>[.blk hd [rB q.fMade,rv ha] 57,.row ha 68 6 (AD Ae q.fTimers),.row σ.2 31 5 (AD Ah σ.1)]) ?_ ?_)))))))))))))))))
  ·rintro⟨h5,⟨he,hb⟩,v28⟩ hp;refine Ca (l':=[(0,rP hd 0),(3,rv v28),(18,Aq (q.fTimers.length:Int)),(19,Aq hb)]) (H':=[.blk hd [rB q.fMade,rv ha] 57,.row ha 68 6 (AD Ae q.fTimers),.row v28 31 5 (AD Ah he)]) rfl rfl ?_;obtain⟨hq,rfl,t46,hf,hk⟩:=CJ hp;replace hf:Ez q he hb=some t46:=hf;unfold Ez at hf;refine Al (wv (C0 rfl rfl) (Aw (At (cz hf rfl (λhr hs=>?_) (λhr ht=>?_)))))
   ·refine A0 (AQ (At (AJ (Al (wm rfl (wa rfl (Aw (An (wm rfl (wm rfl (wv (AU rfl) (vF DG rfl Et (vL 0 Gg rfl (wm rfl (ck hs λhi hu=>wv (r:=rv (C6 6 ha (Ci hb) 0)) (CF (i:=1) DY Ip rfl rfl rfl (AW hi)) (wv (r:=rv (C6 6 ha (Ci hb) 0)) (BQ (k:=1) LF rfl BP rfl (AW hi) rfl rfl rfl) (wv (r:=Bf (Ah ((Aj q.fTimers hb).fTimer))) (If (enc:=Ae) (ys:=q.fTimers) (i:=1) (j:=hb) EE BP rfl rfl hi rfl rfl) (Co (ys:=([((Aj q.fTimers hb).fTimer)]:List Ab)) (enc:=Ah) (css:=[[rS (((Aj q.fTimers hb).fTimer).fID),Aq (((Aj q.fTimers hb).fTimer).fAt),rS (((Aj q.fTimers hb).fTimer).fTenant),rS (((Aj q.fTimers hb).fTimer).fSource),AY 4 (AD Ad (((Aj q.fTimers hb).fTimer).fBody))]]) (xs:=[.tmp 30]) DZ BP MT rfl rfl rfl ⟨QR.agg ⟨Up.refl _,Up.refl _,Up.refl _,Up.refl _,Up.refl _,trivial⟩,trivial⟩ rfl C2 rfl rfl rfl (λhw=>?_)))))))))))))))))));refine ck hu λhx hy=>Exists.elim Ns λinf hinf=>CW (xs:=he) (ys:=([((Aj q.fTimers hb).fTimer)]:List Ab)) (enc:=Ah) (i:=3) DZ hinf.1 hinf.2.1 hinf.2.2.1 hinf.2.2.2 rfl rfl rfl rfl rfl (MM.w (i:=0) rfl rfl) C2 DB hx rfl (λhl=>?_);refine wa rfl (Am (AO (AQ (An (ck hy λhz h0=>wv (Bt rfl rfl hz) (wm rfl (Am (Cn (H2:=[.blk hd [rB q.fMade,rv ha] 57,.row ha 68 6 (AD Ae q.fTimers),.row hl 31 5 (AD Ah (he++([((Aj q.fTimers hb).fTimer)]:List Ab))),.row (.slice (some ⟨hw,0,none⟩) 1 1) 31 5 (AD Ah ([((Aj q.fTimers hb).fTimer)]:List Ab))]) ((Ar (i:=2) rfl).trans (Uf _ ((Ar (i:=2) rfl).trans (Uf _ (Ug _))))) ?_))))))));have h1:=Be h0 hk;exact A5 (AE (hq,(he++([((Aj q.fTimers hb).fTimer)]:List Ab),hb+1),hl) ⟨h1,Ur _⟩ (AF.c rfl (AF.c rfl (AF.c rfl (AF.c rfl AF.nil)))) (sC (sC (sC (sS sN)))))
   ·refine Bu (A4 ?_);have h4:=BY ht hk ho;exact A4 (Bb (AE (he,v28) h4 (AF.c rfl AF.nil) (sC (sC (sC sN)))))
  ·rintro⟨hj,hg⟩ hh;refine C7 (l':=[(3,rv hg)]) (H':=[.blk hd [rB q.fMade,rv ha] 57,.row ha 68 6 (AD Ae q.fTimers),.row hg 31 5 (AD Ah hj)]) rfl rfl ?_;replace hh:HW q hj=some r:=hh;unfold HW at hh;refine Ba (AQ (Al (wm rfl (wa rfl (Aw (Az (Cn (H2:=[.row hg 31 5 (AD Ah hj),.blk hd [rB q.fMade,rv ha] 57,.row ha 68 6 (AD Ae q.fTimers)]) ((Ar (i:=2) rfl).trans (Uf _ (Ug _))) ?_)))))));obtain rfl:=A2 hh;exact Ay (Bw Tryz.results15 (AT rfl)) (sC (sC (sC sN))) ⟨hg,ha,rfl,rfl⟩
theorem PV (F:Nat)(a:Ab)(b:Ab)(r:Bool)(h:JC F a b=some r):Fn Tryz.prog GE 26 [Bf (Ah a),Bf (Ah b)] [] (λR H=>R=rB r∧H=[]):=by
 refine enter (n:=59) Tryz.func26 rfl Tryz.ntmps26 rfl (λw Z=>?_);unfold JC at h;refine Al (B3 rfl rfl (λb1=>?_));refine B3 rfl rfl (λb2=>?_);refine wa rfl (Aw (At (AA [(2,rP b1 0),(3,rP b2 0),(40,rB ((!decide (a.fID=b.fID))||((!decide (a.fAt=b.fAt))||((!decide (a.fTenant=b.fTenant))||((!decide (a.fSource=b.fSource))||(!decide ((a.fBody.length:Int)=(b.fBody.length:Int))))))))] [.blk b2 (Ah b) 31,.blk b1 (Ah a) 31] ?_ ?_)))
 ·refine An (vF BL rfl D5 (vL 1 DF rfl (vF BL rfl D5 (vL 0 DF rfl (wv (K8 rfl rfl) (wm rfl (AH (!decide (a.fID=b.fID)) (λc3=>?_) (λc3=>?_))))))))
  ·refine wf c3 (wf c3 (wf c3 (wf c3 (wf c3 (wv (r:=rB true) (Ao rfl c3 rfl) (wm rfl (wz rfl rfl (wz rfl rfl (wz rfl rfl (wz rfl rfl (wz rfl rfl (wv (r:=rB true) (Ao (b:=true) rfl rfl rfl) (wm rfl (wz rfl rfl (wz rfl rfl (wz rfl rfl (wz rfl rfl (wz rfl rfl (wv (r:=rB true) (Ao (b:=true) rfl rfl rfl) (wm rfl (wz rfl rfl (wz rfl rfl (wz rfl rfl ?_)))))))))))))))))))))));refine wz rfl rfl (wz rfl rfl (wz rfl rfl (wz rfl rfl (wv (r:=rB true) (Ao (b:=true) rfl rfl rfl) (Am ?_)))));exact BA c3
  ·refine wo c3 (vF BL rfl Cv (wo c3 (vL 1 CC rfl (wo c3 (vF BL rfl Cv (wo c3 (vL 0 CC rfl (wo c3 (wv (Eb rfl rfl) (DT rfl c3 rfl (wm rfl (AH (!decide (a.fAt=b.fAt)) (λc4=>?_) (λc4=>?_)))))))))))))
   ·refine wf c4 (wf c4 (wf c4 (wf c4 (wf c4 (wv (r:=rB true) (Ao rfl c4 rfl) (wm rfl (wz rfl rfl (wz rfl rfl (wz rfl rfl (wz rfl rfl (wz rfl rfl (wv (r:=rB true) (Ao (b:=true) rfl rfl rfl) (wm rfl (wz rfl rfl (wz rfl rfl (wz rfl rfl (wz rfl rfl (wz rfl rfl (wz rfl rfl (wz rfl rfl (wv (r:=rB true) (Ao (b:=true) rfl rfl rfl) (Am ?_))))))))))))))))))))));exact BA (And.intro c3 c4)
   ·refine wo c4 (vF BL rfl D5 (wo c4 (vL 1 DF rfl (wo c4 (vF BL rfl D5 (wo c4 (vL 0 DF rfl (wo c4 (wv (K8 rfl rfl) (DT rfl c4 rfl (wm rfl (AH (!decide (a.fTenant=b.fTenant)) (λc5=>?_) (λc5=>?_)))))))))))))
    ·refine wf c5 (wf c5 (wf c5 (wf c5 (wf c5 (wv (r:=rB true) (Ao rfl c5 rfl) (wm rfl (wz rfl rfl (wz rfl rfl (wz rfl rfl (wz rfl rfl (wz rfl rfl (wz rfl rfl (wz rfl rfl (wv (r:=rB true) (Ao (b:=true) rfl rfl rfl) (Am ?_)))))))))))))));exact BA (And.intro c3 (And.intro c4 c5))
    ·refine wo c5 (vF BL rfl D5 (wo c5 (vL 1 DF rfl (wo c5 (vF BL rfl D5 (wo c5 (vL 0 DF rfl (wo c5 (wv (K8 rfl rfl) (DT rfl c5 rfl (wm rfl (AH (!decide (a.fSource=b.fSource)) (λc6=>?_) (λc6=>?_)))))))))))))
     ·refine wf c6 (wf c6 (wf c6 (wf c6 (wf c6 (wf c6 (wf c6 (wv (r:=rB true) (Ao rfl c6 rfl) (Am ?_))))))));exact BA (And.intro c3 (And.intro c4 (And.intro c5 c6)))
     ·refine wo c6 (vF BL rfl Ir (wo c6 (vL 1 Jw rfl (wo c6 (wv (B1 (ys:=a.fBody) (enc:=Ad) CR rfl) (wo c6 (vF BL rfl Ir (wo c6 (vL 0 Jw rfl (wo c6 (wv (B1 (ys:=b.fBody) (enc:=Ad) CR rfl) (wo c6 (wv (Eb rfl rfl) (DT rfl c6 rfl (Am ?_)))))))))))))));exact BA (And.intro c3 (And.intro c4 (And.intro c5 c6)))
 refine cz h rfl (λc7 h8=>?_) (λc7 h9=>?_)
 ·refine Al (wa rfl (Aw (Az (Af ?_))));obtain rfl:=A2 h8;exact Ay (Bw Tryz.results26 (AT rfl)) (sS (sS sN)) ⟨rfl,rfl⟩
 ·refine A0 (AQ (At (Al (vF BL rfl Ir (vL 1 Jw rfl (wv (B1 (ys:=a.fBody) (enc:=Ad) CR rfl) (wv (r:=Aq 0) (A3 rfl) (Aw (AJ (ob h9 λhg hh hf=>Bs (S:=Nat×(Int)×(Unit)) (V:=(Unit)×(Unit)) 0 (λσ=>Cu (λσ=>Dg a b σ) σ.1 σ.2.1=some hg) (λσ=>[(2,rP b1 0),(3,rP b2 0),(43,Aq (a.fBody.length:Int)),(44,Aq σ.2.1)]) (λσ=>[.blk b2 (Ah b) 31,.blk b1 (Ah a) 31]) (λσ=>σ.1) (F,0,()) hh (AF.c rfl (AF.c rfl (AF.c rfl (AF.c rfl AF.nil)))) (sC (sC sN)) (λσ=>GQ =some r) (λσ=>[]) (λσ=>[]) ?_ ?_))))))))))
  ·rintro⟨h1,ha,⟨⟩⟩ hi;refine Ca (l':=[(2,rP b1 0),(3,rP b2 0),(43,Aq (a.fBody.length:Int)),(44,Aq ha)]) (H':=[.blk b2 (Ah b) 31,.blk b1 (Ah a) 31]) rfl rfl ?_;obtain⟨hj,rfl,hk,hb,he⟩:=CJ hi;replace hb:Dg a b ha=some hk:=hb;unfold Dg at hb;refine Al (wv (C0 rfl rfl) (Aw (At (cz hb rfl (λhl hm=>?_) (λhl hn=>?_)))))
   ·refine A0 (AQ (At (AJ (Al (wm rfl (wa rfl (Aw (At (ck hm λho hp=>ck hp λhq hr=>It [2,3,5,43,44] [⟨[],rP b1 4,0⟩,⟨[0],AY 4 (AD Ad a.fBody),1⟩,⟨[],Aq ha,0⟩,⟨[1,2],H4 (Ad (Aj a.fBody ha)),0⟩,⟨[3],Bf (Ad (Aj a.fBody ha)),0⟩,⟨[],rP b2 4,0⟩,⟨[5],AY 4 (AD Ad b.fBody),1⟩,⟨[],Aq ha,0⟩,⟨[6,7],H4 (Ad (Aj b.fBody ha)),0⟩,⟨[8],Bf (Ad (Aj b.fBody ha)),0⟩,⟨[4,9],rB (!(decide (((Aj a.fBody ha).fKind)=((Aj b.fBody ha).fKind))&&decide (((Aj a.fBody ha).fInt)=((Aj b.fBody ha).fInt))&&decide (((Aj a.fBody ha).fStr)=((Aj b.fBody ha).fStr))&&decide (((Aj a.fBody ha).fN)=((Aj b.fBody ha).fN)))),0⟩] [47,48,49,50,51,52,53,54,55,56,57,2,3,43,44] ?_ ?_)))))))))
    ·refine oq (Bg BL rfl Ir rfl rfl) (of (CE (i:=1) Jw rfl rfl rfl) (oq (A3 rfl) (oq (BN (enc:=Ad) (ys:=a.fBody) CR Dr rfl rfl ho) (oq (BX Km Dr rfl rfl rfl) (oq (Bg BL rfl Ir rfl rfl) (of (CE (i:=0) Jw rfl rfl rfl) (oq (A3 rfl) (oq (BN (enc:=Ad) (ys:=b.fBody) CR Dr rfl rfl hq) (oq (BX Km Dr rfl rfl rfl) (oq (Mp rfl rfl) ?_))))))))));exact EW
    refine AQ (cz hr rfl (λhs ht=>?_) (λhs hu=>?_))
    ·refine Al (wa rfl (Aw (Az (A9 (Af (Af (Bi ?_)))))));have hw:=BC ht he hf;refine A9 (Af ?_);obtain rfl:=A2 hw;exact Ay (Bw Tryz.results26 (AT rfl)) (sS (sS sN)) ⟨rfl,rfl⟩
    ·refine A0 (AO (AQ (An (ck hu λhx hy=>wv (Bt rfl rfl hx) (wm rfl (Am ?_))))));have hz:=Be hy he;exact A5 (AE (hj,ha+1,()) ⟨hz,Ur _⟩ (AF.c rfl (AF.c rfl (AF.c rfl (AF.c rfl AF.nil)))) (sC (sC sN)))
   ·refine Bu (A4 ?_);have h0:=BY hn he hf;exact A4 (Bb (AE ((),()) h0 AF.nil (sS (sS sN))))
  ·rintro⟨⟨⟩,⟨⟩⟩ hd;refine C7 (l':=[]) (H':=[]) rfl rfl ?_;replace hd:GQ =some r:=hd;unfold GQ at hd;refine Ba (AQ (Al (wa rfl (Aw (Az ?_)))));obtain rfl:=A2 hd;exact Ay (Bw Tryz.results26 (AT rfl)) sN ⟨rfl,rfl⟩
theorem LW (F:Nat)(a:(List Ab))(b:(List Ab))(r:Bool)(h:H0 F a b=some r):Fn Tryz.prog GE 9 [AY 5 (AD Ah a),AY 5 (AD Ah b)] [] (λR H=>R=rB r∧H=[]):=by
 refine enter (n:=27) Tryz.func9 rfl Tryz.ntmps9 rfl (λw Z=>?_);unfold H0 at h;refine Al (wa rfl (Aw (At (Al (wm rfl (wv (B1 (ys:=a) (enc:=Ah) DZ rfl) (wm rfl (wv (B1 (ys:=b) (enc:=Ah) DZ rfl) (wv (Eb rfl rfl) (Aw (cz h rfl (λc1 h2=>?_) (λc1 h3=>?_))))))))))))
 ·refine Al (wa rfl (Aw (Az (Af ?_))));obtain rfl:=A2 h2;exact Ay (Bw Tryz.results9 (AT rfl)) sN ⟨rfl,rfl⟩
 ·refine A0 (AQ (At (Al (wm rfl (wv (B1 (ys:=a) (enc:=Ah) DZ rfl) (wv (r:=Aq 0) (A3 rfl) (Aw (AJ (ob h3 λhg hh hf=>Bs (S:=Nat×(Int)×(Unit)) (V:=(Unit)×(Unit)) 0 (λσ=>Cu (λσ=>Df F a b σ) σ.1 σ.2.1=some hg) (λσ=>[(0,AY 5 (AD Ah a)),(1,AY 5 (AD Ah b)),(12,Aq (a.length:Int)),(13,Aq σ.2.1)]) (λσ=>[]) (λσ=>σ.1) (F,0,()) hh (AF.c rfl (AF.c rfl (AF.c rfl (AF.c rfl AF.nil)))) sN (λσ=>GP =some r) (λσ=>[]) (λσ=>[]) ?_ ?_)))))))))
  ·rintro⟨h6,ha,⟨⟩⟩ hi;refine Ca (l':=[(0,AY 5 (AD Ah a)),(1,AY 5 (AD Ah b)),(12,Aq (a.length:Int)),(13,Aq ha)]) (H':=[]) rfl rfl ?_;obtain⟨hj,rfl,hk,hb,he⟩:=CJ hi;replace hb:Df F a b ha=some hk:=hb;unfold Df at hb;refine Al (wv (C0 rfl rfl) (Aw (At (cz hb rfl (λhl hm=>?_) (λhl hn=>?_)))))
   ·refine A0 (AQ (At (AJ (Al (wm rfl (wa rfl (Aw (At (ck hm λho hp=>ck hp λhq hr=>IY 8 [0,1,5,12,13] [⟨[],AY 5 (AD Ah a),none,none,none⟩,⟨[],Aq ha,none,none,none⟩,⟨[0,1],H4 (Ah (Aj a ha)),none,none,none⟩,⟨[2],Bf (Ah (Aj a ha)),none,none,none⟩,⟨[],AY 5 (AD Ah b),none,none,none⟩,⟨[],Aq ha,none,none,none⟩,⟨[4,5],H4 (Ah (Aj b ha)),none,none,none⟩,⟨[6],Bf (Ah (Aj b ha)),none,none,none⟩] ?_ (λβ=>?_))))))))))
    ·refine Ji (A3 rfl) (Ji (A3 rfl) (Ji (BN (enc:=Ah) (ys:=a) DZ BP rfl rfl ho) (Ji (BX EE BP rfl rfl rfl) (Ji (A3 rfl) (Ji (A3 rfl) (Ji (BN (enc:=Ah) (ys:=b) DZ BP rfl rfl hq) (Ji (BX EE BP rfl rfl rfl) ?_)))))));exact T9
    refine G8 (H1:=[]) [16,17,18,19,20,21,22,23,0,1,5,12,13] ?_;refine ob hr λhs ht hu=>CS Tryz.call26 (PV F (Aj a ha) (Aj b ha) hs ht) rfl (wv (BD rfl) (Aw (cz hu rfl (λhw hx=>?_) (λhw hy=>?_))))
    ·refine Al (wa rfl (Aw (Az (A9 (Af (Af (Bi ?_)))))));have hz:=BC hx he hf;refine A9 (Af ?_);obtain rfl:=A2 hz;exact Ay (Bw Tryz.results9 (AT rfl)) sN ⟨rfl,rfl⟩
    ·refine A0 (AO (AQ (An (ck hy λh0 h1=>wv (Bt rfl rfl h0) (wm rfl (Am ?_))))));have h4:=Be h1 he;exact A5 (AE (hj,ha+1,()) ⟨h4,Ur _⟩ (AF.c rfl (AF.c rfl (AF.c rfl (AF.c rfl AF.nil)))) sN)
   ·refine Bu (A4 ?_);have h5:=BY hn he hf;exact A4 (Bb (AE ((),()) h5 AF.nil sN))
  ·rintro⟨⟨⟩,⟨⟩⟩ hd;refine C7 (l':=[]) (H':=[]) rfl rfl ?_;replace hd:GP =some r:=hd;unfold GP at hd;refine Ba (AQ (Al (wa rfl (Aw (Az ?_)))));obtain rfl:=A2 hd;exact Ay (Bw Tryz.results9 (AT rfl)) sN ⟨rfl,rfl⟩
theorem PS (F:Nat)(t:Ab)(r:Bool)(h:JB F t=some r):Fn Tryz.prog GE 22 [Bf (Ah t)] [] (λR H=>R=rB r∧H=[]):=by
 refine enter (n:=41) Tryz.func22 rfl Tryz.ntmps22 rfl (λw Z=>?_);unfold JB at h;refine Al (B3 rfl rfl (λb1=>?_));refine wa rfl (Aw (At (AA [(1,rP b1 0),(25,rB ((decide (300<(t.fID.length:Int)))||((decide (300<(t.fTenant.length:Int)))||((decide (300<(t.fSource.length:Int)))||(decide (300<(t.fBody.length:Int)))))))] [.blk b1 (Ah t) 31] ?_ ?_)))
 ·refine An (vF BL rfl D5 (vL 0 DF rfl (wv (B8 Es rfl) (wv (Dl rfl rfl) (wm rfl (AH (decide (300<(t.fID.length:Int))) (λc2=>?_) (λc2=>?_)))))))
  ·refine wf c2 (wf c2 (wf c2 (wf c2 (wv (r:=rB true) (Ao rfl c2 rfl) (wm rfl (wz rfl rfl (wz rfl rfl (wz rfl rfl (wz rfl rfl (wv (r:=rB true) (Ao (b:=true) rfl rfl rfl) (wm rfl (wz rfl rfl (wz rfl rfl (wz rfl rfl (wz rfl rfl (wv (r:=rB true) (Ao (b:=true) rfl rfl rfl) (Am ?_)))))))))))))))));exact BA c2
  ·refine wo c2 (vF BL rfl D5 (wo c2 (vL 0 DF rfl (wo c2 (wv (B8 Es rfl) (wo c2 (wv (Dl rfl rfl) (DT rfl c2 rfl (wm rfl (AH (decide (300<(t.fTenant.length:Int))) (λc3=>?_) (λc3=>?_)))))))))))
   ·refine wf c3 (wf c3 (wf c3 (wf c3 (wv (r:=rB true) (Ao rfl c3 rfl) (wm rfl (wz rfl rfl (wz rfl rfl (wz rfl rfl (wz rfl rfl (wv (r:=rB true) (Ao (b:=true) rfl rfl rfl) (Am ?_)))))))))));exact BA (And.intro c2 c3)
   ·refine wo c3 (vF BL rfl D5 (wo c3 (vL 0 DF rfl (wo c3 (wv (B8 Es rfl) (wo c3 (wv (Dl rfl rfl) (DT rfl c3 rfl (wm rfl (AH (decide (300<(t.fSource.length:Int))) (λc4=>?_) (λc4=>?_)))))))))))
    ·refine wf c4 (wf c4 (wf c4 (wf c4 (wv (r:=rB true) (Ao rfl c4 rfl) (Am ?_)))));exact BA (And.intro c2 (And.intro c3 c4))
    ·refine wo c4 (vF BL rfl Ir (wo c4 (vL 0 Jw rfl (wo c4 (wv (B1 (ys:=t.fBody) (enc:=Ad) CR rfl) (wo c4 (wv (Dl rfl rfl) (DT rfl c4 rfl (Am ?_)))))))));exact BA (And.intro c2 (And.intro c3 c4))
 refine cz h rfl (λc5 h6=>?_) (λc5 h7=>?_)
 ·refine Al (wa rfl (Aw (Az (Af ?_))));obtain rfl:=A2 h6;exact Ay (Bw Tryz.results22 (AT rfl)) (sS sN) ⟨rfl,rfl⟩
 ·refine A0 (AQ (At (Al (vF BL rfl Ir (vL 0 Jw rfl (wv (B1 (ys:=t.fBody) (enc:=Ad) CR rfl) (wv (r:=Aq 0) (A3 rfl) (Aw (AJ (ob h7 λhg hh hf=>Bs (S:=Nat×(Int)×(Unit)) (V:=(Unit)×(Unit)) 0 (λσ=>Cu (λσ=>De t σ) σ.1 σ.2.1=some hg) (λσ=>[(1,rP b1 0),(28,Aq (t.fBody.length:Int)),(29,Aq σ.2.1)]) (λσ=>[.blk b1 (Ah t) 31]) (λσ=>σ.1) (F,0,()) hh (AF.c rfl (AF.c rfl (AF.c rfl AF.nil))) (sC sN) (λσ=>GO =some r) (λσ=>[]) (λσ=>[]) ?_ ?_))))))))))
  ·rintro⟨hy,hd,⟨⟩⟩ hi;refine Ca (l':=[(1,rP b1 0),(28,Aq (t.fBody.length:Int)),(29,Aq hd)]) (H':=[.blk b1 (Ah t) 31]) rfl rfl ?_;obtain⟨hj,rfl,hk,ha,he⟩:=CJ hi;replace ha:De t hd=some hk:=ha;unfold De at ha;refine Al (wv (C0 rfl rfl) (Aw (At (cz ha rfl (λhl hm=>?_) (λhl hn=>?_)))))
   ·refine A0 (AQ (At (AJ (Al (wm rfl (wa rfl (BW (vF BL rfl Ir (vL 0 Jw rfl (wm rfl (ck hm λho hp=>wv (BN (enc:=Ad) (ys:=t.fBody) CR Dr rfl rfl ho) (wv (Br Bh rfl D5 rfl rfl) (wv (C1 DF rfl rfl) (wv (B8 Es rfl) (wv (Dl rfl rfl) (Aw (cz hp rfl (λc51 hq=>?_) (λc51 hr=>?_))))))))))))))))))
    ·refine Al (wa rfl (Aw (Az (A9 (Af (Af (Bi ?_)))))));have hs:=BC hq he hf;refine A9 (Af ?_);obtain rfl:=A2 hs;exact Ay (Bw Tryz.results22 (AT rfl)) (sS sN) ⟨rfl,rfl⟩
    ·refine A0 (AO (AQ (An (ck hr λht hu=>wv (Bt rfl rfl ht) (wm rfl (Am ?_))))));have hw:=Be hu he;exact A5 (AE (hj,hd+1,()) ⟨hw,Ur _⟩ (AF.c rfl (AF.c rfl (AF.c rfl AF.nil))) (sC sN))
   ·refine Bu (A4 ?_);have hx:=BY hn he hf;exact A4 (Bb (AE ((),()) hx AF.nil (sS sN)))
  ·rintro⟨⟨⟩,⟨⟩⟩ hb;refine C7 (l':=[]) (H':=[]) rfl rfl ?_;replace hb:GO =some r:=hb;unfold GO at hb;refine Ba (AQ (Al (wa rfl (Aw (Az ?_)))));obtain rfl:=A2 hb;exact Ay (Bw Tryz.results22 (AT rfl)) sN ⟨rfl,rfl⟩
end Go.Proofs.YtmmbdclkpijkpaaGreatDoor.Q
namespace Go.Proofs.YtmmbdclkpijkpaaGreatDoor
open Go
set_option linter.unusedVariables false
structure AM where
 fKind:Int
 fNow:Int
 fTimer:Ab
 deriving DecidableEq,Inhabited
def SW (id:Ak)(n:Int):Option (Ab):=
 some (Ab.mk id n ([116]:Ak) ([115]:Ak) ([(Ac.mk 1 0 ([]:Ak) 0)]:List Ac))
def JU (F:Nat) :Option (Bool):=
 B0 (PC) λr1=>B0 (SW ([98]:Ak) 5) λr6=>B0 (KZ F r1 r6 0) λr9=>Bk (!(!decide (r9.1=0)))<|B0 (SW ([97]:Ak) 5) λhi=>B0 (KZ F r9.2 hi 0) λhe=>Bk (!(!decide (he.1=0)))<|B0 (SW ([99]:Ak) 3) λhj=>B0 (KZ F he.2 hj 0) λhf=>Bk (!(!decide (hf.1=0)))<|B0 (MX F hf.2 4) λha=>B0 (MX F ha.2 5) λhb=>B0 (Kx hb.2) λhd=>Bk (!(!decide ((ha.1.length:Int)=1)))<|Bk (D2 0 (ha.1.length:Int))<|Bk (!(!decide (((Aj ha.1 0).fID)=([99]:Ak))))<|Bk (!(!decide ((hb.1.length:Int)=3)))<|Bk (D2 1 (hb.1.length:Int))<|Bk (!(!decide (((Aj hb.1 1).fID)=([97]:Ak))))<|Bk (!(!decide (hd.1=3)))<|Bk (!(!hd.2.1))<|B0 (Na hd.2.2 ([99]:Ak)) λhg=>Bk (decide (hg.1=0))<|B0 (GN hg.2 ([97]:Ak)) λhh=>Bk (decide (hh.1=10))<|B0 (SW ([100]:Ak) 3) λhk=>B0 (KZ F hh.2 hk 4) λhl=>some (decide (hl.1=2))
def Dm (F:Nat)(l:(List AM))(ha:Int):Option (Stp (Int) (Out (Bool) (Unit))):=
 Bm (decide (ha<(l.length:Int))) (Bk (D2 ha (l.length:Int))<|B0 (JB F ((Aj l ha).fTimer)) λhb=>Bm (!hb) (some (.out (.ret false))) (Bk (BH .i64 (ha+1))<|some (.next (ha+1)))) (some (.out (.go ())))
def GY :Option (Bool):=
 some true
def JT (F:Nat)(l:(List AM)):Option (Bool):=
 Bm (decide (300<(l.length:Int))) (some false) (B0 (Cu (λσ=>Dm F l σ) F 0) (B9 λν=>GY ))
def M3 (F:Nat)(q:A8)(o:AM):Option (Int×A8):=
 Bm (decide (o.fKind=0)) (B0 (KZ F q o.fTimer o.fNow) λr4=>some (r4.1,r4.2)) (Bm (decide (o.fKind=2)) (B0 (Na q o.fTimer.fID) λha=>some (ha.1,ha.2)) (Bm (decide (o.fKind=3)) (B0 (GN q o.fTimer.fID) λhb=>some (hb.1,hb.2)) (some (0,q))))
def M1 (F:Nat)(q:Ap)(o:AM):Option (Int×Ap):=
 Bm (decide (o.fKind=0)) (B0 (PU F q o.fTimer o.fNow) λr4=>some (r4.1,r4.2)) (Bm (decide (o.fKind=2)) (B0 (Qc F q o.fTimer.fID) λha=>some (ha.1,ha.2)) (Bm (decide (o.fKind=3)) (B0 (Ia F q o.fTimer.fID) λhb=>some (hb.1,hb.2)) (some (0,q))))
def DN (hd:Int)(hi:Int)(hj:Int)(hk:Bool)(hl:Bool)(he:Bool)(hf:Bool)(hg:(List As))(hh:(List (Ak×Aa))):Option (Stp (Int×Bool×(List As)×(List (Ak×Aa))) (Out (Bool) (Unit))):=
 Bm (he) (some (.out (.ret false))) (B0 (Kx (A8.mk hh)) λhb=>B0 (HV (Ap.mk hf hg)) λha=>Bm (((!decide (hb.1=ha.1))||(!(hb.2.1 ==ha.2.1)))) (some (.out (.ret false))) (Bk (BH .i64 (hd+1))<|some (.next (hd+1,ha.2.2.fMade,ha.2.2.fTimers,hb.2.2.fTimers))))
def DO (F:Nat)(l:(List AM))(hb:Int)(hg:Bool)(hh:Bool)(hi:(List As))(hj:(List (Ak×Aa))):Option (Stp (Int×Bool×(List As)×(List (Ak×Aa))) (Out (Bool) (Unit))):=
 Bm (hg) (some (.out (.ret false))) (Bk (D2 hb (l.length:Int))<|B0 (M3 F (A8.mk hj) (AM.mk ((Aj l hb).fKind) ((Aj l hb).fNow) ((Aj l hb).fTimer))) λhd=>B0 (M1 F (Ap.mk hh hi) (AM.mk ((Aj l hb).fKind) ((Aj l hb).fNow) ((Aj l hb).fTimer))) λha=>Bm (!decide (hd.1=ha.1)) (DN hb hd.1 ha.1 (!decide (hd.1=ha.1)) (!decide (hd.1=ha.1)) true ha.2.fMade ha.2.fTimers hd.2.fTimers) (B0 (J4 hd.2) λhf=>B0 (Mb F ha.2) λhe=>B0 (H0 F hf.1 he.1) λhk=>DN hb hd.1 ha.1 (!decide (hd.1=ha.1)) (!decide (hd.1=ha.1)) (!hk) he.2.fMade he.2.fTimers hf.2.fTimers))
def Dz (F:Nat)(l:(List AM))(ha:Int)(hd:Bool)(he:(List As))(hf:(List (Ak×Aa))):Option (Stp (Int×Bool×(List As)×(List (Ak×Aa))) (Out (Bool) (Unit))):=
 Bm (decide (ha<(l.length:Int))) (Bk (D2 ha (l.length:Int))<|Bm (decide (((Aj l ha).fKind)=1)) (B0 (MX F (A8.mk hf) ((Aj l ha).fNow)) λhg=>B0 (Qa F (Ap.mk hd he) ((Aj l ha).fNow)) λhb=>B0 (H0 F hg.1 hb.1) λhh=>DO F l ha (!hh) hb.2.fMade hb.2.fTimers hg.2.fTimers) (DO F l ha false hd he hf)) (some (.out (.go ())))
def EZ (F:Nat):Option (Bool):=
 B0 (JU F) λha=>some ha
def JS (F:Nat)(l:(List AM)):Option (Bool):=
 B0 (JT F l) λr1=>Bm (!r1) (B0 (JU F) λr6=>some r6) (B0 (PC) λhb=>B0 (Rv) λha=>B0 (Cu (λσ=>Dz F l σ.1 σ.2.1 σ.2.2.1 σ.2.2.2) F (0,ha.fMade,ha.fTimers,hb.fTimers)) (B9 λν=>EZ F ))
end Go.Proofs.YtmmbdclkpijkpaaGreatDoor
namespace Go.Proofs.YtmmbdclkpijkpaaGreatDoor.Q
open Go Go.RowKit
set_option linter.unusedVariables false
set_option linter.unusedSimpArgs false
set_option maxRecDepth 100000
set_option maxHeartbeats 4000000
@[reducible] def Au (x:AM):List Rp:=[Aq x.fKind,Aq x.fNow,rS x.fTimer.fID,Aq x.fTimer.fAt,rS x.fTimer.fTenant,rS x.fTimer.fSource,AY 4 (AD Ad x.fTimer.fBody)]
theorem Im (x:AM):(Au x).length=7:=rfl
theorem RT (parts:List (Nat×Value)):Tryz.prog.built 31 parts=Instr.fill (λi=>(#[(0,1),(1,1),(2,1),(3,1),(4,1)]:Array (Nat×Nat))[i]?) #[(.string ⟨#[]⟩),(.int .i64 0),(.string ⟨#[]⟩),(.string ⟨#[]⟩),((.slice none 0 0))] parts:=by kernel_rfl
theorem Hd {n:Nat}{c:Cx}{l:Fr}{H:List Ent}{d:Option Nat}{ty:TypeId}{pos:String}{af:Array Edge}{g:Option (Nat×Bool)}{x0:Operand}{r0:Rp}(h0:ev l x0=some r0)(u0:r0.one=true){x1:Operand}{r1:Rp}(h1:ev l x1=some r1)(u1:r1.one=true){x2:Operand}{r2:Rp}(h2:ev l x2=some r2)(u2:r2.one=true){x3:Operand}{r3:Rp}(h3:ev l x3=some r3)(u3:r3.one=true){x4:Operand}{r4:Rp}(h4:ev l x4=some r4)(u4:r4.one=true):Bc Tryz.prog n c l H { dst:=d,op:=.build 31 #[(0,x0),(1,x1),(2,x2),(3,x3),(4,x4)],type:=ty,pos:=pos,after:=af,guard:=g } (Bf [r0,r1,r2,r3,r4]):=λa w Z ha _=>by
  have p0:=ha.ev h0;have c0:=BI (r0.hone u0 Z _ p0);have p1:=ha.ev h1;have c1:=BI (r1.hone u1 Z _ p1);have p2:=ha.ev h2;have c2:=BI (r2.hone u2 Z _ p2);have p3:=ha.ev h3;have c3:=BI (r3.hone u3 Z _ p3);have p4:=ha.ev h4;have c4:=BI (r4.hone u4 Z _ p4);have hb:Tryz.prog.built 31 [(0,a.eval x0),(1,a.eval x1),(2,a.eval x2),(3,a.eval x3),(4,a.eval x4)]=some #[a.eval x0,a.eval x1,a.eval x2,a.eval x3,a.eval x4]:=by
    rw[RT];generalize a.eval x0=v0 at *;generalize a.eval x1=v1 at *;generalize a.eval x2=v2 at *;generalize a.eval x3=v3 at *;generalize a.eval x4=v4 at *;simp[Instr.fill,c0,c1,c2,c3,c4]
  refine⟨.agg #[a.eval x0,a.eval x1,a.eval x2,a.eval x3,a.eval x4],⟨[a.eval x0,a.eval x1,a.eval x2,a.eval x3,a.eval x4],rfl,p0,p1,p2,p3,p4,trivial⟩,?_⟩;have:=run_build w 31 #[(0,a.eval x0),(1,a.eval x1),(2,a.eval x2),(3,a.eval x3),(4,a.eval x4)] _ (by simpa using hb);simp[execOp,this]
theorem RO (parts:List (Nat×Value)):Tryz.prog.built 89 parts=Instr.fill (λi=>(#[(0,1),(1,1),(2,1),(3,1)]:Array (Nat×Nat))[i]?) #[(.int .i64 0),(.int .i64 0),(.string ⟨#[]⟩),(.int .i64 0)] parts:=by kernel_rfl
theorem Mk {n:Nat}{c:Cx}{l:Fr}{H:List Ent}{d:Option Nat}{ty:TypeId}{pos:String}{af:Array Edge}{g:Option (Nat×Bool)}{x0:Operand}{r0:Rp}(h0:ev l x0=some r0)(u0:r0.one=true):Bc Tryz.prog n c l H { dst:=d,op:=.build 89 #[(0,x0)],type:=ty,pos:=pos,after:=af,guard:=g } (Bf [r0,Aq 0,rS ([]:Ak),Aq 0]):=λa w Z ha _=>by
  have p0:=ha.ev h0;have c0:=BI (r0.hone u0 Z _ p0);have hb:Tryz.prog.built 89 [(0,a.eval x0)]=some #[a.eval x0,(.int .i64 0),(.string ⟨#[]⟩),(.int .i64 0)]:=by
    rw[RO];generalize a.eval x0=v0 at *;simp[Instr.fill,c0]
  refine⟨.agg #[a.eval x0,(.int .i64 0),(.string ⟨#[]⟩),(.int .i64 0)],⟨[a.eval x0,(.int .i64 0),(.string ⟨#[]⟩),(.int .i64 0)],rfl,p0,rfl,rfl,rfl,trivial⟩,?_⟩;have:=run_build w 89 #[(0,a.eval x0)] _ (by simpa using hb);simp[execOp,this]
theorem NV (id:Ak)(n:Int)(r:Ab)(h:SW id n=some r):Fn Tryz.prog GE 23 [rS id,Aq n] [] (λR H=>R=Bf (Ah r)∧H=[]):=by
 refine enter (n:=10) Tryz.func23 rfl Tryz.ntmps23 rfl (λw Z=>?_);unfold SW at h;refine Al (CO (cs:=[rS ([]:Ak),Aq 0,rS ([]:Ak),rS ([]:Ak),rv (.slice none 0 0)]) MT rfl rfl (λb1=>?_));refine BW (wm rfl (wm rfl (wv (r:=Bf [Aq 1,Aq 0,rS ([]:Ak),Aq 0]) (Mk rfl rfl) (Co (ys:=([(Ac.mk 1 0 ([]:Ak) 0)]:List Ac)) (enc:=Ad) (css:=[[Aq 1,Aq 0,rS ([]:Ak),Aq 0]]) (xs:=[.tmp 7]) CR Dr Oi rfl rfl rfl ⟨QR.agg ⟨Up.refl _,Up.refl _,Up.refl _,Up.refl _,trivial⟩,trivial⟩ rfl DW rfl rfl rfl (λb2=>?_)))));refine wv (r:=Bf [rS id,Aq n,rS ([116]:Ak),rS ([115]:Ak),rv (.slice (some ⟨b2,0,none⟩) 1 1)]) (Hd rfl rfl rfl rfl rfl rfl rfl rfl rfl rfl) (BJ (i:=1) BP rfl rfl rfl ⟨(CI rfl),(CI rfl),(CI rfl),(CI rfl),(Ln (i:=0) rfl),trivial⟩ rfl rfl (cs':=[rS id,Aq n,rS ([116]:Ak),rS ([115]:Ak),rv (.slice (some ⟨b2,0,none⟩) 1 1)]) rfl (H':=[.row (.slice (some ⟨b2,0,none⟩) 1 1) 89 4 (AD Ad ([(Ac.mk 1 0 ([]:Ak) 0)]:List Ac)),.blk b1 [rS id,Aq n,rS ([116]:Ak),rS ([115]:Ak),rv (.slice (some ⟨b2,0,none⟩) 1 1)] 31]) rfl (Aw (Az (WK.freeze (i:=0) rfl (WK.upBlk (i:=1) (cs':=[rS id,Aq n,rS ([116]:Ak),rS ([115]:Ak),AY 4 (AD Ad ([(Ac.mk 1 0 ([]:Ak) 0)]:List Ac))]) rfl ⟨Up.refl _,Up.refl _,Up.refl _,Up.refl _,Up.fact (i:=0) rfl,trivial⟩ ?_)))));obtain rfl:=A2 h;exact Ay (Bw Tryz.results23 (J8 (i:=1) EE BP rfl rfl rfl)) (sS (sS sN)) ⟨rfl,rfl⟩
theorem M4 (F:Nat)  (r:Bool)(h:JU F=some r):Fn Tryz.prog GE 6 [] [] (λR H=>R=rB r∧H=[]):=by
 refine enter (n:=80) Tryz.func6 rfl Tryz.ntmps6 rfl (λw Z=>?_);unfold JU at h;refine Al (wa rfl (BW (ob h λr1 e3 h2=>Gw (Hr:=[]) Tryz.call7 (PB r1 e3) rfl (Ug _) rfl ?_)));rintro _ _ ⟨b4,b5,rfl,rfl⟩;refine wa rfl (Aw (At (Al (wm rfl (wv (r:=rB false) (GD ⟨_,So⟩ rfl) (wm rfl (AG (b:=false) rfl rfl rfl (wm rfl (AG (b:=false) rfl rfl rfl (ob h2 λr6 e8 h7=>CS Tryz.call23 (NV ([98]:Ak) 5 r6 e8) rfl (AG (b:=false) rfl rfl rfl (ob h7 λr9 hx hy=>Gw (Hr:=[]) Pz (J2 F b4 b5 r1 r6 0 r9 hx) rfl (Ug _) rfl ?_))))))))))));rintro _ _ ⟨rfl,rfl⟩;refine AG (b:=false) rfl rfl rfl (wv (Eb rfl rfl) (wv (r:=rB (!decide (r9.1=0))) (A1 (b:=false) rfl rfl rfl) (wm rfl (ck hy λhh hz=>AG (b:=!decide (r9.1=0)) rfl rfl (Bool.not_eq_eq_eq_not.1 hh) (wm rfl (AG (b:=!decide (r9.1=0)) rfl rfl (Bool.not_eq_eq_eq_not.1 hh) (ob hz λhr h0 h1=>CS Tryz.call23 (NV ([97]:Ak) 5 hr h0) rfl (AG (b:=!decide (r9.1=0)) rfl rfl (Bool.not_eq_eq_eq_not.1 hh) (ob h1 λhd h3 h4=>Gw (Hr:=[]) Pz (J2 F b4 b5 r9.2 hr 0 hd h3) rfl (Ug _) rfl ?_)))))))));rintro _ _ ⟨rfl,rfl⟩;refine AG (b:=!decide (r9.1=0)) rfl rfl (Bool.not_eq_eq_eq_not.1 hh) (wv (Eb rfl rfl) (wv (r:=rB (!decide (hd.1=0))) (A1 (b:=!decide (r9.1=0)) rfl (Bool.not_eq_eq_eq_not.1 hh) rfl) (wm rfl (ck h4 λhi h5=>AG (b:=!decide (hd.1=0)) rfl rfl (Bool.not_eq_eq_eq_not.1 hi) (wm rfl (AG (b:=!decide (hd.1=0)) rfl rfl (Bool.not_eq_eq_eq_not.1 hi) (ob h5 λhs h6 h8=>CS Tryz.call23 (NV ([99]:Ak) 3 hs h6) rfl (AG (b:=!decide (hd.1=0)) rfl rfl (Bool.not_eq_eq_eq_not.1 hi) (ob h8 λhk h9 hA=>Gw (Hr:=[]) Pz (J2 F b4 b5 hd.2 hs 0 hk h9) rfl (Ug _) rfl ?_)))))))));rintro _ _ ⟨rfl,rfl⟩;refine AG (b:=!decide (hd.1=0)) rfl rfl (Bool.not_eq_eq_eq_not.1 hi) (wv (Eb rfl rfl) (wv (r:=rB (!decide (hk.1=0))) (A1 (b:=!decide (hd.1=0)) rfl (Bool.not_eq_eq_eq_not.1 hi) rfl) (Aw (ck hA λhB hC=>DJ (b:=!decide (hk.1=0)) rfl (Bool.not_eq_eq_eq_not.1 hB) (A0 (AQ (Al (wm rfl (ob hC λha hD hE=>Gw (Hr:=[]) Tryz.call10 (MW F b4 b5 hk.2 4 ha hD) rfl (Ug _) rfl ?_)))))))));rintro _ _ ⟨v33,rfl,rfl⟩;refine wa rfl (BW (wm rfl (ob hE λhb hG hH=>Gw (Hr:=[.row v33 31 5 (AD Ah ha.1)]) Tryz.call10 (MW F b4 b5 ha.2 5 hb hG) rfl ((Ar (i:=1) rfl).trans (Uf _ ((Ar (i:=1) rfl).trans (Uf _ (Ug _))))) rfl ?_)));rintro _ _ ⟨v37,rfl,rfl⟩;refine wa rfl (BW (wm rfl (ob hH λhe hI hJ=>Gw (Hr:=[.row v37 31 5 (AD Ah hb.1),.row v33 31 5 (AD Ah ha.1)]) Tryz.call16 (N9 b4 b5 hb.2 he hI) rfl ((Ar (i:=1) rfl).trans (Uf _ ((Ar (i:=1) rfl).trans (Uf _ (Ug _))))) rfl ?_)));rintro _ _ ⟨rfl,rfl⟩;refine wm rfl (wv (Bp rfl rfl) (wv (Bp rfl rfl) (wa rfl (wa rfl (Aw (At (Al (wm rfl (wv (BF (ys:=ha.1) (enc:=Ah) (i:=3) DZ rfl rfl) (wv (Eb rfl rfl) (wm rfl (ck hJ λhf hK=>AG (b:=!decide ((ha.1.length:Int)=1)) rfl rfl (Bool.not_eq_eq_eq_not.1 hf) (wm rfl (AG (b:=!decide ((ha.1.length:Int)=1)) rfl rfl (Bool.not_eq_eq_eq_not.1 hf) (ck hK λhn hL=>wv (r:=rv (C6 5 v33 (Ci 0) 0)) (CF (i:=3) DZ BP rfl rfl rfl (AW hn)) (AG (b:=!decide ((ha.1.length:Int)=1)) rfl rfl (Bool.not_eq_eq_eq_not.1 hf) (wv (r:=rv (C6 5 v33 (Ci 0) 0)) (BQ (k:=3) BL rfl D5 rfl (AW hn) rfl rfl rfl) (AG (b:=!decide ((ha.1.length:Int)=1)) rfl rfl (Bool.not_eq_eq_eq_not.1 hf) (wv (r:=rS ((Aj ha.1 0).fID)) (Dq (enc:=Ah) (ys:=ha.1) (i:=3) (j:=0) DF rfl rfl hn rfl) (AG (b:=!decide ((ha.1.length:Int)=1)) rfl rfl (Bool.not_eq_eq_eq_not.1 hf) (wv (K8 rfl rfl) ?_)))))))))))))))))))));refine wv (r:=rB (!decide (((Aj ha.1 0).fID)=([99]:Ak)))) (A1 (b:=!decide ((ha.1.length:Int)=1)) rfl (Bool.not_eq_eq_eq_not.1 hf) rfl) (wm rfl (ck hL λhl hN=>AG (b:=!decide (((Aj ha.1 0).fID)=([99]:Ak))) rfl rfl (Bool.not_eq_eq_eq_not.1 hl) (wm rfl (AG (b:=!decide (((Aj ha.1 0).fID)=([99]:Ak))) rfl rfl (Bool.not_eq_eq_eq_not.1 hl) (wv (BF (ys:=hb.1) (enc:=Ah) (i:=2) DZ rfl rfl) (AG (b:=!decide (((Aj ha.1 0).fID)=([99]:Ak))) rfl rfl (Bool.not_eq_eq_eq_not.1 hl) (wv (Eb rfl rfl) (wv (r:=rB (!decide ((hb.1.length:Int)=3))) (A1 (b:=!decide (((Aj ha.1 0).fID)=([99]:Ak))) rfl (Bool.not_eq_eq_eq_not.1 hl) rfl) (wm rfl (ck hN λhg hO=>AG (b:=!decide ((hb.1.length:Int)=3)) rfl rfl (Bool.not_eq_eq_eq_not.1 hg) (wm rfl (AG (b:=!decide ((hb.1.length:Int)=3)) rfl rfl (Bool.not_eq_eq_eq_not.1 hg) (ck hO λho hP=>wv (r:=rv (C6 5 v37 (Ci 1) 0)) (CF (i:=2) DZ BP rfl rfl rfl (AW ho)) (AG (b:=!decide ((hb.1.length:Int)=3)) rfl rfl (Bool.not_eq_eq_eq_not.1 hg) (wv (r:=rv (C6 5 v37 (Ci 1) 0)) (BQ (k:=2) BL rfl D5 rfl (AW ho) rfl rfl rfl) (AG (b:=!decide ((hb.1.length:Int)=3)) rfl rfl (Bool.not_eq_eq_eq_not.1 hg) (wv (r:=rS ((Aj hb.1 1).fID)) (Dq (enc:=Ah) (ys:=hb.1) (i:=2) (j:=1) DF rfl rfl ho rfl) (AG (b:=!decide ((hb.1.length:Int)=3)) rfl rfl (Bool.not_eq_eq_eq_not.1 hg) (wv (K8 rfl rfl) (wv (r:=rB (!decide (((Aj hb.1 1).fID)=([97]:Ak)))) (A1 (b:=!decide ((hb.1.length:Int)=3)) rfl (Bool.not_eq_eq_eq_not.1 hg) rfl) ?_))))))))))))))))))));refine wm rfl (ck hP λhp hQ=>AG (b:=!decide (((Aj hb.1 1).fID)=([97]:Ak))) rfl rfl (Bool.not_eq_eq_eq_not.1 hp) (wm rfl (AG (b:=!decide (((Aj hb.1 1).fID)=([97]:Ak))) rfl rfl (Bool.not_eq_eq_eq_not.1 hp) (wv (Eb rfl rfl) (wv (r:=rB (!decide (he.1=3))) (A1 (b:=!decide (((Aj hb.1 1).fID)=([97]:Ak))) rfl (Bool.not_eq_eq_eq_not.1 hp) rfl) (wm rfl (ck hQ λhq hR=>AG (b:=!decide (he.1=3)) rfl rfl (Bool.not_eq_eq_eq_not.1 hq) (wm rfl (AG (b:=!decide (he.1=3)) rfl rfl (Bool.not_eq_eq_eq_not.1 hq) (wv (BD rfl) (wv (r:=rB (!he.2.1)) (A1 (b:=!decide (he.1=3)) rfl (Bool.not_eq_eq_eq_not.1 hq) rfl) (Aw (ck hR λhS hT=>DJ (b:=!he.2.1) rfl (Bool.not_eq_eq_eq_not.1 hS) (A0 (AQ (Al (wm rfl (ob hT λht hU hV=>Gw (Hr:=[.row v37 31 5 (AD Ah hb.1),.row v33 31 5 (AD Ah ha.1)]) Tryz.call24 (MZ b4 b5 he.2.2 ([99]:Ak) ht hU) rfl (Ug _) rfl ?_))))))))))))))))));rintro _ _ ⟨rfl,rfl⟩;refine wv (Bj rfl rfl) (wm rfl (ck hV λhm hW=>wo hm (wm rfl (wo hm (ob hW λhu hX hY=>Gw (Hr:=[.row v37 31 5 (AD Ah hb.1),.row v33 31 5 (AD Ah ha.1)]) Tryz.call25 (K0 b4 b5 ht.2 ([97]:Ak) hu hX) rfl (Ug _) rfl ?_)))));rintro _ _ ⟨rfl,rfl⟩;refine wo hm (wv (Bj rfl rfl) (Eu rfl hm rfl (wm rfl (ck hY λhj hZ=>wo hj (wm rfl (wo hj (ob hZ λhw ga gb=>CS Tryz.call23 (NV ([100]:Ak) 3 hw ga) rfl (wo hj (ob gb λgc gd ge=>Gw (Hr:=[.row v37 31 5 (AD Ah hb.1),.row v33 31 5 (AD Ah ha.1)]) Pz (J2 F b4 b5 hu.2 hw 4 gc gd) rfl (Ug _) rfl ?_)))))))));rintro _ _ ⟨rfl,rfl⟩;refine wo hj (wv (Bj rfl rfl) (Eu rfl hj rfl (wa rfl (Aw (Az ?_)))));obtain rfl:=A2 ge;exact Ay (Bw Tryz.results6 (AT rfl)) (sS (sS (sS (sS sN)))) ⟨rfl,rfl⟩
theorem Q6 (F:Nat)(l:(List AM))(r:Bool)(h:JT F l=some r):Fn Tryz.prog GE 5 [AY 7 (AD Au l)] [] (λR H=>R=rB r∧H=[]):=by
 refine enter (n:=20) Tryz.func5 rfl Tryz.ntmps5 rfl (λw Z=>?_);unfold JT at h;refine Al (wa rfl (Aw (At (Al (wm rfl (wv (B1 (ys:=l) (enc:=Au) IS rfl) (wv (Dl rfl rfl) (Aw (cz h rfl (λc1 h2=>?_) (λc1 h3=>?_))))))))))
 ·refine Al (wa rfl (Aw (Az (Af ?_))));obtain rfl:=A2 h2;exact Ay (Bw Tryz.results5 (AT rfl)) sN ⟨rfl,rfl⟩
 ·refine A0 (AQ (At (Al (wm rfl (wv (B1 (ys:=l) (enc:=Au) IS rfl) (wv (r:=Aq 0) (A3 rfl) (Aw (AJ (ob h3 λhg hh hf=>Bs (S:=Nat×(Int)×(Unit)) (V:=(Unit)×(Unit)) 0 (λσ=>Cu (λσ=>Dm F l σ) σ.1 σ.2.1=some hg) (λσ=>[(0,AY 7 (AD Au l)),(2,rB false),(8,Aq (l.length:Int)),(9,Aq σ.2.1)]) (λσ=>[]) (λσ=>σ.1) (F,0,()) hh (AF.c rfl (AF.c rfl (AF.c rfl (AF.c rfl AF.nil)))) sN (λσ=>GY =some r) (λσ=>[(2,rB false)]) (λσ=>[]) ?_ ?_)))))))))
  ·rintro⟨h1,ha,⟨⟩⟩ hi;refine Ca (l':=[(0,AY 7 (AD Au l)),(2,rB false),(8,Aq (l.length:Int)),(9,Aq ha)]) (H':=[]) rfl rfl ?_;obtain⟨hj,rfl,t46,hb,he⟩:=CJ hi;replace hb:Dm F l ha=some t46:=hb;unfold Dm at hb;refine Al (wv (C0 rfl rfl) (Aw (At (cz hb rfl (λhk hl=>?_) (λhk hm=>?_)))))
   ·refine A0 (AQ (At (AJ (Al (wm rfl (wa rfl (BW (wm rfl (wm rfl (ck hl λhn ho=>wv (BN (enc:=Au) (ys:=l) IS Iq rfl rfl hn) (wv (Br Gf rfl BP rfl rfl) (wv (BX EE BP rfl rfl rfl) (ob ho λhp hq hr=>CS Tryz.call22 (PS F ((Aj l ha).fTimer) hp hq) rfl (wv (BD rfl) (Aw (cz hr rfl (λhs ht=>?_) (λhs hu=>?_)))))))))))))))))
    ·refine Al (wa rfl (Aw (Az (A9 (Af (Af (Bi ?_)))))));have hw:=BC ht he hf;refine A9 (Af ?_);obtain rfl:=A2 hw;exact Ay (Bw Tryz.results5 (AT rfl)) sN ⟨rfl,rfl⟩
    ·refine A0 (AO (AQ (An (ck hu λhx hy=>wv (Bt rfl rfl hx) (wm rfl (Am ?_))))));have hz:=Be hy he;exact A5 (AE (hj,ha+1,()) ⟨hz,Ur _⟩ (AF.c rfl (AF.c rfl (AF.c rfl (AF.c rfl AF.nil)))) sN)
   ·refine Bu (A4 ?_);have h0:=BY hm he hf;exact A4 (Bb (AE ((),()) h0 (AF.c rfl AF.nil) sN))
  ·rintro⟨⟨⟩,⟨⟩⟩ hd;refine C7 (l':=[(2,rB false)]) (H':=[]) rfl rfl ?_;replace hd:GY =some r:=hd;unfold GY at hd;refine Ba (AQ (Al (wa rfl (Aw (Az ?_)))));obtain rfl:=A2 hd;exact Ay (Bw Tryz.results5 (AT rfl)) sN ⟨rfl,rfl⟩
theorem NU (F:Nat)(hb:Nat)(ha:Nat)(q:A8)(o:AM)(r:Int×A8)(h:M3 F q o=some r):Fn Tryz.prog GE 12 [rP hb 0,Bf (Au o)] [.blk hb [rv (.map (some ha))] 54,.map ha (AV Ai q.fTimers)] (λR H=>R=Aq r.1∧H=[.blk hb [rv (.map (some ha))] 54,.map ha (AV Ai r.2.fTimers)]):=by
 refine enter (n:=30) Tryz.func12 rfl Tryz.ntmps12 rfl (λw Z=>?_);unfold M3 at h;refine Al (B3 rfl rfl (λb1=>?_));refine wa rfl (Aw (At (Al (vF Gf rfl Cv (vL 0 CC rfl (wv (Bj rfl rfl) (Aw (cz h rfl (λc2 h3=>?_) (λc2 h7=>?_)))))))))
 ·refine Al (wm rfl (vF Gf rfl BP (wv (Bo (i:=0) EE BP rfl rfl rfl rfl) (vF Gf rfl Cv (vL 0 CC rfl (ob h3 λr4 e6 h5=>Gw (Hr:=[.blk b1 (Au o) 33]) Pz (J2 F hb ha q o.fTimer o.fNow r4 e6) rfl ((Ar (i:=1) rfl).trans (Uf _ ((Ar (i:=1) rfl).trans (Uf _ (Ug _))))) rfl ?_))))));rintro _ _ ⟨rfl,rfl⟩;refine wa rfl (Aw (Az (Af ?_)));obtain rfl:=A2 h5;exact Ay (Bw Rc (AT rfl)) (sC (sC (sS sN))) ⟨rfl,rfl⟩
 ·refine A0 (AQ (At (Al (vF Gf rfl Cv (vL 0 CC rfl (wv (Bj rfl rfl) (Aw (cz h7 rfl (λc8 h9=>?_) (λc8 hd=>?_)))))))))
  ·refine Al (wm rfl (vF Gf rfl BP (vF BL rfl D5 (vL 0 DF rfl (ob h9 λhe hf hg=>Gw (Hr:=[.blk b1 (Au o) 33]) Tryz.call24 (MZ hb ha q o.fTimer.fID he hf) rfl ((Ar (i:=1) rfl).trans (Uf _ ((Ar (i:=1) rfl).trans (Uf _ (Ug _))))) rfl ?_)))));rintro _ _ ⟨rfl,rfl⟩;refine wa rfl (Aw (Az (Af ?_)));obtain rfl:=A2 hg;exact Ay (Bw Rc (AT rfl)) (sC (sC (sS sN))) ⟨rfl,rfl⟩
  ·refine A0 (AQ (At (Al (vF Gf rfl Cv (vL 0 CC rfl (wv (Bj rfl rfl) (Aw (cz hd rfl (λhh hi=>?_) (λhh hj=>?_)))))))))
   ·refine Al (wm rfl (vF Gf rfl BP (vF BL rfl D5 (vL 0 DF rfl (ob hi λhk hl hm=>Gw (Hr:=[.blk b1 (Au o) 33]) Tryz.call25 (K0 hb ha q o.fTimer.fID hk hl) rfl ((Ar (i:=1) rfl).trans (Uf _ ((Ar (i:=1) rfl).trans (Uf _ (Ug _))))) rfl ?_)))));rintro _ _ ⟨rfl,rfl⟩;refine wa rfl (Aw (Az (Af ?_)));obtain rfl:=A2 hm;exact Ay (Bw Rc (AT rfl)) (sC (sC (sS sN))) ⟨rfl,rfl⟩
   ·refine A0 (AQ (Al (wa rfl (Aw (Az ?_)))));obtain rfl:=A2 hj;exact Ay (Bw Rc (AT rfl)) (sS (sC (sC sN))) ⟨rfl,rfl⟩
theorem NT (F:Nat)(ha:Nat)(hb:Value)(q:Ap)(o:AM)(r:Int×Ap)(h:M1 F q o=some r):Fn Tryz.prog GE 13 [rP ha 0,Bf (Au o)] [.blk ha [rB q.fMade,rv hb] 57,.row hb 68 6 (AD Ae q.fTimers)] (λR H=>∃w0_1:Value,R=Aq r.1∧H=[.blk ha [rB r.2.fMade,rv w0_1] 57,.row w0_1 68 6 (AD Ae r.2.fTimers)]):=by
 refine enter (n:=30) Tryz.func13 rfl Tryz.ntmps13 rfl (λw Z=>?_);unfold M1 at h;refine Al (B3 rfl rfl (λb1=>?_));refine wa rfl (Aw (At (Al (vF Gf rfl Cv (vL 0 CC rfl (wv (Bj rfl rfl) (Aw (cz h rfl (λc2 h3=>?_) (λc2 h8=>?_)))))))))
 ·refine Al (wm rfl (vF Gf rfl BP (wv (Bo (i:=0) EE BP rfl rfl rfl rfl) (vF Gf rfl Cv (vL 0 CC rfl (ob h3 λr4 e6 h5=>Gw (Hr:=[.blk b1 (Au o) 33]) Tryz.call32 (S4 F ha hb q o.fTimer o.fNow r4 e6) rfl ((Ar (i:=1) rfl).trans (Uf _ ((Ar (i:=1) rfl).trans (Uf _ (Ug _))))) rfl ?_))))));rintro _ _ ⟨v7,rfl,rfl⟩;refine wa rfl (Aw (Az (Af ?_)));obtain rfl:=A2 h5;exact Ay (Bw Rb (AT rfl)) (sC (sC (sS sN))) ⟨v7,rfl,rfl⟩
 ·refine A0 (AQ (At (Al (vF Gf rfl Cv (vL 0 CC rfl (wv (Bj rfl rfl) (Aw (cz h8 rfl (λc9 hd=>?_) (λc9 he=>?_)))))))))
  ·refine Al (wm rfl (vF Gf rfl BP (vF BL rfl D5 (vL 0 DF rfl (ob hd λhf hg hh=>Gw (Hr:=[.blk b1 (Au o) 33]) Tryz.call33 (S7 F ha hb q o.fTimer.fID hf hg) rfl ((Ar (i:=1) rfl).trans (Uf _ ((Ar (i:=1) rfl).trans (Uf _ (Ug _))))) rfl ?_)))));rintro _ _ ⟨hi,rfl,rfl⟩;refine wa rfl (Aw (Az (Af ?_)));obtain rfl:=A2 hh;exact Ay (Bw Rb (AT rfl)) (sC (sC (sS sN))) ⟨hi,rfl,rfl⟩
  ·refine A0 (AQ (At (Al (vF Gf rfl Cv (vL 0 CC rfl (wv (Bj rfl rfl) (Aw (cz he rfl (λhj hk=>?_) (λhj hl=>?_)))))))))
   ·refine Al (wm rfl (vF Gf rfl BP (vF BL rfl D5 (vL 0 DF rfl (ob hk λhm hn ho=>Gw (Hr:=[.blk b1 (Au o) 33]) Tryz.call34 (OC F ha hb q o.fTimer.fID hm hn) rfl ((Ar (i:=1) rfl).trans (Uf _ ((Ar (i:=1) rfl).trans (Uf _ (Ug _))))) rfl ?_)))));rintro _ _ ⟨v21,rfl,rfl⟩;refine wa rfl (Aw (Az (Af ?_)));obtain rfl:=A2 ho;exact Ay (Bw Rb (AT rfl)) (sC (sC (sS sN))) ⟨v21,rfl,rfl⟩
   ·refine A0 (AQ (Al (wa rfl (Aw (Az ?_)))));obtain rfl:=A2 hl;exact Ay (Bw Rb (AT rfl)) (sS (sC (sC sN))) ⟨hb,rfl,rfl⟩
theorem Q4 (F:Nat)(l:(List AM))(r:Bool)(h:JS F l=some r):Fn Tryz.prog GE 3 [AY 7 (AD Au l)] [] (λR H=>R=rB r∧H=[]):=by
 refine enter (n:=88) Tryz.func3 rfl Tryz.ntmps3 rfl (λw Z=>?_);unfold JS at h;refine Al (wa rfl (Aw (At (Al (wm rfl (ob h λr1 e3 h2=>CS Tryz.call5 (Q6 F l r1 e3) rfl (wv (BD rfl) (Aw (cz h2 rfl (λc4 h5=>?_) (λc4 h9=>?_))))))))))
 ·refine Al (ob h5 λr6 e8 h7=>CS Tryz.call6 (M4 F r6 e8) rfl (wa rfl (Aw (Az (Af ?_)))));obtain rfl:=A2 h7;exact Ay (Bw SX (AT rfl)) sN ⟨rfl,rfl⟩
 ·refine A0 (AQ (Al (ob h9 λh8 gb gc=>Gw (Hr:=[]) Tryz.call7 (PB h8 gb) rfl (Ug _) rfl ?_)));rintro _ _ ⟨hd,hb,rfl,rfl⟩;refine ob gc λh0 gd ge=>Gw (Hr:=[.blk hd [rv (.map (some hb))] 54,.map hb (AV Ai h8.fTimers)]) Tryz.call8 (S5 h0 gd) rfl (Ug _) rfl ?_;rintro _ _ ⟨he,hN,rfl,rfl⟩;refine wa rfl (wa rfl (Aw (At (Al (wm rfl (wv (r:=rB false) (GD ⟨_,So⟩ rfl) (Aw (DJ rfl rfl (A0 (AQ (At (Al (wm rfl (wv (B1 (ys:=l) (enc:=Au) IS rfl) (wv (r:=Aq 0) (A3 rfl) (Aw (AJ (HF (H2:=[.blk he [rB h0.fMade,rv hN] 57,.blk hd [rv (.map (some hb))] 54,.map hb (AV Ai h8.fTimers),.row hN 68 6 (AD Ae h0.fTimers)]) ((Ar (i:=0) rfl).trans (Uf _ ((Ar (i:=1) rfl).trans (Uf _ ((Ar (i:=1) rfl).trans (Uf _ (Ug _))))))) (ob ge λgf gg hA=>Bs (S:=Nat×(Int×Bool×(List As)×(List (Ak×Aa)))×(Value)) (V:=(Unit)×(Unit)) 0 (λσ=>Cu (λσ=>Dz F l σ.1 σ.2.1 σ.2.2.1 σ.2.2.2) σ.1 σ.2.1=some gf) (λσ=>[(0,AY 7 (AD Au l)),(3,rP hd 0),(4,rP he 0),(19,Aq (l.length:Int)),(20,Aq σ.2.1.1)]) (λσ=>[.blk he [rB σ.2.1.2.1,rv σ.2.2] 57,.blk hd [rv (.map (some hb))] 54,.map hb (AV Ai σ.2.1.2.2.2),.row σ.2.2 68 6 (AD Ae σ.2.1.2.2.1)]) (λσ=>σ.1) (F,(0,h0.fMade,h0.fTimers,h8.fTimers),hN) gg (AF.c5 rfl rfl rfl rfl rfl AF.nil) (sC (sC (sC (sC sN)))) (λσ=>EZ F =some r) (λσ=>[]) (λσ=>[]) ?_ ?_)))))))))))))))))))
  ·rintro⟨gY,⟨ha,hr,hs,hw⟩,hj⟩ gh;refine Ca (l':=[(0,AY 7 (AD Au l)),(3,rP hd 0),(4,rP he 0),(19,Aq (l.length:Int)),(20,Aq ha)]) (H':=[.blk he [rB hr,rv hj] 57,.blk hd [rv (.map (some hb))] 54,.map hb (AV Ai hw),.row hj 68 6 (AD Ae hs)]) rfl rfl ?_;obtain⟨gi,rfl,h1,hB,h3⟩:=CJ gh;replace hB:Dz F l ha hr hs hw=some h1:=hB;unfold Dz at hB;refine Al (wv (C0 rfl rfl) (Aw (At (cz hB rfl (λgj gl=>?_) (λgj gm=>?_)))))
   ·refine A0 (AQ (At (AJ (Al (wm rfl (wa rfl (Aw (At (CV (S:=(Bool×Bool×(List As)×(List (Ak×Aa)))×(Value)) (λσ=>DO F l ha σ.1.1 σ.1.2.1 σ.1.2.2.1 σ.1.2.2.2=some h1) (λσ=>[(0,AY 7 (AD Au l)),(3,rP hd 0),(4,rP he 0),(5,Aq ha),(19,Aq (l.length:Int)),(20,Aq ha),(23,AY 7 (AD Au l)),(24,Aq ha),(27,Aq ((Aj l ha).fKind)),(28,rB (decide (((Aj l ha).fKind)=1))),(29,rB (decide (((Aj l ha).fKind)=1))),(46,rB σ.1.1)]) (λσ=>[.blk he [rB σ.1.2.1,rv σ.2] 57,.blk hd [rv (.map (some hb))] 54,.map hb (AV Ai σ.1.2.2.2),.row σ.2 68 6 (AD Ae σ.1.2.2.1)]) ?_ ?_)))))))))
    ·refine ck gl λhC gp=>bz gp (λhh gq=>?_) (λhh gr=>?_)
     ·refine ob gq λhl gs gt=>KX 20 [13] [0,3,4,5,19,20] [] [{ deps:=[],r:=λ_=>AY 7 (AD Au l) },{ deps:=[],r:=λ_=>Aq ha },{ deps:=[0,1],r:=λ_=>H4 [Aq ((Aj l ha).fKind),Aq ((Aj l ha).fNow),rS (((Aj l ha).fTimer).fID),Aq (((Aj l ha).fTimer).fAt),rS (((Aj l ha).fTimer).fTenant),rS (((Aj l ha).fTimer).fSource),AY 4 (AD Ad (((Aj l ha).fTimer).fBody))] },{ deps:=[2],r:=λ_=>H4 [Aq ((Aj l ha).fKind),Aq ((Aj l ha).fNow),rS (((Aj l ha).fTimer).fID),Aq (((Aj l ha).fTimer).fAt),rS (((Aj l ha).fTimer).fTenant),rS (((Aj l ha).fTimer).fSource),AY 4 (AD Ad (((Aj l ha).fTimer).fBody))] },{ deps:=[3],r:=λ_=>Aq ((Aj l ha).fKind) },{ deps:=[4],r:=λ_=>rB (decide (((Aj l ha).fKind)=1)) },{ deps:=[5],r:=λ_=>rB (decide (((Aj l ha).fKind)=1)) },{ deps:=[6],r:=λ_=>rP hd 0 },{ deps:=[6],r:=λ_=>AY 7 (AD Au l) },{ deps:=[6],r:=λ_=>Aq ha },{ deps:=[8,9,6],r:=λ_=>H4 [Aq ((Aj l ha).fKind),Aq ((Aj l ha).fNow),rS (((Aj l ha).fTimer).fID),Aq (((Aj l ha).fTimer).fAt),rS (((Aj l ha).fTimer).fTenant),rS (((Aj l ha).fTimer).fSource),AY 4 (AD Ad (((Aj l ha).fTimer).fBody))] },{ deps:=[10,6],r:=λ_=>H4 [Aq ((Aj l ha).fNow),rS (((Aj l ha).fTimer).fID),Aq (((Aj l ha).fTimer).fAt),rS (((Aj l ha).fTimer).fTenant),rS (((Aj l ha).fTimer).fSource),AY 4 (AD Ad (((Aj l ha).fTimer).fBody))] },{ deps:=[11,6],r:=λ_=>Aq ((Aj l ha).fNow) },{ deps:=[7,12,6],r:=λu=>rv (u 0 0).1,lv:=1 },{ deps:=[6],r:=λ_=>rP he 0 },{ deps:=[6],r:=λ_=>AY 7 (AD Au l) },{ deps:=[6],r:=λ_=>Aq ha },{ deps:=[15,16,6],r:=λ_=>H4 [Aq ((Aj l ha).fKind),Aq ((Aj l ha).fNow),rS (((Aj l ha).fTimer).fID),Aq (((Aj l ha).fTimer).fAt),rS (((Aj l ha).fTimer).fTenant),rS (((Aj l ha).fTimer).fSource),AY 4 (AD Ad (((Aj l ha).fTimer).fBody))] },{ deps:=[17,6],r:=λ_=>H4 [Aq ((Aj l ha).fNow),rS (((Aj l ha).fTimer).fID),Aq (((Aj l ha).fTimer).fAt),rS (((Aj l ha).fTimer).fTenant),rS (((Aj l ha).fTimer).fSource),AY 4 (AD Ad (((Aj l ha).fTimer).fBody))] },{ deps:=[18,6],r:=λ_=>Aq ((Aj l ha).fNow) }] [λ_=>[.blk he [rB hr,rv hj] 57,.blk hd [rv (.map (some hb))] 54,.map hb (AV Ai hw),.row hj 68 6 (AD Ae hs)],λu=>[.row (u 0 0).1 31 5 (AD Ah hl.1),.blk hd [rv (.map (some hb))] 54,.map hb (AV Ai hl.2.fTimers),.blk he [rB hr,rv hj] 57,.row hj 68 6 (AD Ae hs)]] ⟨CU,CU,CU,CU,CU,CU,CU,CU,CU,CU,CU,CU,CU,(λu u' h=>by simp only[h 0 (by decide)]),CU,CU,CU,CU,CU,CU,trivial⟩ ?_ (λu=>?_)
      ·exact Dp (fun {u _}=>BK (A3 rfl)) (Dp (fun {u _}=>BK (A3 rfl)) (Dp (fun {u _}=>BK (BN (enc:=Au) (ys:=l) IS Iq rfl rfl hC)) (Dp (fun {u _}=>BK (Br Gf rfl Cv rfl rfl)) (Dp (fun {u _}=>BK (C1 CC rfl rfl)) (Dp (fun {u _}=>BK (Bj rfl rfl)) (Dp (fun {u _}=>BK (A3 rfl)) (Dp (fun {u _}=>D7 (b:=decide (((Aj l ha).fKind)=1)) rfl rfl hh (BK (A3 rfl))) (Dp (fun {u _}=>D7 (b:=decide (((Aj l ha).fKind)=1)) rfl rfl hh (BK (A3 rfl))) (Dp (fun {u _}=>D7 (b:=decide (((Aj l ha).fKind)=1)) rfl rfl hh (BK (A3 rfl))) (Dp (fun {u _}=>D7 (b:=decide (((Aj l ha).fKind)=1)) rfl rfl hh (BK (BN (enc:=Au) (ys:=l) IS Iq rfl rfl hC))) (Dp (fun {u _}=>D7 (b:=decide (((Aj l ha).fKind)=1)) rfl rfl hh (BK (Br Gf rfl Cv rfl rfl))) (Dp (fun {u _}=>D7 (b:=decide (((Aj l ha).fKind)=1)) rfl rfl hh (BK (C1 CC rfl rfl))) (SV 0 (fun {u}=>SY (b:=decide (((Aj l ha).fKind)=1)) rfl rfl hh (Is (Hin:=[.blk hd [rv (.map (some hb))] 54,.map hb (AV Ai hw)]) (Hr:=[.blk he [rB hr,rv hj] 57,.row hj 68 6 (AD Ae hs)]) Tryz.call10 rfl ((Ar (i:=1) rfl).trans (Uf _ ((Ar (i:=1) rfl).trans (Uf _ (Ug _))))) (MW F hd hb (A8.mk hw) ((Aj l ha).fNow) hl gs) (by rintro _ _ ⟨hD,rfl,rfl⟩;exact⟨ux u 0 [(hD,0)],KR,rfl,rfl⟩))) (Dp (fun {u _}=>D7 (b:=decide (((Aj l ha).fKind)=1)) rfl rfl hh (BK (A3 rfl))) (Dp (fun {u _}=>D7 (b:=decide (((Aj l ha).fKind)=1)) rfl rfl hh (BK (A3 rfl))) (Dp (fun {u _}=>D7 (b:=decide (((Aj l ha).fKind)=1)) rfl rfl hh (BK (A3 rfl))) (Dp (fun {u _}=>D7 (b:=decide (((Aj l ha).fKind)=1)) rfl rfl hh (BK (BN (enc:=Au) (ys:=l) IS Iq rfl rfl hC))) (Dp (fun {u _}=>D7 (b:=decide (((Aj l ha).fKind)=1)) rfl rfl hh (BK (Br Gf rfl Cv rfl rfl))) (Dp (fun {u _}=>D7 (b:=decide (((Aj l ha).fKind)=1)) rfl rfl hh (BK (C1 CC rfl rfl))) (T7))))))))))))))))))))
      refine G8 (H1:=[.row (u 0 0).1 31 5 (AD Ah hl.1),.blk hd [rv (.map (some hb))] 54,.map hb (AV Ai hl.2.fTimers),.blk he [rB hr,rv hj] 57,.row hj 68 6 (AD Ae hs)]) [23,24,25,26,27,28,29,30,31,32,33,34,35,36,37,38,39,40,41,42,0,3,4,5,19,20] ?_;refine WL.sub (l':=[(23,AY 7 (AD Au l)),(24,Aq ha),(25,H4 [Aq ((Aj l ha).fKind),Aq ((Aj l ha).fNow),rS (((Aj l ha).fTimer).fID),Aq (((Aj l ha).fTimer).fAt),rS (((Aj l ha).fTimer).fTenant),rS (((Aj l ha).fTimer).fSource),AY 4 (AD Ad (((Aj l ha).fTimer).fBody))]),(26,H4 [Aq ((Aj l ha).fKind),Aq ((Aj l ha).fNow),rS (((Aj l ha).fTimer).fID),Aq (((Aj l ha).fTimer).fAt),rS (((Aj l ha).fTimer).fTenant),rS (((Aj l ha).fTimer).fSource),AY 4 (AD Ad (((Aj l ha).fTimer).fBody))]),(27,Aq ((Aj l ha).fKind)),(28,rB (decide (((Aj l ha).fKind)=1))),(29,rB (decide (((Aj l ha).fKind)=1))),(30,rP hd 0),(31,AY 7 (AD Au l)),(32,Aq ha),(33,H4 [Aq ((Aj l ha).fKind),Aq ((Aj l ha).fNow),rS (((Aj l ha).fTimer).fID),Aq (((Aj l ha).fTimer).fAt),rS (((Aj l ha).fTimer).fTenant),rS (((Aj l ha).fTimer).fSource),AY 4 (AD Ad (((Aj l ha).fTimer).fBody))]),(34,H4 [Aq ((Aj l ha).fNow),rS (((Aj l ha).fTimer).fID),Aq (((Aj l ha).fTimer).fAt),rS (((Aj l ha).fTimer).fTenant),rS (((Aj l ha).fTimer).fSource),AY 4 (AD Ad (((Aj l ha).fTimer).fBody))]),(35,Aq ((Aj l ha).fNow)),(36,rv (u 0 0).1),(37,rP he 0),(38,AY 7 (AD Au l)),(39,Aq ha),(40,H4 [Aq ((Aj l ha).fKind),Aq ((Aj l ha).fNow),rS (((Aj l ha).fTimer).fID),Aq (((Aj l ha).fTimer).fAt),rS (((Aj l ha).fTimer).fTenant),rS (((Aj l ha).fTimer).fSource),AY 4 (AD Ad (((Aj l ha).fTimer).fBody))]),(41,H4 [Aq ((Aj l ha).fNow),rS (((Aj l ha).fTimer).fID),Aq (((Aj l ha).fTimer).fAt),rS (((Aj l ha).fTimer).fTenant),rS (((Aj l ha).fTimer).fSource),AY 4 (AD Ad (((Aj l ha).fTimer).fBody))]),(42,Aq ((Aj l ha).fNow)),(0,AY 7 (AD Au l)),(3,rP hd 0),(4,rP he 0),(5,Aq ha),(19,Aq (l.length:Int)),(20,Aq ha)]) (AF.c rfl (AF.c5 rfl rfl rfl rfl rfl (AF.c5 rfl rfl rfl rfl rfl (AF.c5 rfl rfl rfl rfl rfl (AF.c5 rfl rfl rfl rfl rfl (AF.c5 rfl rfl rfl rfl rfl AF.nil)))))) (List.Sublist.refl _) ?_;generalize(u 0 0).1=hD;refine wo hh (ob gt λhx gu gv=>Gw (Hr:=[.row hD 31 5 (AD Ah hl.1),.blk hd [rv (.map (some hb))] 54,.map hb (AV Ai hl.2.fTimers)]) Tryz.call11 (S6 F he hj (Ap.mk hr hs) ((Aj l ha).fNow) hx gu) rfl ((Ar (i:=3) rfl).trans (Uf _ ((Ar (i:=3) rfl).trans (Uf _ (Ug _))))) rfl ?_);rintro _ _ ⟨gw,hO,rfl,rfl⟩;exact wo hh (WL.freeze (i:=3) rfl (WL.up (d:=36) (r:=AY 5 (AD Ah hl.1)) rfl (Up.fact (i:=0) rfl) (WL.freeze (i:=1) rfl (WL.up (d:=43) (r:=AY 5 (AD Ah hx.1)) rfl (Up.fact (i:=0) rfl) (ob gv λhV gx gy=>CS Tryz.call9 (LW F hl.1 hx.1 hV gx) rfl (wo hh (wv (BD rfl) (Eu rfl hh rfl (Am (Cn (H2:=[.blk he [rB hx.2.fMade,rv hO] 57,.blk hd [rv (.map (some hb))] 54,.map hb (AV Ai hl.2.fTimers),.row hO 68 6 (AD Ae hx.2.fTimers),.fact gw (AY 5 (AD Ah hx.1)),.fact hD (AY 5 (AD Ah hl.1))]) ((Ar (i:=2) rfl).trans (Uf _ ((Ar (i:=3) rfl).trans (Uf _ ((Ar (i:=3) rfl).trans (Uf _ ((Ar (i:=2) rfl).trans (Uf _ (Ug _))))))))) (A5 (AE ((!hV,hx.2.fMade,hx.2.fTimers,hl.2.fTimers),hO) gy (AF.c rfl (AF.c rfl (AF.c5 rfl rfl rfl rfl rfl (AF.c5 rfl rfl rfl rfl rfl AF.nil)))) (sC (sC (sC (sC (sS (sS sN))))))))))))))))))
     ·refine KX 20 [] [0,3,4,5,19,20] [] [{ deps:=[],r:=λ_=>AY 7 (AD Au l) },{ deps:=[],r:=λ_=>Aq ha },{ deps:=[0,1],r:=λ_=>H4 [Aq ((Aj l ha).fKind),Aq ((Aj l ha).fNow),rS (((Aj l ha).fTimer).fID),Aq (((Aj l ha).fTimer).fAt),rS (((Aj l ha).fTimer).fTenant),rS (((Aj l ha).fTimer).fSource),AY 4 (AD Ad (((Aj l ha).fTimer).fBody))] },{ deps:=[2],r:=λ_=>H4 [Aq ((Aj l ha).fKind),Aq ((Aj l ha).fNow),rS (((Aj l ha).fTimer).fID),Aq (((Aj l ha).fTimer).fAt),rS (((Aj l ha).fTimer).fTenant),rS (((Aj l ha).fTimer).fSource),AY 4 (AD Ad (((Aj l ha).fTimer).fBody))] },{ deps:=[3],r:=λ_=>Aq ((Aj l ha).fKind) },{ deps:=[4],r:=λ_=>rB (decide (((Aj l ha).fKind)=1)) },{ deps:=[5],r:=λ_=>rB (decide (((Aj l ha).fKind)=1)) },{ deps:=[6],r:=λ_=>rv undef },{ deps:=[6],r:=λ_=>rv undef },{ deps:=[6],r:=λ_=>rv undef },{ deps:=[8,9,6],r:=λ_=>rv undef },{ deps:=[10,6],r:=λ_=>rv undef },{ deps:=[11,6],r:=λ_=>rv undef },{ deps:=[7,12,6],r:=λ_=>rv undef },{ deps:=[6],r:=λ_=>rv undef },{ deps:=[6],r:=λ_=>rv undef },{ deps:=[6],r:=λ_=>rv undef },{ deps:=[15,16,6],r:=λ_=>rv undef },{ deps:=[17,6],r:=λ_=>rv undef },{ deps:=[18,6],r:=λ_=>rv undef }] [λ_=>[.blk he [rB hr,rv hj] 57,.blk hd [rv (.map (some hb))] 54,.map hb (AV Ai hw),.row hj 68 6 (AD Ae hs)]] ⟨CU,CU,CU,CU,CU,CU,CU,CU,CU,CU,CU,CU,CU,CU,CU,CU,CU,CU,CU,CU,trivial⟩ ?_ (λu=>?_)
      ·exact Dp (fun {u _}=>BK (A3 rfl)) (Dp (fun {u _}=>BK (A3 rfl)) (Dp (fun {u _}=>BK (BN (enc:=Au) (ys:=l) IS Iq rfl rfl hC)) (Dp (fun {u _}=>BK (Br Gf rfl Cv rfl rfl)) (Dp (fun {u _}=>BK (C1 CC rfl rfl)) (Dp (fun {u _}=>BK (Bj rfl rfl)) (Dp (fun {u _}=>BK (A3 rfl)) (Dp (fun {u _}=>Dc (b:=decide (((Aj l ha).fKind)=1)) rfl rfl hh) (Dp (fun {u _}=>Dc (b:=decide (((Aj l ha).fKind)=1)) rfl rfl hh) (Dp (fun {u _}=>Dc (b:=decide (((Aj l ha).fKind)=1)) rfl rfl hh) (Dp (fun {u _}=>Dc (b:=decide (((Aj l ha).fKind)=1)) rfl rfl hh) (Dp (fun {u _}=>Dc (b:=decide (((Aj l ha).fKind)=1)) rfl rfl hh) (Dp (fun {u _}=>Dc (b:=decide (((Aj l ha).fKind)=1)) rfl rfl hh) (Dp (fun {u _}=>Dc (b:=decide (((Aj l ha).fKind)=1)) rfl rfl hh) (Dp (fun {u _}=>Dc (b:=decide (((Aj l ha).fKind)=1)) rfl rfl hh) (Dp (fun {u _}=>Dc (b:=decide (((Aj l ha).fKind)=1)) rfl rfl hh) (Dp (fun {u _}=>Dc (b:=decide (((Aj l ha).fKind)=1)) rfl rfl hh) (Dp (fun {u _}=>Dc (b:=decide (((Aj l ha).fKind)=1)) rfl rfl hh) (Dp (fun {u _}=>Dc (b:=decide (((Aj l ha).fKind)=1)) rfl rfl hh) (Dp (fun {u _}=>Dc (b:=decide (((Aj l ha).fKind)=1)) rfl rfl hh) (T7))))))))))))))))))))
      refine G8 (H1:=[.blk he [rB hr,rv hj] 57,.blk hd [rv (.map (some hb))] 54,.map hb (AV Ai hw),.row hj 68 6 (AD Ae hs)]) [23,24,25,26,27,28,29,30,31,32,33,34,35,36,37,38,39,40,41,42,0,3,4,5,19,20] ?_;exact wf hh (wf hh (wf hh (wv (r:=rB false) (A1 rfl hh rfl) (Am (A5 (AE ((false,hr,hs,hw),hj) gr (AF.c rfl (AF.c rfl (AF.c5 rfl rfl rfl rfl rfl (AF.c5 rfl rfl rfl rfl rfl AF.nil)))) (sC (sC (sC (sC sN))))))))))
    ·rintro⟨⟨hW,hm,hn,hy⟩,hi⟩ hE;refine Ca (l':=[(0,AY 7 (AD Au l)),(3,rP hd 0),(4,rP he 0),(5,Aq ha),(19,Aq (l.length:Int)),(20,Aq ha),(23,AY 7 (AD Au l)),(24,Aq ha),(27,Aq ((Aj l ha).fKind)),(28,rB (decide (((Aj l ha).fKind)=1))),(29,rB (decide (((Aj l ha).fKind)=1))),(46,rB hW)]) (H':=[.blk he [rB hm,rv hi] 57,.blk hd [rv (.map (some hb))] 54,.map hb (AV Ai hy),.row hi 68 6 (AD Ae hn)]) rfl rfl ?_;replace hE:DO F l ha hW hm hn hy=some h1:=hE;unfold DO at hE;refine cz hE rfl (λgz g0=>?_) (λgz g1=>?_)
     ·refine Al (wa rfl (Aw (Az (Af (A9 (Af (Af (Bi ?_))))))));have g2:=BC g0 h3 hA;refine A9 (Af ?_);obtain rfl:=A2 g2;exact Ay (Bw SX (AT rfl)) (sS (sS (sS (sS sN)))) ⟨rfl,rfl⟩
     ·refine A0 (AQ (At (CV (S:=(Int×Int×Bool×Bool×Bool×Bool×(List As)×(List (Ak×Aa)))×(Value)) (λσ=>DN ha σ.1.1 σ.1.2.1 σ.1.2.2.1 σ.1.2.2.2.1 σ.1.2.2.2.2.1 σ.1.2.2.2.2.2.1 σ.1.2.2.2.2.2.2.1 σ.1.2.2.2.2.2.2.2=some h1) (λσ=>[(0,AY 7 (AD Au l)),(3,rP hd 0),(4,rP he 0),(5,Aq ha),(19,Aq (l.length:Int)),(20,Aq ha),(23,AY 7 (AD Au l)),(24,Aq ha),(27,Aq ((Aj l ha).fKind)),(28,rB (decide (((Aj l ha).fKind)=1))),(29,rB (decide (((Aj l ha).fKind)=1))),(47,rP hd 0),(48,AY 7 (AD Au l)),(49,Aq ha),(51,Bf [Aq ((Aj l ha).fKind),Aq ((Aj l ha).fNow),rS (((Aj l ha).fTimer).fID),Aq (((Aj l ha).fTimer).fAt),rS (((Aj l ha).fTimer).fTenant),rS (((Aj l ha).fTimer).fSource),AY 4 (AD Ad (((Aj l ha).fTimer).fBody))]),(52,Aq σ.1.1),(53,rP he 0),(54,AY 7 (AD Au l)),(55,Aq ha),(57,Bf [Aq ((Aj l ha).fKind),Aq ((Aj l ha).fNow),rS (((Aj l ha).fTimer).fID),Aq (((Aj l ha).fTimer).fAt),rS (((Aj l ha).fTimer).fTenant),rS (((Aj l ha).fTimer).fSource),AY 4 (AD Ad (((Aj l ha).fTimer).fBody))]),(58,Aq σ.1.2.1),(59,rB σ.1.2.2.1),(60,rB σ.1.2.2.2.1),(67,rB σ.1.2.2.2.2.1)]) (λσ=>[.blk he [rB σ.1.2.2.2.2.2.1,rv σ.2] 57,.blk hd [rv (.map (some hb))] 54,.map hb (AV Ai σ.1.2.2.2.2.2.2.2),.row σ.2 68 6 (AD Ae σ.1.2.2.2.2.2.2.1)]) ?_ ?_)))
      ·refine ck g1 λhG g3=>ob g3 λhg hX g4=>ob g4 λhf hY g5=>bz g5 (λhk g6=>?_) (λhk g7=>?_)
       ·refine KX 17 [5,11] [0,3,4,5,19,20,23,24,27,28,29] [] [{ deps:=[],r:=λ_=>rP hd 0 },{ deps:=[],r:=λ_=>AY 7 (AD Au l) },{ deps:=[],r:=λ_=>Aq ha },{ deps:=[1,2],r:=λ_=>H4 [Aq ((Aj l ha).fKind),Aq ((Aj l ha).fNow),rS (((Aj l ha).fTimer).fID),Aq (((Aj l ha).fTimer).fAt),rS (((Aj l ha).fTimer).fTenant),rS (((Aj l ha).fTimer).fSource),AY 4 (AD Ad (((Aj l ha).fTimer).fBody))] },{ deps:=[3],r:=λ_=>Bf [Aq ((Aj l ha).fKind),Aq ((Aj l ha).fNow),rS (((Aj l ha).fTimer).fID),Aq (((Aj l ha).fTimer).fAt),rS (((Aj l ha).fTimer).fTenant),rS (((Aj l ha).fTimer).fSource),AY 4 (AD Ad (((Aj l ha).fTimer).fBody))] },{ deps:=[0,4],r:=λ_=>Aq hg.1 },{ deps:=[],r:=λ_=>rP he 0 },{ deps:=[],r:=λ_=>AY 7 (AD Au l) },{ deps:=[],r:=λ_=>Aq ha },{ deps:=[7,8],r:=λ_=>H4 [Aq ((Aj l ha).fKind),Aq ((Aj l ha).fNow),rS (((Aj l ha).fTimer).fID),Aq (((Aj l ha).fTimer).fAt),rS (((Aj l ha).fTimer).fTenant),rS (((Aj l ha).fTimer).fSource),AY 4 (AD Ad (((Aj l ha).fTimer).fBody))] },{ deps:=[9],r:=λ_=>Bf [Aq ((Aj l ha).fKind),Aq ((Aj l ha).fNow),rS (((Aj l ha).fTimer).fID),Aq (((Aj l ha).fTimer).fAt),rS (((Aj l ha).fTimer).fTenant),rS (((Aj l ha).fTimer).fSource),AY 4 (AD Ad (((Aj l ha).fTimer).fBody))] },{ deps:=[6,10],r:=λ_=>Aq hf.1 },{ deps:=[5,11],r:=λ_=>rB (!decide (hg.1=hf.1)) },{ deps:=[12],r:=λ_=>rB (!decide (hg.1=hf.1)) },{ deps:=[13],r:=λ_=>rv undef },{ deps:=[14,13],r:=λ_=>rv undef },{ deps:=[13],r:=λ_=>rv undef }] [λ_=>[.blk he [rB hm,rv hi] 57,.blk hd [rv (.map (some hb))] 54,.map hb (AV Ai hy),.row hi 68 6 (AD Ae hn)],λ_=>[.blk hd [rv (.map (some hb))] 54,.map hb (AV Ai hg.2.fTimers),.blk he [rB hm,rv hi] 57,.row hi 68 6 (AD Ae hn)],λu=>[.blk he [rB hf.2.fMade,rv (u 1 0).1] 57,.row (u 1 0).1 68 6 (AD Ae hf.2.fTimers),.blk hd [rv (.map (some hb))] 54,.map hb (AV Ai hg.2.fTimers)]] ⟨CU,CU,CU,CU,CU,CU,CU,CU,CU,CU,CU,CU,CU,CU,CU,CU,CU,trivial⟩ ?_ (λu=>?_)
        ·exact Dp (fun {u _}=>BK (A3 rfl)) (Dp (fun {u _}=>BK (A3 rfl)) (Dp (fun {u _}=>BK (A3 rfl)) (Dp (fun {u _}=>BK (BN (enc:=Au) (ys:=l) IS Iq rfl rfl hG)) (Dp (fun {u _}=>BK (BX Rd Iq rfl rfl rfl)) (SV 0 (fun {u}=>Is (Hin:=[.blk hd [rv (.map (some hb))] 54,.map hb (AV Ai hy)]) (Hr:=[.blk he [rB hm,rv hi] 57,.row hi 68 6 (AD Ae hn)]) Tryz.call12 rfl ((Ar (i:=1) rfl).trans (Uf _ ((Ar (i:=1) rfl).trans (Uf _ (Ug _))))) (NU F hd hb (A8.mk hy) (AM.mk ((Aj l ha).fKind) ((Aj l ha).fNow) ((Aj l ha).fTimer)) hg hX) (by rintro _ _ ⟨rfl,rfl⟩;exact⟨ux u 0 [],KR,rfl,rfl⟩)) (Dp (fun {u _}=>BK (A3 rfl)) (Dp (fun {u _}=>BK (A3 rfl)) (Dp (fun {u _}=>BK (A3 rfl)) (Dp (fun {u _}=>BK (BN (enc:=Au) (ys:=l) IS Iq rfl rfl hG)) (Dp (fun {u _}=>BK (BX Rd Iq rfl rfl rfl)) (SV 1 (fun {u}=>Is (Hin:=[.blk he [rB hm,rv hi] 57,.row hi 68 6 (AD Ae hn)]) (Hr:=[.blk hd [rv (.map (some hb))] 54,.map hb (AV Ai hg.2.fTimers)]) Tryz.call13 rfl ((Ar (i:=2) rfl).trans (Uf _ ((Ar (i:=2) rfl).trans (Uf _ (Ug _))))) (NT F he hi (Ap.mk hm hn) (AM.mk ((Aj l ha).fKind) ((Aj l ha).fNow) ((Aj l ha).fTimer)) hf hY) (by rintro _ _ ⟨ht,rfl,rfl⟩;exact⟨ux u 1 [(ht,0)],KR,rfl,rfl⟩)) (Dp (fun {u _}=>BK (Eb rfl rfl)) (Dp (fun {u _}=>BK (A3 rfl)) (Dp (fun {u _}=>Dc (b:=!decide (hg.1=hf.1)) rfl rfl hk) (Dp (fun {u _}=>Dc (b:=!decide (hg.1=hf.1)) rfl rfl hk) (Dp (fun {u _}=>Dc (b:=!decide (hg.1=hf.1)) rfl rfl hk) (T7)))))))))))))))))
        refine G8 (H1:=[.blk he [rB hf.2.fMade,rv (u 1 0).1] 57,.row (u 1 0).1 68 6 (AD Ae hf.2.fTimers),.blk hd [rv (.map (some hb))] 54,.map hb (AV Ai hg.2.fTimers)]) [47,48,49,50,51,52,53,54,55,56,57,58,59,60,61,62,63,0,3,4,5,19,20,23,24,27,28,29] ?_;refine WL.sub (l':=[(47,rP hd 0),(48,AY 7 (AD Au l)),(49,Aq ha),(50,H4 [Aq ((Aj l ha).fKind),Aq ((Aj l ha).fNow),rS (((Aj l ha).fTimer).fID),Aq (((Aj l ha).fTimer).fAt),rS (((Aj l ha).fTimer).fTenant),rS (((Aj l ha).fTimer).fSource),AY 4 (AD Ad (((Aj l ha).fTimer).fBody))]),(51,Bf [Aq ((Aj l ha).fKind),Aq ((Aj l ha).fNow),rS (((Aj l ha).fTimer).fID),Aq (((Aj l ha).fTimer).fAt),rS (((Aj l ha).fTimer).fTenant),rS (((Aj l ha).fTimer).fSource),AY 4 (AD Ad (((Aj l ha).fTimer).fBody))]),(52,Aq hg.1),(53,rP he 0),(54,AY 7 (AD Au l)),(55,Aq ha),(56,H4 [Aq ((Aj l ha).fKind),Aq ((Aj l ha).fNow),rS (((Aj l ha).fTimer).fID),Aq (((Aj l ha).fTimer).fAt),rS (((Aj l ha).fTimer).fTenant),rS (((Aj l ha).fTimer).fSource),AY 4 (AD Ad (((Aj l ha).fTimer).fBody))]),(57,Bf [Aq ((Aj l ha).fKind),Aq ((Aj l ha).fNow),rS (((Aj l ha).fTimer).fID),Aq (((Aj l ha).fTimer).fAt),rS (((Aj l ha).fTimer).fTenant),rS (((Aj l ha).fTimer).fSource),AY 4 (AD Ad (((Aj l ha).fTimer).fBody))]),(58,Aq hf.1),(59,rB (!decide (hg.1=hf.1))),(60,rB (!decide (hg.1=hf.1))),(61,rv undef),(62,rv undef),(63,rv undef),(0,AY 7 (AD Au l)),(3,rP hd 0),(4,rP he 0),(5,Aq ha),(19,Aq (l.length:Int)),(20,Aq ha),(23,AY 7 (AD Au l)),(24,Aq ha),(27,Aq ((Aj l ha).fKind)),(28,rB (decide (((Aj l ha).fKind)=1))),(29,rB (decide (((Aj l ha).fKind)=1)))]) (AF.c rfl (AF.c rfl (AF.c rfl (AF.c5 rfl rfl rfl rfl rfl (AF.c5 rfl rfl rfl rfl rfl (AF.c5 rfl rfl rfl rfl rfl (AF.c5 rfl rfl rfl rfl rfl (AF.c5 rfl rfl rfl rfl rfl AF.nil)))))))) (List.Sublist.refl _) ?_;generalize(u 1 0).1=ht;exact wf hk (wf hk (wf hk (wv (r:=rB true) (Ao rfl hk rfl) (Am (Cn (H2:=[.blk he [rB hf.2.fMade,rv ht] 57,.blk hd [rv (.map (some hb))] 54,.map hb (AV Ai hg.2.fTimers),.row ht 68 6 (AD Ae hf.2.fTimers)]) ((Ar (i:=0) rfl).trans (Uf _ ((Ar (i:=1) rfl).trans (Uf _ ((Ar (i:=1) rfl).trans (Uf _ (Ug _))))))) (A5 (AE ((hg.1,hf.1,!decide (hg.1=hf.1),!decide (hg.1=hf.1),true,hf.2.fMade,hf.2.fTimers,hg.2.fTimers),ht) g6 (AF.c rfl (AF.c rfl (AF.c rfl (AF.c rfl (AF.c5 rfl rfl rfl rfl rfl (AF.c5 rfl rfl rfl rfl rfl (AF.c5 rfl rfl rfl rfl rfl (AF.c5 rfl rfl rfl rfl rfl AF.nil)))))))) (sC (sC (sC (sC sN)))))))))))
       ·refine ob g7 λho g8 g9=>KX 17 [5,11,15] [0,3,4,5,19,20,23,24,27,28,29] [] [{ deps:=[],r:=λ_=>rP hd 0 },{ deps:=[],r:=λ_=>AY 7 (AD Au l) },{ deps:=[],r:=λ_=>Aq ha },{ deps:=[1,2],r:=λ_=>H4 [Aq ((Aj l ha).fKind),Aq ((Aj l ha).fNow),rS (((Aj l ha).fTimer).fID),Aq (((Aj l ha).fTimer).fAt),rS (((Aj l ha).fTimer).fTenant),rS (((Aj l ha).fTimer).fSource),AY 4 (AD Ad (((Aj l ha).fTimer).fBody))] },{ deps:=[3],r:=λ_=>Bf [Aq ((Aj l ha).fKind),Aq ((Aj l ha).fNow),rS (((Aj l ha).fTimer).fID),Aq (((Aj l ha).fTimer).fAt),rS (((Aj l ha).fTimer).fTenant),rS (((Aj l ha).fTimer).fSource),AY 4 (AD Ad (((Aj l ha).fTimer).fBody))] },{ deps:=[0,4],r:=λ_=>Aq hg.1 },{ deps:=[],r:=λ_=>rP he 0 },{ deps:=[],r:=λ_=>AY 7 (AD Au l) },{ deps:=[],r:=λ_=>Aq ha },{ deps:=[7,8],r:=λ_=>H4 [Aq ((Aj l ha).fKind),Aq ((Aj l ha).fNow),rS (((Aj l ha).fTimer).fID),Aq (((Aj l ha).fTimer).fAt),rS (((Aj l ha).fTimer).fTenant),rS (((Aj l ha).fTimer).fSource),AY 4 (AD Ad (((Aj l ha).fTimer).fBody))] },{ deps:=[9],r:=λ_=>Bf [Aq ((Aj l ha).fKind),Aq ((Aj l ha).fNow),rS (((Aj l ha).fTimer).fID),Aq (((Aj l ha).fTimer).fAt),rS (((Aj l ha).fTimer).fTenant),rS (((Aj l ha).fTimer).fSource),AY 4 (AD Ad (((Aj l ha).fTimer).fBody))] },{ deps:=[6,10],r:=λ_=>Aq hf.1 },{ deps:=[5,11],r:=λ_=>rB (!decide (hg.1=hf.1)) },{ deps:=[12],r:=λ_=>rB (!decide (hg.1=hf.1)) },{ deps:=[13],r:=λ_=>rP hd 0 },{ deps:=[14,13],r:=λu=>rv (u 2 0).1,lv:=3 },{ deps:=[13],r:=λ_=>rP he 0 }] [λ_=>[.blk he [rB hm,rv hi] 57,.blk hd [rv (.map (some hb))] 54,.map hb (AV Ai hy),.row hi 68 6 (AD Ae hn)],λ_=>[.blk hd [rv (.map (some hb))] 54,.map hb (AV Ai hg.2.fTimers),.blk he [rB hm,rv hi] 57,.row hi 68 6 (AD Ae hn)],λu=>[.blk he [rB hf.2.fMade,rv (u 1 0).1] 57,.row (u 1 0).1 68 6 (AD Ae hf.2.fTimers),.blk hd [rv (.map (some hb))] 54,.map hb (AV Ai hg.2.fTimers)],λu=>[.row (u 2 0).1 31 5 (AD Ah ho.1),.blk hd [rv (.map (some hb))] 54,.map hb (AV Ai ho.2.fTimers),.blk he [rB hf.2.fMade,rv (u 1 0).1] 57,.row (u 1 0).1 68 6 (AD Ae hf.2.fTimers)]] ⟨CU,CU,CU,CU,CU,CU,CU,CU,CU,CU,CU,CU,CU,CU,CU,(λu u' h=>by simp only[h 2 (by decide)]),CU,trivial⟩ ?_ (λu=>?_)
        ·exact Dp (fun {u _}=>BK (A3 rfl)) (Dp (fun {u _}=>BK (A3 rfl)) (Dp (fun {u _}=>BK (A3 rfl)) (Dp (fun {u _}=>BK (BN (enc:=Au) (ys:=l) IS Iq rfl rfl hG)) (Dp (fun {u _}=>BK (BX Rd Iq rfl rfl rfl)) (SV 0 (fun {u}=>Is (Hin:=[.blk hd [rv (.map (some hb))] 54,.map hb (AV Ai hy)]) (Hr:=[.blk he [rB hm,rv hi] 57,.row hi 68 6 (AD Ae hn)]) Tryz.call12 rfl ((Ar (i:=1) rfl).trans (Uf _ ((Ar (i:=1) rfl).trans (Uf _ (Ug _))))) (NU F hd hb (A8.mk hy) (AM.mk ((Aj l ha).fKind) ((Aj l ha).fNow) ((Aj l ha).fTimer)) hg hX) (by rintro _ _ ⟨rfl,rfl⟩;exact⟨ux u 0 [],KR,rfl,rfl⟩)) (Dp (fun {u _}=>BK (A3 rfl)) (Dp (fun {u _}=>BK (A3 rfl)) (Dp (fun {u _}=>BK (A3 rfl)) (Dp (fun {u _}=>BK (BN (enc:=Au) (ys:=l) IS Iq rfl rfl hG)) (Dp (fun {u _}=>BK (BX Rd Iq rfl rfl rfl)) (SV 1 (fun {u}=>Is (Hin:=[.blk he [rB hm,rv hi] 57,.row hi 68 6 (AD Ae hn)]) (Hr:=[.blk hd [rv (.map (some hb))] 54,.map hb (AV Ai hg.2.fTimers)]) Tryz.call13 rfl ((Ar (i:=2) rfl).trans (Uf _ ((Ar (i:=2) rfl).trans (Uf _ (Ug _))))) (NT F he hi (Ap.mk hm hn) (AM.mk ((Aj l ha).fKind) ((Aj l ha).fNow) ((Aj l ha).fTimer)) hf hY) (by rintro _ _ ⟨ht,rfl,rfl⟩;exact⟨ux u 1 [(ht,0)],KR,rfl,rfl⟩)) (Dp (fun {u _}=>BK (Eb rfl rfl)) (Dp (fun {u _}=>BK (A3 rfl)) (Dp (fun {u _}=>D7 (b:=!decide (hg.1=hf.1)) rfl rfl hk (BK (A3 rfl))) (SV 2 (fun {u}=>SY (b:=!decide (hg.1=hf.1)) rfl rfl hk (Is (Hin:=[.blk hd [rv (.map (some hb))] 54,.map hb (AV Ai hg.2.fTimers)]) (Hr:=[.blk he [rB hf.2.fMade,rv (u 1 0).1] 57,.row (u 1 0).1 68 6 (AD Ae hf.2.fTimers)]) Tryz.call14 rfl ((Ar (i:=2) rfl).trans (Uf _ ((Ar (i:=2) rfl).trans (Uf _ (Ug _))))) (La hd hb hg.2 ho g8) (by rintro _ _ ⟨hH,rfl,rfl⟩;exact⟨ux u 2 [(hH,0)],KR,rfl,rfl⟩))) (Dp (fun {u _}=>D7 (b:=!decide (hg.1=hf.1)) rfl rfl hk (BK (A3 rfl))) (T7)))))))))))))))))
        refine G8 (H1:=[.row (u 2 0).1 31 5 (AD Ah ho.1),.blk hd [rv (.map (some hb))] 54,.map hb (AV Ai ho.2.fTimers),.blk he [rB hf.2.fMade,rv (u 1 0).1] 57,.row (u 1 0).1 68 6 (AD Ae hf.2.fTimers)]) [47,48,49,50,51,52,53,54,55,56,57,58,59,60,61,62,63,0,3,4,5,19,20,23,24,27,28,29] ?_;refine WL.sub (l':=[(47,rP hd 0),(48,AY 7 (AD Au l)),(49,Aq ha),(50,H4 [Aq ((Aj l ha).fKind),Aq ((Aj l ha).fNow),rS (((Aj l ha).fTimer).fID),Aq (((Aj l ha).fTimer).fAt),rS (((Aj l ha).fTimer).fTenant),rS (((Aj l ha).fTimer).fSource),AY 4 (AD Ad (((Aj l ha).fTimer).fBody))]),(51,Bf [Aq ((Aj l ha).fKind),Aq ((Aj l ha).fNow),rS (((Aj l ha).fTimer).fID),Aq (((Aj l ha).fTimer).fAt),rS (((Aj l ha).fTimer).fTenant),rS (((Aj l ha).fTimer).fSource),AY 4 (AD Ad (((Aj l ha).fTimer).fBody))]),(52,Aq hg.1),(53,rP he 0),(54,AY 7 (AD Au l)),(55,Aq ha),(56,H4 [Aq ((Aj l ha).fKind),Aq ((Aj l ha).fNow),rS (((Aj l ha).fTimer).fID),Aq (((Aj l ha).fTimer).fAt),rS (((Aj l ha).fTimer).fTenant),rS (((Aj l ha).fTimer).fSource),AY 4 (AD Ad (((Aj l ha).fTimer).fBody))]),(57,Bf [Aq ((Aj l ha).fKind),Aq ((Aj l ha).fNow),rS (((Aj l ha).fTimer).fID),Aq (((Aj l ha).fTimer).fAt),rS (((Aj l ha).fTimer).fTenant),rS (((Aj l ha).fTimer).fSource),AY 4 (AD Ad (((Aj l ha).fTimer).fBody))]),(58,Aq hf.1),(59,rB (!decide (hg.1=hf.1))),(60,rB (!decide (hg.1=hf.1))),(61,rP hd 0),(62,rv (u 2 0).1),(63,rP he 0),(0,AY 7 (AD Au l)),(3,rP hd 0),(4,rP he 0),(5,Aq ha),(19,Aq (l.length:Int)),(20,Aq ha),(23,AY 7 (AD Au l)),(24,Aq ha),(27,Aq ((Aj l ha).fKind)),(28,rB (decide (((Aj l ha).fKind)=1))),(29,rB (decide (((Aj l ha).fKind)=1)))]) (AF.c rfl (AF.c rfl (AF.c rfl (AF.c5 rfl rfl rfl rfl rfl (AF.c5 rfl rfl rfl rfl rfl (AF.c5 rfl rfl rfl rfl rfl (AF.c5 rfl rfl rfl rfl rfl (AF.c5 rfl rfl rfl rfl rfl AF.nil)))))))) (List.Sublist.refl _) ?_;generalize(u 1 0).1=ht;generalize(u 2 0).1=hH;refine wo hk (ob g9 λhz gA gB=>Gw (Hr:=[.row hH 31 5 (AD Ah ho.1),.blk hd [rv (.map (some hb))] 54,.map hb (AV Ai ho.2.fTimers)]) Tryz.call15 (Rw F he ht hf.2 hz gA) rfl ((Ar (i:=3) rfl).trans (Uf _ ((Ar (i:=3) rfl).trans (Uf _ (Ug _))))) rfl ?_);rintro _ _ ⟨gC,hP,rfl,rfl⟩;exact wo hk (WL.freeze (i:=3) rfl (WL.up (d:=62) (r:=AY 5 (AD Ah ho.1)) rfl (Up.fact (i:=0) rfl) (WL.freeze (i:=1) rfl (WL.up (d:=64) (r:=AY 5 (AD Ah hz.1)) rfl (Up.fact (i:=0) rfl) (ob gB λhZ gD gE=>CS Tryz.call9 (LW F ho.1 hz.1 hZ gD) rfl (wo hk (wv (BD rfl) (DT rfl hk rfl (Am (Cn (H2:=[.blk he [rB hz.2.fMade,rv hP] 57,.blk hd [rv (.map (some hb))] 54,.map hb (AV Ai ho.2.fTimers),.row hP 68 6 (AD Ae hz.2.fTimers),.fact gC (AY 5 (AD Ah hz.1)),.fact hH (AY 5 (AD Ah ho.1))]) ((Ar (i:=2) rfl).trans (Uf _ ((Ar (i:=3) rfl).trans (Uf _ ((Ar (i:=3) rfl).trans (Uf _ ((Ar (i:=2) rfl).trans (Uf _ (Ug _))))))))) (A5 (AE ((hg.1,hf.1,!decide (hg.1=hf.1),!decide (hg.1=hf.1),!hZ,hz.2.fMade,hz.2.fTimers,ho.2.fTimers),hP) gE (AF.c rfl (AF.c rfl (AF.c rfl (AF.c rfl (AF.c5 rfl rfl rfl rfl rfl (AF.c5 rfl rfl rfl rfl rfl (AF.c5 rfl rfl rfl rfl rfl (AF.c5 rfl rfl rfl rfl rfl AF.nil)))))))) (sC (sC (sC (sC (sS (sS sN))))))))))))))))))
      ·rintro⟨⟨hQ,hR,hS,hT,ga,hI,hJ,hU⟩,h4⟩ hK;refine Ca (l':=[(0,AY 7 (AD Au l)),(3,rP hd 0),(4,rP he 0),(5,Aq ha),(19,Aq (l.length:Int)),(20,Aq ha),(23,AY 7 (AD Au l)),(24,Aq ha),(27,Aq ((Aj l ha).fKind)),(28,rB (decide (((Aj l ha).fKind)=1))),(29,rB (decide (((Aj l ha).fKind)=1))),(47,rP hd 0),(48,AY 7 (AD Au l)),(49,Aq ha),(51,Bf [Aq ((Aj l ha).fKind),Aq ((Aj l ha).fNow),rS (((Aj l ha).fTimer).fID),Aq (((Aj l ha).fTimer).fAt),rS (((Aj l ha).fTimer).fTenant),rS (((Aj l ha).fTimer).fSource),AY 4 (AD Ad (((Aj l ha).fTimer).fBody))]),(52,Aq hQ),(53,rP he 0),(54,AY 7 (AD Au l)),(55,Aq ha),(57,Bf [Aq ((Aj l ha).fKind),Aq ((Aj l ha).fNow),rS (((Aj l ha).fTimer).fID),Aq (((Aj l ha).fTimer).fAt),rS (((Aj l ha).fTimer).fTenant),rS (((Aj l ha).fTimer).fSource),AY 4 (AD Ad (((Aj l ha).fTimer).fBody))]),(58,Aq hR),(59,rB hS),(60,rB hT),(67,rB ga)]) (H':=[.blk he [rB hI,rv h4] 57,.blk hd [rv (.map (some hb))] 54,.map hb (AV Ai hU),.row h4 68 6 (AD Ae hJ)]) rfl rfl ?_;replace hK:DN ha hQ hR hS hT ga hI hJ hU=some h1:=hK;unfold DN at hK;refine cz hK rfl (λgF gG=>?_) (λgF gH=>?_)
       ·refine Al (wa rfl (Aw (Az (Af (A9 (Af (Af (Bi ?_))))))));have gI:=BC gG h3 hA;refine A9 (Af ?_);obtain rfl:=A2 gI;exact Ay (Bw SX (AT rfl)) (sS (sS (sS (sS sN)))) ⟨rfl,rfl⟩
       ·refine A0 (AQ (Al (wm rfl (ob gH λhu gJ gK=>Gw (Hr:=[.blk he [rB hI,rv h4] 57,.row h4 68 6 (AD Ae hJ)]) Tryz.call16 (N9 hd hb (A8.mk hU) hu gJ) rfl ((Ar (i:=1) rfl).trans (Uf _ ((Ar (i:=1) rfl).trans (Uf _ (Ug _))))) rfl ?_))));rintro _ _ ⟨rfl,rfl⟩;refine wm rfl (wv (Bp rfl rfl) (wv (Bp rfl rfl) (wa rfl (wa rfl (BW (wm rfl (ob gK λhp gL gM=>Gw (Hr:=[.blk hd [rv (.map (some hb))] 54,.map hb (AV Ai hu.2.2.fTimers)]) Tryz.call17 (O6 he h4 (Ap.mk hI hJ) hp gL) rfl ((Ar (i:=2) rfl).trans (Uf _ ((Ar (i:=2) rfl).trans (Uf _ (Ug _))))) rfl ?_)))))));rintro _ _ ⟨h6,rfl,rfl⟩;refine wm rfl (wv (Bp rfl rfl) (wv (Bp rfl rfl) (wa rfl (wa rfl (Aw (AA [(0,AY 7 (AD Au l)),(3,rP hd 0),(4,rP he 0),(19,Aq (l.length:Int)),(20,Aq ha),(23,AY 7 (AD Au l)),(24,Aq ha),(27,Aq ((Aj l ha).fKind)),(28,rB (decide (((Aj l ha).fKind)=1))),(29,rB (decide (((Aj l ha).fKind)=1))),(47,rP hd 0),(48,AY 7 (AD Au l)),(49,Aq ha),(51,Bf [Aq ((Aj l ha).fKind),Aq ((Aj l ha).fNow),rS (((Aj l ha).fTimer).fID),Aq (((Aj l ha).fTimer).fAt),rS (((Aj l ha).fTimer).fTenant),rS (((Aj l ha).fTimer).fSource),AY 4 (AD Ad (((Aj l ha).fTimer).fBody))]),(52,Aq hQ),(53,rP he 0),(54,AY 7 (AD Au l)),(55,Aq ha),(57,Bf [Aq ((Aj l ha).fKind),Aq ((Aj l ha).fNow),rS (((Aj l ha).fTimer).fID),Aq (((Aj l ha).fTimer).fAt),rS (((Aj l ha).fTimer).fTenant),rS (((Aj l ha).fTimer).fSource),AY 4 (AD Ad (((Aj l ha).fTimer).fBody))]),(58,Aq hR),(59,rB hS),(60,rB hT),(85,rB ((!decide (hu.1=hp.1))||(!(hu.2.1 ==hp.2.1))))] [.blk he [rB hp.2.2.fMade,rv h6] 57,.row h6 68 6 (AD Ae hp.2.2.fTimers),.blk hd [rv (.map (some hb))] 54,.map hb (AV Ai hu.2.2.fTimers)] ?_ ?_))))))
        ·refine An (wm rfl (wm rfl (wv (Eb rfl rfl) (wm rfl (AH (!decide (hu.1=hp.1)) (λhq=>?_) (λhq=>?_))))))
         ·refine wf hq (wf hq (wf hq (wv (r:=rB true) (Ao rfl hq rfl) (Am ?_))));exact BA hq
         ·refine wo hq (wm rfl (wo hq (wm rfl (wo hq (wv (r:=rB (!(hu.2.1 ==hp.2.1))) (Si Tryz.underlying4 rfl rfl) (DT rfl hq rfl (Am ?_)))))));exact BA hq
        refine cz gM rfl (λgN gO=>?_) (λgN gP=>?_)
        ·refine Al (wa rfl (Aw (Az (A9 (Af (Af (Bi ?_)))))));have gQ:=BC gO h3 hA;refine A9 (Af ?_);obtain rfl:=A2 gQ;exact Ay (Bw SX (AT rfl)) (sS (sS (sS (sS sN)))) ⟨rfl,rfl⟩
        ·refine A0 (AO (AQ (An (ck gP λgR gS=>wv (Bt rfl rfl gR) (wm rfl (Am (Cn (H2:=[.blk he [rB hp.2.2.fMade,rv h6] 57,.blk hd [rv (.map (some hb))] 54,.map hb (AV Ai hu.2.2.fTimers),.row h6 68 6 (AD Ae hp.2.2.fTimers)]) ((Ar (i:=0) rfl).trans (Uf _ ((Ar (i:=1) rfl).trans (Uf _ ((Ar (i:=1) rfl).trans (Uf _ (Ug _))))))) ?_)))))));have gT:=Be gS h3;exact A5 (AE (gi,(ha+1,hp.2.2.fMade,hp.2.2.fTimers,hu.2.2.fTimers),h6) ⟨gT,Ur _⟩ (AF.c5 rfl rfl rfl rfl rfl AF.nil) (sC (sC (sC (sC sN)))))
   ·refine Bu (A4 ?_);have gU:=BY gm h3 hA;exact A4 (Bb (AE ((),()) gU AF.nil (sS (sS (sS (sS sN))))))
  ·rintro⟨⟨⟩,⟨⟩⟩ hL;refine C7 (l':=[]) (H':=[]) rfl rfl ?_;replace hL:EZ F =some r:=hL;unfold EZ at hL;refine Ba (AQ (Al (ob hL λgV gW gX=>CS Tryz.call6 (M4 F gV gW) rfl (wa rfl (Aw (Az ?_))))));obtain rfl:=A2 gX;exact Ay (Bw SX (AT rfl)) sN ⟨rfl,rfl⟩
end Go.Proofs.YtmmbdclkpijkpaaGreatDoor.Q
namespace Go.Proofs.YtmmbdclkpijkpaaGreatDoor.lawTimerWorks
open Go
set_option linter.unusedVariables false
def Qk (y:Ac):Bool:=(BH .i64) y.fKind&&(BH .i64) y.fInt&&QU y.fStr&&(BH .i64) y.fN
def R5 (y:Ab):Bool:=QU y.fID&&(BH .i64) y.fAt&&QU y.fTenant&&QU y.fSource&&(λys:(List Ac)=>ys.all Qk&&decide (ys.length≤9223372036854775807)) y.fBody
def OG (y:AM):Bool:=(BH .i64) y.fKind&&(BH .i64) y.fNow&&R5 y.fTimer
def Ub:Prop:=∀(y0:(List AM)) (o0:(λys:(List AM)=>ys.all OG&&decide (ys.length≤9223372036854775807)) y0=true),∃F,JS F y0=some true
end Go.Proofs.YtmmbdclkpijkpaaGreatDoor.lawTimerWorks
namespace Go.Proofs.YtmmbdclkpijkpaaGreatDoor
open Go
set_option linter.unusedVariables false
set_option linter.unusedSimpArgs false
def QT (c:UInt8):Bool:=decide (32≤c.toNat)&&decide (c.toNat≤126)
theorem L2 {s:Ak}{x:Int}{c:UInt8}(h:s[x.toNat]? =some c):DC s x=(c.toNat:Int):=by simp[DC,h]
theorem Kn {α:Type}{p:α→Bool}{s:List α}{k:Nat}{c:α}(h:s[k]? =some c):(s.take (k+1)).all p=((s.take k).all p&&p c):=by
 rw[List.take_add_one,h];simp
theorem L4 {α:Type}{p:α→Bool}{s:List α}{k:Nat}{c:α}(h:s[k]? =some c)(hp:p c=false):s.all p=false:=by
 rw[List.all_eq_false];exact⟨c,Um h,by simp[hp]⟩
theorem LM {F:Nat}{s:Ak}(hF:s.length<F)(hs:s.length≤9223372036854775807):HG F s=some (s.all QT):=by
 obtain⟨o,h1,h2⟩:=CG (body:=λσ=>EJ s σ) (λx=>0≤x∧x≤(s.length:Int)∧(s.take x.toNat).all QT=true) (λx=>s.length-x.toNat)
  (λo=>B9 (λ_=>EI) o=some (s.all QT)) (λx ⟨h0,hl,ha⟩=>by
   unfold EJ
   by_cases hx:x<(s.length:Int)
   ·obtain⟨c,hc⟩:∃c,s[x.toNat]? =some c:=⟨s[x.toNat]'(by omega),Uj (by omega)⟩
    rw[AR (by simpa using hx),Bd h0 hx,L2 hc]
    cases ho:QT c with
    | false=>
     refine .inr ⟨.ret false,?_,?_⟩
     ·rw[AR];simp only[QT,Bool.and_eq_false_iff,Ue] at ho;simp only[UC,Ud];omega
     ·simp[B9,L4 hc ho]
    | true=>
     refine .inl ⟨x+1,?_,⟨by omega,by omega,?_⟩,by omega⟩
     ·rw[A7,AI (by omega) (by omega)];simp only[QT,Ui,Ud] at ho;simp only[Bool.or_eq_false_iff,Ue];omega
     ·rw[show(x+1).toNat=x.toNat+1 from by omega,Kn hc,ha,ho];rfl
   ·refine .inr ⟨.go (),by rw[A7 (by simpa using hx)],?_⟩;rw[show x.toNat=s.length from by omega,UQ] at ha;simp[B9,EI,ha]) F 0 ⟨by omega,by omega,by simp⟩ (by simpa using hF)
 unfold HG;rw[AP h1,h2]
theorem Lh (F:Nat)(s:Ak):GC F s=HG F s:=rfl
theorem O3 {F:Nat}{s:Ak}(hF:s.length<F)(hs:s.length≤9223372036854775807):GC F s=some (s.all QT):=by rw[Lh];exact LM hF hs
def pl (c:Ac):Bool:=
 bif decide (c.fKind=1) then(decide (c.fInt=0)&&(decide (c.fStr=[])&&decide (c.fN=0))) else
 bif decide (c.fKind=2) then((decide (c.fInt=0)||decide (c.fInt=1))&&(decide (c.fStr=[])&&decide (c.fN=0))) else
 bif decide (c.fKind=3) then(decide (c.fStr=[])&&decide (c.fN=0)) else
 bif decide (c.fKind=4) then(decide (c.fInt=0)&&(decide (c.fN=0)&&c.fStr.all QT)) else
 bif decide (c.fKind=5) then(decide (c.fInt=0)&&(decide (c.fStr=[])&&decide (0≤c.fN))) else
 bif decide (c.fKind=6) then(decide (c.fInt=0)&&(decide (c.fStr=[])&&decide (0≤c.fN))) else false
theorem Du {α:Type}{p:Bool}{x y:Option α}{a b:α}(h:x=some a)(h':y=some b):Bm p x y=some (bif p then a else b):=by cases p<;>simp[Bm,h,h']
theorem Oq {F:Nat}{c:Ac}(hF:c.fStr.length<F)(hs:c.fStr.length≤9223372036854775807):Jy F c=some (pl c):=by
 unfold Jy pl;rw[LM hF hs];refine Du rfl (Du ?_ (Du rfl (Du ?_ (Du rfl (Du rfl rfl)))))
 ·cases h:decide (c.fInt=0)<;>simp
 ·simp[imp,Bk,ov]
def IO:List Ax→List Ax
 | []=>[]
 | e::S=>bif decide (1<e.fLeft) then⟨e.fPairs,e.fLeft-1,e.fPairs,e.fLast,e.fStarted⟩::S else IO S
theorem Jo {α:Type}[Inhabited α](xs:List α)(e:α):Aj (xs++[e]) (xs.length:Int)=e:=by simp[Aj]
theorem HS {α:Type}(xs:List α)(e e':α):List.set (xs++[e]) (Int.toNat (xs.length:Int)) e'=xs++[e']:=by simp
theorem Ij {α:Type}(xs:List α)(e:α):((xs++[e]).length:Int)-1=(xs.length:Int):=by simp
theorem Ov {α:Type}(xs:List α)(e:α):List.take (Int.toNat (xs.length:Int)) (xs++[e])=xs:=by simp
theorem IH:∀(S:List Ax) (F:Nat),S.length<F→(∀e∈S,1≤e.fLeft∧e.fLeft≤9223372036854775807)→S.length≤4611686018427387904→
  ∃o,Cu (λσ=>CY σ) F S.reverse=some o∧B9 (λν=>Dx ν) o=some (IO S).reverse
 | [],F+1,_,_,_=>⟨.go [],by simp[Cu,CY,Bm],by simp[B9,Dx,IO]⟩
 | e::S,F+1,hF,hb,hl=>by
  obtain⟨h1,h2⟩:=hb e (by simp);simp only[Uo] at hF hl;have hx:S.reverse.length=S.length:=by simp
  generalize hxs:S.reverse=xs at hx;have hr:(e::S).reverse=xs++[e]:=by simp[hxs]
  rw[hr];have hb1:CY (xs++[e])=bif decide (1<e.fLeft) then some (.out (.ret (xs++[⟨e.fPairs,e.fLeft-1,e.fPairs,e.fLast,e.fStarted⟩]))) else some (.next xs):=by
   unfold CY;rw[AR (by simp)];simp only[Ij,Jo,HS,ML];rw[AI (by omega) (by omega),Bd (by omega) (by simp;omega),AI (by omega) (by omega)]
   cases hd:decide (1<e.fLeft) with
   | true=>
    rw[AR (by simp at hd ⊢;omega)];rfl
   | false=>
    rw[A7 (by simp at hd ⊢;omega),AI (by omega) (by omega),DX (by omega) (by simp;omega),Ov];rfl
  rw[Cu,hb1]
  cases hd:decide (1<e.fLeft) with
  | true=>exact⟨_,rfl,by simp[B9,Dx,IO,hd,hxs]⟩
  | false=>
   obtain⟨o,ho1,ho2⟩:=IH S F (by omega) (λe he=>hb e (by simp[he])) (by omega);rw[hxs] at ho1;exact⟨o,ho1,by rw[ho2];simp[IO,hd]⟩
theorem Jz {S:List Ax}{F:Nat}(hF:S.length<F)(hb:∀e∈S,1≤e.fLeft∧e.fLeft≤9223372036854775807)(hl:S.length≤4611686018427387904):HJ F S.reverse=some (IO S).reverse:=by
 obtain⟨o,h1,h2⟩:=IH S F hF hb hl;unfold HJ;rw[AP h1,h2]
def Iy (s:Ak):Int:=s.length+2+s.count 34+s.count 92
theorem Jx {s:Ak}(hs:s.length≤1152921504606846976):GM s=some (Iy s):=by
 have h1:s.count 34≤s.length:=List.count_le_length;have h2:s.count 92≤s.length:=List.count_le_length;unfold GM Lib.countByte;rw[AI (by omega) (by omega),AI (by omega) (by omega),AI (by omega) (by omega)];rfl
def Sw (c:Ac):Int:=
 bif decide (c.fKind=1) then 4 else bif decide (c.fKind=2) then IntKind.wrap .i64 (5-c.fInt) else bif decide (c.fKind=3) then((Lib.itoa c.fInt).length:Int) else
 bif decide (c.fKind=4) then Iy c.fStr else IntKind.wrap .i64 (2+max 0 (IntKind.wrap .i64 (c.fN-1)))
theorem LN {c:Ac}(hs:c.fStr.length≤1152921504606846976)(hi:BH .i64 c.fInt=true):LO c=some (Sw c):=by
 unfold LO Sw;rw[Jx hs];refine Du rfl (Du rfl (Du ?_ (Du rfl rfl)));rw[BU hi]
def G3 (d:Nat)(sh:A6)(c:Ac):A6:=
 ⟨max sh.fDepth ((d:Int)+1),IntKind.wrap .i64 (sh.fBytes+Sw c),sh.fOutside||(decide (c.fKind=3)&&!(decide ((-1000000000000)≤c.fInt)&&decide (c.fInt≤1000000000000))),sh.fLong||decide (200<(c.fStr.length:Int))⟩
def Ta (sh:A6)(c:Ac):A6:=⟨sh.fDepth,IntKind.wrap .i64 (sh.fBytes+(Iy c.fStr+1)),sh.fOutside,sh.fLong||decide (200<(c.fStr.length:Int))⟩
def I5:List Ax→Bool
 | []=>false
 | e::_=>e.fKey
abbrev LB:=List Ax×Int×A6
abbrev Sm:=Out (Int×A6×Bool) A6
def MQ (n:Int)(S:List Ax)(i:Int)(sh:A6)(c:Ac):Stp LB Sm:=
 bif !pl c then .out (.ret (0,sh,false)) else
 match S with
 | e::S'=>
  bif e.fKey then
   bif !decide (c.fKind=4)||(e.fStarted&&(Bz c.fStr e.fLast||decide (c.fStr=e.fLast))) then .out (.ret (0,sh,false))
   else .next ((⟨e.fPairs,e.fLeft,false,c.fStr,true⟩::S').reverse,i+1,Ta sh c)
  else bif decide (0<c.fN) then
   bif decide (n<c.fN) then .out (.ret (0,G3 S.length sh c,false))
   else .next ((⟨decide (c.fKind=6),c.fN,decide (c.fKind=6),[],false⟩::S).reverse,i+1,G3 S.length sh c)
  else bif decide (IO S=[]) then .out (.ret (i+1,G3 S.length sh c,true)) else .next ((IO S).reverse,i+1,G3 S.length sh c)
 | []=>
  bif decide (0<c.fN) then
   bif decide (n<c.fN) then .out (.ret (0,G3 0 sh c,false))
   else .next ([⟨decide (c.fKind=6),c.fN,decide (c.fKind=6),[],false⟩],i+1,G3 0 sh c)
  else .out (.ret (i+1,G3 0 sh c,true))
theorem Kc {S:List Ax}:decide (((IO S).reverse.length:Int)=0)=decide (IO S=[]):=by
 rw[Uy];simp
theorem Ts {α:Type}{xs:List α}{e x:α}{M:Nat}(h:xs.length+1≤M)(hM2:(M+2)*48≤140737488355328):LA 48 ((xs++[e]).length+([x]:List α).length)=true:=by
 refine Ul (Nat.le_trans (Nat.mul_le_mul_right 48 ?_) hM2);rw[Uq,UK,UK];omega
set_option maxHeartbeats 600000 in
theorem LP {F:Nat}{v:List Ac}{S:List Ax}{i:Int}{sh:A6}{c:Ac}(h0:0≤i)(hc:v[i.toNat]? =some c){M:Nat}(hM:M≤1152921504606846976)(hM2:(M+2)*48≤140737488355328)(hv:v.length≤M)(hS:S.length≤M)(hF:M<F)
  (hs:c.fStr.length≤M) (hi:BH .i64 c.fInt=true) (hb:∀e∈S,1≤e.fLeft∧e.fLeft≤9223372036854775807):CX F v S.reverse i sh=some (MQ v.length S i sh c):=by
 have hil:i.toNat<v.length:=(List.getElem?_eq_some_iff.1 hc).1;have hat:Aj v i=c:=by simp[Aj,hc]
 unfold CX MQ;rw[AR (by simp;omega),Bd h0 (by omega),hat,Oq (by omega) (by omega),AP rfl]
 cases hp:pl c with
 | false=>rw[AR (by simp)];rfl
 | true=>
  rw[A7 (by simp)]
  cases S with
  | nil=>
   rw[BU (by simp[imp]),BU (by simp[imp]),A7 (by simp),AI (by simp) (by simp),LN (by omega) hi,AP rfl,BU (by simp[imp,Bl])];simp only[Bl,ov,U6,Uu,Un]
   cases hn:decide (0<c.fN) with
   | true=>
    rw[AR rfl]
    cases hm:decide ((v.length:Int)<c.fN) with
    | true=>rw[AR rfl];simp[G3]
    | false=>rw[A7 rfl,BU (by simp[LA])];unfold Ds;rw[AI (by omega) (by omega)];simp[G3]
   | false=>
    rw[A7 rfl,AP (Jz (S:=[]) (by simp;omega) (by simp) (by simp)),AR (by simp[IO]),AI (by omega) (by omega)];simp[G3]
  | cons e S'=>
   have hx:S'.reverse.length=S'.length:=by simp
   generalize hxs:S'.reverse=xs at hx;have hr:(e::S').reverse=xs++[e]:=by simp[hxs]
   simp only[Uo] at hS;have hlen:((xs++[e]).length:Int)=(xs.length:Int)+1:=by simp
   rw[hr,BU (by simp only[imp,Ij];rw[M8 (by omega) (by omega)];simp),BU (by simp only[imp,Ij];rw[RI (by omega) (by omega)];simp)];rw[Ij,Jo]
   cases hk:e.fKey with
   | true=>
    rw[AR (by simp),AI (by omega) (by omega),Bd (by omega) (by omega)];simp only[hk,Uu,Un,Ut]
    cases ht : !decide (c.fKind=4)||(e.fStarted&&(Bz c.fStr e.fLast||decide (c.fStr=e.fLast))) with
    | true=>rw[AR rfl];rfl
    | false=>
     rw[A7 rfl,HS,ML,Jo,HS,ML,Jo,HS,ML,Jx (by omega),AP rfl,AI (by unfold Iy;omega) (by unfold Iy;have:=@List.count_le_length UInt8 _ 34 c.fStr;have:=@List.count_le_length UInt8 _ 92 c.fStr;omega)];unfold Ds;rw[AI (by omega) (by omega)];simp[Ta,hxs]
   | false=>
    rw[A7 (by simp),hlen,AI (by omega) (by omega),LN (by omega) hi,AP rfl,BU (by simp[imp,Bl])];simp only[hk,Bl,ov,U6,Uu,Un,Ut]
    cases hn:decide (0<c.fN) with
    | true=>
     rw[AR rfl]
     cases hm:decide ((v.length:Int)<c.fN) with
     | true=>rw[AR rfl];simp[G3,hx]
     | false=>rw[A7 rfl,BU (Ts (by omega) hM2)];unfold Ds;rw[AI (by omega) (by omega)];simp[G3,hx,hxs]
    | false=>
     have hcl:=Jz (S:=e::S') (F:=F) (by simp;omega) hb (by simp;omega);rw[hr] at hcl;rw[A7 rfl,hcl,AP rfl,Kc]
     cases hq:decide (IO (e::S')=[]) with
     | true=>rw[AR rfl,AI (by omega) (by omega)];simp[G3,hx]
     | false=>rw[A7 rfl];unfold Ds;rw[AI (by omega) (by omega)];simp[G3,hx]
section
variable {S O : Type} {body : S → Option (Stp S O)} {s t u : S} {o : O}
def Dv (body:S→Option (Stp S O))(s t:S):Prop:=∃k,∀n,Cu body (n+k) s=Cu body n t
def Fin (body:S→Option (Stp S O))(s:S)(o:O):Prop:=∃k,∀n,Cu body (n+k) s=some o
theorem Dv.refl (s:S):Dv body s s:=⟨0,λ_=>rfl⟩
theorem Dv.trans (h:Dv body s t)(h':Dv body t u):Dv body s u:=by
 obtain⟨k,hk⟩:=h;obtain⟨j,hj⟩:=h';exact⟨j+k,λn=>by rw[← Nat.add_assoc,hk,hj]⟩
theorem Dv.step (h:body s=some (.next t)):Dv body s t:=⟨1,λn=>by rw[Cu,h]⟩
theorem Fin.step (h:body s=some (.out o)):Fin body s o:=⟨1,λn=>by rw[Cu,h]⟩
theorem Dv.fin (h:Dv body s t)(h':Fin body t o):Fin body s o:=by
 obtain⟨k,hk⟩:=h;obtain⟨j,hj⟩:=h';exact⟨j+k,λn=>by rw[← Nat.add_assoc,hk,hj]⟩
end
inductive Fo where
 | nil
 | cell (k:Option Ak) (c:Ac) (r:Fo)
 | node (k:Option Ak) (c:Ac) (kids r:Fo)
def Bv:Option Ak→List Ac
 | none=>[]
 | some s=>[⟨4,0,s,0⟩]
def Fo.flat:Fo→List Ac
 | .nil=>[]
 | .cell k c r=>Bv k++c::r.flat
 | .node k c kids r=>Bv k++c::(kids.flat++r.flat)
def Fo.cnt:Fo→Nat
 | .nil=>0
 | .cell _ _ r=>r.cnt+1
 | .node _ _ _ r=>r.cnt+1
def Cc (m:Bool)(last:Option Ak):Option Ak→Bool
 | none=>!m
 | some s=>m&&s.all QT&&(match last with
  | none=>true
  | some p=>!(Bz s p||decide (s=p)))
def Fo.wf:Bool→Option Ak→Fo→Bool
 | _,_,.nil=>true
 | m,last,.cell k c r=>Cc m last k&&pl c&&!decide (0<c.fN)&&r.wf m k
 | m,last,.node k c kids r=>Cc m last k&&pl c&&decide (0<c.fN)&&decide (c.fN=kids.cnt)&&kids.wf (decide (c.fKind=6)) none&&r.wf m k
def II (k:Option Ak)(sh:A6):A6:=match k with
 | none=>sh
 | some s=>Ta sh ⟨4,0,s,0⟩
def Fo.sh (d:Nat):A6→Fo→A6
 | s,.nil=>s
 | s,.cell k c r=>r.sh d (G3 d (II k s) c)
 | s,.node k c kids r=>r.sh d (kids.sh (d+1) (G3 d (II k s) c))
def EG (body:LB→Option (Stp LB Sm))(s:LB)(S:List Ax)(i:Int)(sh:A6):Prop:=
 if IO S=[] then Fin body s (.ret (i,sh,true)) else Dv body s ((IO S).reverse,i,sh)
theorem EG.of {body:LB→Option (Stp LB Sm)}{s t:LB}{S:List Ax}{i:Int}{sh:A6}(h:Dv body s t)(h':EG body t S i sh):EG body s S i sh:=by
 unfold EG at *
 split
 ·rename_i e;rw[if_pos e] at h';exact h.fin h'
 ·rename_i e;rw[UP e] at h';exact h.trans h'
theorem EG.pop {body:LB→Option (Stp LB Sm)}{s:LB}{e:Ax}{S:List Ax}{i:Int}{sh:A6}(h:EG body s (e::S) i sh)(h1:e.fLeft=1):EG body s S i sh:=by
 have:IO (e::S)=IO S:=by simp[IO,h1]
 unfold EG at *;rw[this] at h;exact h
theorem EG.more {body:LB→Option (Stp LB Sm)}{s:LB}{e:Ax}{S:List Ax}{i:Int}{sh:A6}(h:EG body s (e::S) i sh)(h1:1<e.fLeft):Dv body s ((⟨e.fPairs,e.fLeft-1,e.fPairs,e.fLast,e.fStarted⟩::S).reverse,i,sh):=by
 have:IO (e::S)=⟨e.fPairs,e.fLeft-1,e.fPairs,e.fLast,e.fStarted⟩::S:=by simp[IO,h1]
 unfold EG at *;rw[this,UP (by simp)] at h;exact h
structure Oh (F M:Nat) (v:List Ac):Prop where
 hM:M≤1152921504606846976
 hM2:(M+2)*48≤140737488355328
 hv:v.length≤M
 hF:M<F
 hc:∀c∈v,c.fStr.length≤M∧BH .i64 c.fInt=true∧c.fN≤9223372036854775807
abbrev Mx (F:Nat)(v:List Ac):LB→Option (Stp LB Sm):=λσ=>CX F v σ.1 σ.2.1 σ.2.2
def Dd (S:List Ax):Prop:=∀e∈S,1≤e.fLeft∧e.fLeft≤9223372036854775807
section
variable {F M : Nat} {v : List Ac} {S : List Ax} {i : Int} {sh : A6} {c : Ac} {r : List Ac} {e : Ax}
theorem B6 (h0:0≤i)(h:v.drop i.toNat=c::r):v[i.toNat]? =some c∧v.drop (i+1).toNat=r∧i<v.length:=by
 have h1:(v.drop i.toNat)[0]? =some c:=by rw[h];rfl
 have h2:v[i.toNat]? =some c:=by simpa using h1
 have h3:=(List.getElem?_eq_some_iff.1 h2).1;refine⟨h2,?_,by omega⟩;rw[show(i+1).toNat=i.toNat+1 from by omega,← List.drop_drop,h];rfl
theorem round (hA:Oh F M v)(h0:0≤i)(h:v.drop i.toNat=c::r)(hS:(S.length:Int)≤i)(hb:Dd S):Mx F v (S.reverse,i,sh)=some (MQ v.length S i sh c):=by
 obtain⟨h1,_,h3⟩:=B6 h0 h;obtain⟨a,b,_⟩:=hA.hc c (Um h1);have:=hA.hv;exact LP h0 h1 hA.hM hA.hM2 hA.hv (by omega) hA.hF a b hb
def Ef (e:Ax):Option Ak→Ax
 | none=>e
 | some s=>⟨e.fPairs,e.fLeft,false,s,true⟩
def GI (e:Ax):Option Ak→Prop
 | none=>e.fStarted=false
 | some p=>e.fStarted=true∧e.fLast=p
theorem JW (hA:Oh F M v)(h0:0≤i){k last:Option Ak}(h:v.drop i.toNat=Bv k++r)(hS:(S.length:Int)+1≤i)(hb:Dd (e::S))(hk:Cc e.fKey last k=true)(hl:GI e last) :
  Dv (Mx F v) ((e::S).reverse,i,sh) ((Ef e k::S).reverse,i+(Bv k).length,II k sh):=by
 cases k with
 | none=>simpa[Ef,Bv,II] using Dv.refl _
 | some s=>
  simp only[Cc,Ui] at hk;obtain⟨⟨hm,hok⟩,hcmp⟩:=hk;refine Dv.step ?_;rw[round hA h0 (by simpa[Bv] using h) (by simpa using hS) hb];have hp:pl ⟨4,0,s,0⟩=true:=by simp[pl,hok]
  have ht:(e.fStarted&&(Bz s e.fLast||decide (s=e.fLast)))=false:=by
   cases last with
   | none=>simp only[GI] at hl;rw[hl];rfl
   | some p=>obtain⟨h1,h2⟩:=hl;rw[h1,h2];simpa using hcmp
  simp only[MQ,hp,hm,ht,Uu,Un,Ut,decide_true,UG,Bool.or_self];rfl
theorem I4 {k last:Option Ak}(hk:Cc e.fKey last k=true):(Ef e k).fKey=false:=by
 cases k with
 | none=>simpa[Ef,Cc] using hk
 | some s=>rfl
theorem H7 (k:Option Ak):(Ef e k).fLeft=e.fLeft∧(Ef e k).fPairs=e.fPairs:=by cases k<;>exact⟨rfl,rfl⟩
theorem I3 (hA:Oh F M v)(h0:0≤i)(h:v.drop i.toNat=c::r)(hS:(S.length:Int)≤i)(hb:Dd S)(hk:I5 S=false)(hp:pl c=true)(hn:decide (0<c.fN)=false) :
  EG (Mx F v) (S.reverse,i,sh) S (i+1) (G3 S.length sh c):=by
 have hr:=round (sh:=sh) hA h0 h hS hb;unfold EG
 cases S with
 | nil=>
  rw[if_pos (by simp[IO])];refine Fin.step ?_;rw[hr];simp[MQ,hp,hn]
 | cons e S=>
  simp only[I5] at hk
  split
  ·rename_i hc
   refine Fin.step ?_;rw[hr];simp[MQ,hp,hn,hk,hc]
  ·rename_i hc
   refine Dv.step ?_;rw[hr];simp[MQ,hp,hn,hk,hc]
theorem GV (hA:Oh F M v)(h0:0≤i)(h:v.drop i.toNat=c::r)(hS:(S.length:Int)≤i)(hb:Dd S)(hk:I5 S=false)(hp:pl c=true)(hn:decide (0<c.fN)=true)(hv:c.fN≤v.length) :
  Dv (Mx F v) (S.reverse,i,sh) ((⟨decide (c.fKind=6),c.fN,decide (c.fKind=6),[],false⟩::S).reverse,i+1,G3 S.length sh c):=by
 have hr:=round (sh:=sh) hA h0 h hS hb;have hv':decide ((v.length:Int)<c.fN)=false:=by simpa using hv
 refine Dv.step ?_;rw[hr]
 cases S with
 | nil=>simp only[MQ,hp,hn,hv',Uu,Un,Ut];rfl
 | cons e S=>
  simp only[I5] at hk;simp only[MQ,hp,hn,hv',hk,Uu,Un,Ut]
theorem BT:∀f:Fo,f.cnt≤f.flat.length
 | .nil=>Uv _
 | .cell k c r=>by have:=BT r;simp[Fo.cnt,Fo.flat];omega
 | .node k c kids r=>by have:=BT r;simp[Fo.cnt,Fo.flat];omega
theorem C3 {α:Type}{v xs r:List α}{i:Int}(h0:0≤i)(h:v.drop i.toNat=xs++r):v.drop (i+xs.length).toNat=r:=by
 rw[show(i+(xs.length:Int)).toNat=i.toNat+xs.length from by omega,← List.drop_drop,h,List.drop_left]
theorem LU (hA:Oh F M v){e':Ax}{s:LB}{k:Option Ak}{r':Fo}
  (ih:∀(e:Ax) (S:List Ax) (i:Int) (sh:A6) (last:Option Ak) (r:List Ac),1≤r'.cnt→r'.wf e.fPairs last=true→e.fKey=e.fPairs→e.fLeft=r'.cnt→GI e last→(e.fPairs=false→last=none)→v.drop i.toNat=r'.flat++r→0≤i→(S.length:Int)+1≤i→Dd S→
   EG (Mx F v) ((e::S).reverse,i,sh) S (i+r'.flat.length) (r'.sh (S.length+1) sh))
  (hd:EG (Mx F v) s (e'::S) i sh) (hl:e'.fLeft=r'.cnt+1) (hw:r'.wf e'.fPairs k=true) (hk:GI e' k) (hm:e'.fPairs=false→k=none) (hv:v.drop i.toNat=r'.flat++r) (h0:0≤i) (hS:(S.length:Int)+1≤i) (hb:Dd S) :
  EG (Mx F v) s S (i+r'.flat.length) (r'.sh (S.length+1) sh):=by
 by_cases h1:r'.cnt=0
 ·cases r' with
  | nil=>simpa[Fo.flat,Fo.sh] using hd.pop (by rw[hl];rfl)
  | cell _ _ _=>simp[Fo.cnt] at h1
  | node _ _ _ _=>simp[Fo.cnt] at h1
 ·have:=hd.more (by omega);refine EG.of this (ih _ S i sh k r (by omega) hw rfl (by simp only;omega) ?_ hm hv h0 hS hb)
  cases k with
  | none=>exact hk
  | some p=>exact hk
theorem H8 {k last:Option Ak}(hl:GI e last)(hm:e.fPairs=false→last=none)(hk:Cc e.fPairs last k=true):GI (Ef e k) k∧((Ef e k).fPairs=false→k=none):=by
 cases k with
 | none=>
  have:e.fPairs=false:=by simpa[Cc] using hk
  rw[hm this] at hl;exact⟨hl,λ_=>rfl⟩
 | some s=>
  refine⟨⟨rfl,rfl⟩,λh=>?_⟩;have h:e.fPairs=false:=h;simp[Cc,h] at hk
theorem IN (hA:Oh F M v):∀(f:Fo) (e:Ax) (S:List Ax) (i:Int) (sh:A6) (last:Option Ak) (r:List Ac),1≤f.cnt→f.wf e.fPairs last=true→e.fKey=e.fPairs→e.fLeft=f.cnt→GI e last→(e.fPairs=false→last=none)→v.drop i.toNat=f.flat++r→0≤i→(S.length:Int)+1≤i→Dd S→
   EG (Mx F v) ((e::S).reverse,i,sh) S (i+f.flat.length) (f.sh (S.length+1) sh):=by
 have hmax:∀(i:Int) (xs:List Ac),0≤i→v.drop i.toNat=xs→xs.length≤v.length:=λi xs _ h=>by rw[← h,List.length_drop];omega
 intro f
 induction f with
 | nil=>intro e S i sh last r h1;simp[Fo.cnt] at h1
 | cell k c r' ih=>
  intro e S i sh last r h1 hw hk hl hlo hm hv h0 hS hb;simp only[Fo.wf,Ui,U1] at hw;obtain⟨⟨⟨w1,w2⟩,w3⟩,w4⟩:=hw;simp only[Fo.flat,U5,UR] at hv;have hcnt:=hmax i _ h0 hv;have hcf:=BT r';simp only[Uq,Uo] at hcnt;have hvM:=hA.hv;have hMM:=hA.hM;simp only[Fo.cnt] at hl;have hb':Dd (e::S):=λx hx=>by
   rcases List.mem_cons.1 hx with rfl | hx
   ·constructor<;>omega
   ·exact hb x hx
  have hkr:=JW (sh:=sh) hA h0 hv hS hb' (by rw[hk];exact w1) hlo;have hv1:=C3 h0 hv;obtain⟨kl,kp⟩:=H7 (e:=e) k;have hbk:Dd (Ef e k::S):=λx hx=>by
   rcases List.mem_cons.1 hx with rfl | hx
   ·rw[kl];exact hb' e (by simp)
   ·exact hb x hx
  have hd:=I3 (sh:=II k sh) hA (by omega) hv1 (by simp only[Uo];omega) hbk (I4 (by rw[hk];exact w1)) w2 w3;obtain⟨q1,q2⟩:=H8 hlo hm w1;have hv2:=(B6 (by omega) hv1).2.1;have:=LU hA ih (hd.of hkr) (by rw[kl,hl];rfl) (by rw[kp];exact w4) q1 q2 hv2 (by omega) (by omega) hb;simp only[Fo.flat,Fo.sh,Uq,Uo];rw[show i+((((Bv k).length+(r'.flat.length+1):Nat)):Int)=i+(Bv k).length+1+r'.flat.length from by omega];exact this
 | node k c kids r' ihk ih=>
  intro e S i sh last r h1 hw hk hl hlo hm hv h0 hS hb;simp only[Fo.wf,Ui,Ud] at hw;obtain⟨⟨⟨⟨⟨w1,w2⟩,w3⟩,w5⟩,w6⟩,w4⟩:=hw;simp only[Fo.flat,U5,UR] at hv;have hcnt:=hmax i _ h0 hv;have hcf:=BT r';have hck:=BT kids;simp only[Uq,Uo] at hcnt;have hvM:=hA.hv;have hMM:=hA.hM;simp only[Fo.cnt] at hl;have hb':Dd (e::S):=λx hx=>by
   rcases List.mem_cons.1 hx with rfl | hx
   ·constructor<;>omega
   ·exact hb x hx
  have hkr:=JW (sh:=sh) hA h0 hv hS hb' (by rw[hk];exact w1) hlo;have hv1:=C3 h0 hv;obtain⟨kl,kp⟩:=H7 (e:=e) k;have hbk:Dd (Ef e k::S):=λx hx=>by
   rcases List.mem_cons.1 hx with rfl | hx
   ·rw[kl];exact hb' e (by simp)
   ·exact hb x hx
  have hn:=GV (sh:=II k sh) hA (by omega) hv1 (by simp only[Uo];omega) hbk (I4 (by rw[hk];exact w1)) w2 (by simpa using w3) (by omega);have hv2:=(B6 (by omega) hv1).2.1;have hd:=ihk ⟨decide (c.fKind=6),c.fN,decide (c.fKind=6),[],false⟩ (Ef e k::S) (i+(Bv k).length+1) (G3 (S.length+1) (II k sh) c) none _ (by omega) w6 rfl w5 rfl (λ_=>rfl) hv2 (by omega) (by simp only[Uo];omega) hbk;obtain⟨q1,q2⟩:=H8 hlo hm w1;have hv3:=C3 (by omega) hv2;have:=LU hA ih ((hd.of hn).of hkr) (by rw[kl,hl];rfl) (by rw[kp];exact w4) q1 q2 hv3 (by omega) (by omega) hb;simp only[Fo.flat,Fo.sh,Uq,Uo];rw[show i+((((Bv k).length+(kids.flat.length+r'.flat.length+1):Nat)):Int)=i+(Bv k).length+1+kids.flat.length+r'.flat.length from by omega];exact this
end
theorem Mw {S O:Type}{body:S→Option (Stp S O)}{o:O}:∀{n:Nat} {s:S} (k:Nat),Cu body n s=some o→Cu body (n+k) s=some o
 | 0,s,k,h=>by cases h
 | n+1,s,k,h=>by
  rw[show n+1+k=n+k+1 from by omega,Cu];rw[Cu] at h
  cases hb:body s with
  | none=>rw[hb] at h;cases h
  | some t=>
   rw[hb] at h
   cases t with
   | next s'=>exact Mw k h
   | out o'=>exact h
theorem Fin.eq {S O:Type}{body:S→Option (Stp S O)}{s:S}{o o':O}{n:Nat}(h:Fin body s o)(h':Cu body n s=some o'):o'=o:=by
 obtain⟨k,hk⟩:=h;have:=Mw k h';rw[hk n] at this;exact(A2 this).symm
theorem KO:∀{S:List Ax},Dd S→Dd (IO S)∧(IO S).length≤S.length
 | [],h=>⟨h,Uv _⟩
 | e::S,h=>by
  have hS:Dd S:=λx hx=>h x (by simp[hx]);have he:=h e (by simp);unfold IO
  cases hd:decide (1<e.fLeft) with
  | true=>
   simp only[Ud] at hd;refine⟨λx hx=>?_,by simp⟩;rcases List.mem_cons.1 hx with rfl | hx
   ·simp only;omega
   ·exact hS x hx
  | false=>
   obtain⟨h1,h2⟩:=KO hS;exact⟨h1,by simp only[Un,Uo];omega⟩
theorem Q0 {n:Int}{S:List Ax}{i:Int}{sh:A6}{c:Ac}{σ:LB}(hb:Dd S)(hS:(S.length:Int)≤i)(hN:c.fN≤9223372036854775807)(h:MQ n S i sh c = .next σ):∃S' sh',σ=(S'.reverse,i+1,sh')∧Dd S'∧(S'.length:Int)≤i+1:=by
 unfold MQ at h
 cases hp:pl c with
 | false=>simp[hp] at h
 | true=>
  simp only[hp,Uu,Un] at h
  cases S with
  | nil=>
   simp only at h
   cases hn:decide (0<c.fN) with
   | false=>simp[hn] at h
   | true=>
    simp only[hn,Ut] at h
    cases hm:decide (n<c.fN) with
    | true=>simp[hm] at h
    | false=>
     simp only[hm,Un,Stp.next.injEq] at h;refine⟨[_],_,h.symm,λx hx=>?_,by simp at hS ⊢;omega⟩;simp only[U3] at hx;subst hx;simp only[Ud] at hn;exact⟨by simp only;omega,hN⟩
  | cons e S=>
   have he:=hb e (by simp);have hbS:Dd S:=λx hx=>hb x (by simp[hx]);simp only[Uo] at hS
   cases hk:e.fKey with
   | true=>
    simp only[hk,Ut] at h
    cases hq:(!decide (c.fKind=4)||(e.fStarted&&(Bz c.fStr e.fLast||decide (c.fStr=e.fLast)))) with
    | true=>rw[hq] at h;simp at h
    | false=>
     rw[hq] at h;simp only[Un,Stp.next.injEq] at h;refine⟨_::S,_,h.symm,λx hx=>?_,by simp only[Uo];omega⟩;rcases List.mem_cons.1 hx with rfl | hx
     ·exact he
     ·exact hbS x hx
   | false=>
    simp only[hk,Un] at h
    cases hn:decide (0<c.fN) with
    | true=>
     simp only[hn,Ut] at h
     cases hm:decide (n<c.fN) with
     | true=>simp[hm] at h
     | false=>
      simp only[hm,Un,Stp.next.injEq] at h;refine⟨_::e::S,_,h.symm,λx hx=>?_,by simp only[Uo];omega⟩;rcases List.mem_cons.1 hx with rfl | hx
      ·simp only[Ud] at hn;exact⟨by simp only;omega,hN⟩
      ·exact hb x hx
    | false=>
     simp only[hn,Un] at h
     cases hq:decide (IO (e::S)=[]) with
     | true=>rw[hq] at h;simp at h
     | false=>
      rw[hq] at h;simp only[Un,Stp.next.injEq] at h;obtain⟨h1,h2⟩:=KO hb;simp only[Uo] at h2;exact⟨_,_,h.symm,h1,by omega⟩
theorem JQ {F M:Nat}{v:List Ac}(hA:Oh F M v):∃o,Cu (Mx F v) F (([]:List Ax),0,(⟨0,0,false,false⟩:A6))=some o∧True:=by
 refine CG (λσ=>∃S i sh,σ=(S.reverse,i,sh)∧Dd S∧(S.length:Int)≤i∧0≤i∧i≤v.length) (λσ=>v.length-σ.2.1.toNat) (λ_=>True) (λσ hI=>?_) F _ ⟨[],0,_,rfl,(λx hx=>by cases hx),Uw _,Uw _,by omega⟩ (by have:=hA.hv;have:=hA.hF;simp;omega);obtain⟨S,i,sh,rfl,hb,hS,h0,hi⟩:=hI
 by_cases hx:i<v.length
 ·obtain⟨c,hc⟩:∃c,v[i.toNat]? =some c:=⟨v[i.toNat]'(by omega),Uj (by omega)⟩
  have hdr:v.drop i.toNat=c::v.drop (i.toNat+1):=by rw[List.drop_eq_getElem_cons (by omega)];congr 1;exact(List.getElem?_eq_some_iff.1 hc).2
  have hr:=round (sh:=sh) hA h0 hdr hS hb
  cases hl:MQ v.length S i sh c with
  | next τ=>
   obtain⟨S',sh',rfl,h1,h2⟩:=Q0 hb hS (hA.hc c (Um hc)).2.2 hl;exact .inl ⟨_,by rw[hr,hl],⟨S',i+1,sh',rfl,h1,h2,by omega,by omega⟩,by simp only;omega⟩
  | out o=>exact .inr ⟨o,by rw[hr,hl],trivial⟩
 ·refine .inr ⟨.go sh,?_,trivial⟩;show CX F v S.reverse i sh=_;unfold CX;rw[A7 (by simpa using hx)]
def Fo.one:Fo→Bool
 | .cell none _ .nil=>true
 | .node none _ _ .nil=>true
 | _=>false
def Kh:A6:=⟨0,0,false,false⟩
theorem Qz {F M:Nat}{v:List Ac}(hA:Oh F M v){f:Fo}(h1:f.one=true)(hw:f.wf false none=true){r:List Ac}(hv:v=f.flat++r):Fin (Mx F v) ([],0,Kh) (.ret (f.flat.length,f.sh 0 Kh,true)):=by
 have h0:v.drop (0:Int).toNat=f.flat++r:=by rw[hv];rfl
 have hlen:f.flat.length≤v.length:=by rw[hv];simp
 cases f with
 | nil=>cases h1
 | cell k c r'=>
  cases k with
  | some s=>cases h1
  | none=>
   cases r' with
   | nil=>
    simp only[Fo.wf,Ui,U1] at hw;have:=I3 (S:=[]) (sh:=Kh) hA (Uw 0) h0 (by simp) (λx hx=>by cases hx) rfl hw.1.1.2 hw.1.2;unfold EG at this;rw[if_pos (show IO []=[] from rfl)] at this;simpa[Fo.flat,Fo.sh,Bv,II] using this
   | cell _ _ _=>cases h1
   | node _ _ _ _=>cases h1
 | node k c kids r'=>
  cases k with
  | some s=>cases h1
  | none=>
   cases r' with
   | nil=>
    simp only[Fo.wf,Ui,Ud] at hw;obtain⟨⟨⟨⟨⟨w1,w2⟩,w3⟩,w5⟩,w6⟩,w4⟩:=hw;have hck:=BT kids;simp only[Fo.flat,Bv,List.nil_append,UO,Uo] at hlen;have hvM:=hA.hv;have hMM:=hA.hM;have hn:=GV (S:=[]) (sh:=Kh) hA (Uw 0) h0 (by simp) (λx hx=>by cases hx) rfl w2 (by simpa using w3) (by omega);have hv2:=(B6 (Uw 0) h0).2.1;have hd:=IN hA kids ⟨decide (c.fKind=6),c.fN,decide (c.fKind=6),[],false⟩ [] (0+1) (G3 0 Kh c) none r (by omega) w6 rfl w5 rfl (λ_=>rfl) (by rw[hv2];simp[Fo.flat]) (by omega) (by simp) (λx hx=>by cases hx);unfold EG at hd;rw[if_pos (show IO []=[] from rfl)] at hd;have:=hn.fin hd;have e:((0:Int)+1+kids.flat.length)=((Fo.node none c kids .nil).flat.length:Int):=by simp[Fo.flat,Bv];omega
    rw[e] at this;exact this
   | cell _ _ _=>cases h1
   | node _ _ _ _=>cases h1
theorem Qy {F M:Nat}{v:List Ac}(hA:Oh F M v){f:Fo}(h1:f.one=true)(hw:f.wf false none=true){r:List Ac}(hv:v=f.flat++r):HI F v=some ((f.flat.length:Int),f.sh 0 Kh,true):=by
 obtain⟨o,ho,_⟩:=JQ hA;have e:=(Qz hA h1 hw hv).eq ho;subst e;unfold HI;rw[AP ho];rfl
def Gm (m:Bool)(last:Option Ak)(xs:List Ac):Option (Option Ak×List Ac):=
 bif m then match xs with
  | []=>none
  | c::r=>bif pl c&&decide (c.fKind=4)&&Cc true last (some c.fStr) then some (some c.fStr,r) else none
 else some (none,xs)
def Ge:Nat→Bool→Option Ak→Nat→List Ac→Option (Fo×List Ac)
 | 0,_,_,_,_=>none
 | _+1,_,_,0,xs=>some (.nil,xs)
 | F+1,m,last,k+1,xs=>
  match Gm m last xs with
  | none=>none
  | some (_,[])=>none
  | some (key,c::xs')=>
   bif !pl c then none else
   bif decide (0<c.fN) then
    match Ge F (decide (c.fKind=6)) none c.fN.toNat xs' with
    | none=>none
    | some (kids,ys)=>match Ge F m key k ys with
     | none=>none
     | some (r,zs)=>some (.node key c kids r,zs)
   else match Ge F m key k xs' with
    | none=>none
    | some (r,zs)=>some (.cell key c r,zs)
theorem Lm {c:Ac}(hp:pl c=true)(hk:c.fKind=4):c=⟨4,0,c.fStr,0⟩∧c.fStr.all QT=true:=by
 cases c
 simp only at hk;subst hk;simp[pl] at hp;obtain⟨h1,h2,h3⟩:=hp;subst h1;subst h2;exact⟨rfl,by simpa using h3⟩
theorem Jg {m:Bool}{last key:Option Ak}{xs r:List Ac}(h:Gm m last xs=some (key,r)):xs=Bv key++r∧Cc m last key=true:=by
 unfold Gm at h
 cases m with
 | false=>cases h;exact⟨rfl,rfl⟩
 | true=>
  simp only[Ut] at h
  cases xs with
  | nil=>cases h
  | cons c r'=>
   simp only at h
   cases hb:(pl c&&decide (c.fKind=4)&&Cc true last (some c.fStr)) with
   | false=>rw[hb] at h;cases h
   | true=>
    rw[hb] at h;simp only[Ui,Ud] at hb
    cases h
    exact⟨by rw[(Lm hb.1.1 hb.1.2).1];rfl,hb.2⟩
theorem EF:∀(F:Nat) (m:Bool) (last:Option Ak) (k:Nat) (xs:List Ac) (f:Fo) (ys:List Ac),Ge F m last k xs=some (f,ys)→xs=f.flat++ys∧f.wf m last=true∧f.cnt=k
 | 0,_,_,_,_,_,_,h=>by cases h
 | F+1,m,last,0,xs,f,ys,h=>by cases h;exact⟨rfl,rfl,rfl⟩
 | F+1,m,last,k+1,xs,f,ys,h=>by
  rw[Ge] at h
  cases hk:Gm m last xs with
  | none=>rw[hk] at h;cases h
  | some p=>
   obtain⟨key,r⟩:=p;obtain⟨h1,h2⟩:=Jg hk;rw[hk] at h
   cases r with
   | nil=>cases h
   | cons c xs'=>
    simp only at h
    cases hp:pl c with
    | false=>rw[hp] at h;cases h
    | true=>
     rw[hp] at h;simp only[Uu,Un] at h
     cases hn:decide (0<c.fN) with
     | true=>
      rw[hn] at h;simp only[Ut] at h
      cases hq:Ge F (decide (c.fKind=6)) none c.fN.toNat xs' with
      | none=>rw[hq] at h;cases h
      | some q=>
       obtain⟨kids,zs⟩:=q;rw[hq] at h;simp only at h
       cases hr:Ge F m key k zs with
       | none=>rw[hr] at h;cases h
       | some q2=>
        obtain⟨r2,us⟩:=q2;rw[hr] at h;cases h;obtain⟨a1,a2,a3⟩:=EF F _ _ _ _ _ _ hq;obtain⟨b1,b2,b3⟩:=EF F _ _ _ _ _ _ hr;refine⟨by rw[h1,a1,b1];simp[Fo.flat],?_,by simp[Fo.cnt,b3]⟩;simp only[Ud] at hn;simp only[Fo.wf,h2,hp,a2,b2,UA,Uz,Ui,Ud];omega
     | false=>
      rw[hn] at h;simp only[Un] at h
      cases hr:Ge F m key k xs' with
      | none=>rw[hr] at h;cases h
      | some q2=>
       obtain⟨r2,us⟩:=q2;rw[hr] at h;cases h;obtain⟨b1,b2,b3⟩:=EF F _ _ _ _ _ _ hr;exact⟨by rw[h1,b1];simp[Fo.flat],by simp[Fo.wf,h2,hp,b2,hn],by simp[Fo.cnt,b3]⟩
theorem ET:∀(F F':Nat) (m:Bool) (last:Option Ak) (k:Nat) (xs:List Ac),xs.length<F→xs.length<F'→Ge F m last k xs=Ge F' m last k xs
 | 0,_,_,_,_,_,h,_=>by omega
 | _+1,0,_,_,_,_,_,h=>by omega
 | F+1,F'+1,m,last,0,xs,_,_=>rfl
 | F+1,F'+1,m,last,k+1,xs,h,h'=>by
  rw[Ge,Ge]
  cases hk:Gm m last xs with
  | none=>rfl
  | some p=>
   obtain⟨key,r⟩:=p;obtain⟨h1,h2⟩:=Jg hk
   cases r with
   | nil=>rfl
   | cons c xs'=>
    have hl:xs'.length<xs.length:=by rw[h1];simp;omega
    simp only
    cases hp:pl c with
    | false=>rfl
    | true=>
     simp only[Uu,Un]
     cases hn:decide (0<c.fN) with
     | true=>
      simp only[Ut];rw[ET F F' _ _ _ xs' (by omega) (by omega)]
      cases hq:Ge F' (decide (c.fKind=6)) none c.fN.toNat xs' with
      | none=>rfl
      | some q=>
       obtain⟨kids,zs⟩:=q;have:=(EF _ _ _ _ _ _ _ hq).1;have hz:zs.length≤xs'.length:=by rw[this];simp
       simp only;rw[ET F F' m key k zs (by omega) (by omega)]
     | false=>
      simp only[Un];rw[ET F F' m key k xs' (by omega) (by omega)]
def N0 {S:Type}(body:S→Option (Stp S Sm))(s:S):Prop:=∃sh',Fin body s (.ret (0,sh',false))∨Fin body s (.go sh')
theorem Dv.bad {S:Type}{body:S→Option (Stp S Sm)}{s t:S}(h:Dv body s t)(h':N0 body t):N0 body s:=by
 obtain⟨sh',h' | h'⟩:=h'
 ·exact⟨sh',.inl (h.fin h')⟩
 ·exact⟨sh',.inr (h.fin h')⟩
section
variable {F M : Nat} {v : List Ac}
theorem N0.end_ {S:List Ax}{i:Int}{sh:A6}(h0:0≤i)(h:v.drop i.toNat=[]):N0 (Mx F v) (S.reverse,i,sh):=by
 refine⟨sh,.inr (Fin.step ?_)⟩;show CX F v S.reverse i sh=_;unfold CX;rw[A7];have:v.length≤i.toNat:=by simpa using h
 simp;omega
theorem N0.pl_ (hA:Oh F M v){S:List Ax}{i:Int}{sh:A6}{c:Ac}{r:List Ac}(h0:0≤i)(h:v.drop i.toNat=c::r)(hS:(S.length:Int)≤i)(hb:Dd S)(hp:pl c=false):N0 (Mx F v) (S.reverse,i,sh):=by
 refine⟨sh,.inl (Fin.step ?_)⟩;rw[round hA h0 h hS hb];simp[MQ,hp]
theorem Nt (hA:Oh F M v):∀(P:Nat) (k:Nat) (e:Ax) (S:List Ax) (i:Int) (sh:A6) (last:Option Ak) (xs:List Ac),xs.length<P→Ge P e.fPairs last (k+1) xs=none→e.fKey=e.fPairs→e.fLeft=(k:Int)+1→(k:Int)+1≤9223372036854775807→GI e last→(e.fPairs=false→last=none)→v.drop i.toNat=xs→0≤i→(S.length:Int)+1≤i→Dd S→
  N0 (Mx F v) ((e::S).reverse,i,sh):=by
 intro P
 induction P with
 | zero=>intro k e S i sh last xs h;omega
 | succ P ih=>
  intro k e S i sh last xs hP hn hk hl hkm hlo hm hv h0 hS hb;have hb':Dd (e::S):=λx hx=>by
   rcases List.mem_cons.1 hx with rfl | hx
   ·constructor<;>omega
   ·exact hb x hx
  rw[Ge] at hn
  cases hq:Gm e.fPairs last xs with
  | none=>
   unfold Gm at hq
   cases hpr:e.fPairs with
   | false=>rw[hpr] at hq;cases hq
   | true=>
    rw[hpr] at hq hk;simp only[Ut] at hq
    cases xs with
    | nil=>exact N0.end_ h0 hv
    | cons c r=>
     simp only at hq
     cases hp:pl c with
     | false=>exact N0.pl_ hA h0 hv (by simpa using hS) hb' hp
     | true=>
      refine⟨sh,.inl (Fin.step ?_)⟩;rw[round hA h0 hv (by simpa using hS) hb'];have ht:(!decide (c.fKind=4)||(e.fStarted&&(Bz c.fStr e.fLast||decide (c.fStr=e.fLast))))=true:=by
       rw[hp] at hq
       cases h4:decide (c.fKind=4) with
       | false=>rfl
       | true=>
        rw[h4] at hq;simp only[Bool.and_self,Uz] at hq;have hok:=(Lm hp (by simpa using h4)).2
        cases last with
        | none=>simp[Cc,hok] at hq
        | some p=>
         obtain⟨q1,q2⟩:=hlo;rw[q1,q2]
         cases hc:(Bz c.fStr p||decide (c.fStr=p)) with
         | true=>rfl
         | false=>simp[Cc,hok,hc] at hq
      simp only[MQ,hp,hk,ht,Uu,Un,Ut]
  | some q=>
   obtain⟨key,r⟩:=q;obtain⟨h1,h2⟩:=Jg hq;rw[hq] at hn;have hkr:=JW (sh:=sh) hA h0 (by rw[hv];exact h1) hS hb' (by rw[hk];exact h2) hlo;have hv1:=C3 h0 (hv.trans h1);obtain⟨kl,kp⟩:=H7 (e:=e) key;obtain⟨q1,q2⟩:=H8 hlo hm h2;have hbk:Dd (Ef e key::S):=λx hx=>by
    rcases List.mem_cons.1 hx with rfl | hx
    ·rw[kl];exact hb' e (by simp)
    ·exact hb x hx
   refine hkr.bad ?_
   cases r with
   | nil=>exact N0.end_ (by omega) hv1
   | cons c xs'=>
    have hlen:xs'.length+1≤xs.length:=by rw[h1];simp
    have hvl:xs.length≤v.length:=by rw[← hv,List.length_drop];omega
    have hvM:=hA.hv;have hMM:=hA.hM;have hkk:=I4 (e:=e) (last:=last) (k:=key) (by rw[hk];exact h2);simp only at hn;have hSk:(((Ef e key::S).length:Nat):Int)≤i+(Bv key).length:=by simp only[Uo];omega
    cases hp:pl c with
    | false=>exact N0.pl_ hA (by omega) hv1 hSk hbk hp
    | true=>
     rw[hp] at hn;simp only[Uu,Un] at hn;obtain⟨g1,g2,g3⟩:=B6 (by omega) hv1;have hcN:=(hA.hc c (Um g1)).2.2;have more:∀(s:LB) (j:Int) (sh':A6) (zs:List Ac),EG (Mx F v) s (Ef e key::S) j sh'→v.drop j.toNat=zs→zs.length<P→0≤j→(S.length:Int)+1≤j→Ge P e.fPairs key k zs=none→N0 (Mx F v) s:=λs j sh' zs hd hz hzl hj hSj hnone=>by
      cases k with
      | zero=>
       cases P with
       | zero=>omega
       | succ P=>cases hnone
      | succ k=>
       have:=hd.more (by rw[kl];omega);refine this.bad (ih k _ S j sh' key zs hzl (by rw[kp];exact hnone) rfl (by simp only[kl];omega) (by omega) ?_ (by simpa using q2) hz hj hSj hb)
       cases key with
       | none=>exact q1
       | some p=>exact q1
     cases hN:decide (0<c.fN) with
     | true=>
      rw[hN] at hn;simp only[Ut] at hn;simp only[Ud] at hN
      by_cases hbig:c.fN≤v.length
      ·have hnd:=GV (sh:=II key sh) hA (by omega) hv1 hSk hbk (by simpa[I5] using hkk) hp (by simpa using hN) hbig;refine hnd.bad ?_
       cases hks:Ge P (decide (c.fKind=6)) none c.fN.toNat xs' with
       | none=>
        obtain⟨n',hn'⟩:∃n',c.fN.toNat=n'+1:=⟨c.fN.toNat-1,by omega⟩
        rw[hn'] at hks;exact ih n' _ _ _ _ none xs' (by omega) hks rfl (by simp only;omega) (by omega) rfl (λ_=>rfl) g2 (by omega) (by simp only[Uo];omega) hbk
       | some q=>
        obtain⟨kids,zs⟩:=q;rw[hks] at hn;simp only at hn;have hn2:Ge P e.fPairs key k zs=none:=by
         cases hz:Ge P e.fPairs key k zs with
         | none=>rfl
         | some q=>rw[hz] at hn;cases hn
        obtain⟨a1,a2,a3⟩:=EF _ _ _ _ _ _ _ hks;have hd:=IN hA kids ⟨decide (c.fKind=6),c.fN,decide (c.fKind=6),[],false⟩ (Ef e key::S) (i+(Bv key).length+1) (G3 (S.length+1) (II key sh) c) none zs (by omega) a2 rfl (by simp only;omega) rfl (λ_=>rfl) (by rw[g2];exact a1) (by omega) (by simp only[Uo];omega) hbk;have hz:v.drop (i+(Bv key).length+1+kids.flat.length).toNat=zs:=C3 (by omega) (g2.trans a1);have hzl:zs.length≤xs'.length:=by rw[a1];simp
        exact more _ _ _ zs hd hz (by omega) (by omega) (by omega) hn2
      ·refine⟨G3 (Ef e key::S).length (II key sh) c,.inl (Fin.step ?_)⟩;rw[round hA (by omega) hv1 hSk hbk];have hbig':decide ((v.length:Int)<c.fN)=true:=by simpa using hbig
       simp only[MQ,hp,hkk,hbig',hN,Uu,Un,Ut,decide_true]
     | false=>
      rw[hN] at hn;simp only[Un] at hn;have hn2:Ge P e.fPairs key k xs'=none:=by
       cases hz:Ge P e.fPairs key k xs' with
       | none=>rfl
       | some q=>rw[hz] at hn;cases hn
      have hd:=I3 (sh:=II key sh) hA (by omega) hv1 hSk hbk (by simpa[I5] using hkk) hp hN;exact more _ _ _ xs' hd g2 (by omega) (by omega) (by omega) hn2
def EV (xs:List Ac):Option (Fo×List Ac):=Ge (xs.length+1) false none 1 xs
theorem NI {P:Nat}{xs ys:List Ac}{f:Fo}(h:Ge P false none 1 xs=some (f,ys)):f.one=true:=by
 obtain⟨h1,h2,h3⟩:=EF _ _ _ _ _ _ _ h
 cases f with
 | nil=>cases h3
 | cell k c r=>
  cases r with
  | nil=>
   cases k with
   | none=>rfl
   | some s=>simp[Fo.wf,Cc] at h2
  | cell _ _ _=>simp[Fo.cnt] at h3
  | node _ _ _ _=>simp[Fo.cnt] at h3
 | node k c kids r=>
  cases r with
  | nil=>
   cases k with
   | none=>rfl
   | some s=>simp[Fo.wf,Cc] at h2
  | cell _ _ _=>simp[Fo.cnt] at h3
  | node _ _ _ _=>simp[Fo.cnt] at h3
theorem OX (hA:Oh F M v)(h:EV v=none):N0 (Mx F v) ([],0,Kh):=by
 have hlf:Dd []:=λx hx=>by cases hx
 unfold EV at h;rw[Ge] at h;simp only[Gm,Un] at h
 cases v with
 | nil=>exact N0.end_ (S:=[]) (Uw 0) rfl
 | cons c xs'=>
  have hv1:(c::xs').drop (0:Int).toNat=c::xs':=rfl;have hvM:=hA.hv;have hMM:=hA.hM;simp only at h
  cases hp:pl c with
  | false=>exact N0.pl_ (S:=[]) hA (Uw 0) hv1 (by simp) hlf hp
  | true=>
   rw[hp] at h;simp only[Uu,Un] at h;have hcN:=(hA.hc c (by simp)).2.2
   cases hN:decide (0<c.fN) with
   | true=>
    rw[hN] at h;simp only[Ut] at h;simp only[Ud] at hN
    by_cases hbig:c.fN≤(c::xs').length
    ·have hnd:=GV (S:=[]) (sh:=Kh) hA (Uw 0) hv1 (by simp) hlf rfl hp (by simpa using hN) hbig;refine hnd.bad ?_
     cases hks:Ge (c::xs').length (decide (c.fKind=6)) none c.fN.toNat xs' with
     | none=>
      obtain⟨n',hn'⟩:∃n',c.fN.toNat=n'+1:=⟨c.fN.toNat-1,by omega⟩
      rw[hn'] at hks;exact Nt hA (c::xs').length n' ⟨decide (c.fKind=6),c.fN,decide (c.fKind=6),[],false⟩ [] (0+1) _ none xs' (by simp) hks rfl (by simp only;omega) (by omega) rfl (λ_=>rfl) rfl (by omega) (by simp) hlf
     | some q=>rw[hks] at h;cases h
    ·refine⟨G3 0 Kh c,.inl (Fin.step ?_)⟩;rw[show Mx F (c::xs') (([]:List Ax),0,Kh)=_ from round (S:=[]) hA (Uw 0) hv1 (by simp) hlf];have hbig':decide (((c::xs').length:Int)<c.fN)=true:=by simpa using hbig
     simp only[MQ,hp,hbig',hN,Uu,Un,Ut,decide_true]
   | false=>rw[hN] at h;cases h
theorem RB (hA:Oh F M v):(∃f ys,EV v=some (f,ys)∧HI F v=some ((f.flat.length:Int),f.sh 0 Kh,true))∨(EV v=none∧∃sh',HI F v=some (0,sh',false)):=by
 cases h:EV v with
 | some q=>
  obtain⟨f,ys⟩:=q;obtain⟨h1,h2,h3⟩:=EF _ _ _ _ _ _ _ h;exact .inl ⟨f,ys,rfl,Qy hA (NI h) h2 h1⟩
 | none=>
  refine .inr ⟨rfl,?_⟩;obtain⟨o,ho,_⟩:=JQ hA;obtain⟨sh',hb | hb⟩:=OX hA h
  ·have e:=hb.eq ho;subst e;exact⟨sh',by unfold HI;rw[AP ho];rfl⟩
  ·have e:=hb.eq ho;subst e;exact⟨sh',by unfold HI;rw[AP ho];rfl⟩
end
end Go.Proofs.YtmmbdclkpijkpaaGreatDoor
