/-
  Texts of the proof, put together: QG, QO, RowQ, PQB, WQB, PVa, WVa, PVb, WVb, PVc, WVc, PVd, WVd, PVe, WVe, PVf, WVf, PM, PS, PN, PSo, PTa, QU, QT, QN, QM, QI, QW, QV, PH, QJ, QX, QL.
-/
import Derived.Test.YtmmbdclkpijkpaaGreatDoorTW1
import Derived.Deep.Slices
import Derived.ChangeArms
import Derived.DataReads
import Derived.Test.YtmmbdclkpijkpaaGreatDoorProg
import Derived.Laws.Tables
import Derived.Lib.Bytealg
import Derived.Lib.SmallJoins
import Derived.Laws.StructEq
import Derived.Laws.Cover3
import Derived.MapKept
import Derived.Maps.RangeRun
import GoSem.Op.IntBits
import GoSem.Op.Shift
import Derived.ScopeJumps
import Derived.Laws.CopyRow
import Derived.Laws.IdiomCopy
import Derived.Laws.OwnMore
namespace Go.Proofs.YtmmbdclkpijkpaaGreatDoor.Q
open Go Go.RowKit
set_option linter.unusedVariables false
def GE (Z:Fz):Prop:=∀w,Pq Z w→Pv w
theorem GE.mono {Z Z':Fz}(h:Fz.le Z Z')(hg:GE Z):GE Z':=λw hw=>hg w ⟨λb o e=>hw b o (h b o e),λk i b e=>hw.nm k i b (h.nm k i b e)⟩
theorem Kj.rle {P:Program}{E:Fz→Prop}{f:FuncId}{args:List Rp}{r r':Rp}(h:Kj P E f args r)(hr:MS r r'):Kj P E f args r':=λw Z vs hv hs=>
 (h w Z vs hv hs).mono λe w' ⟨q,v,H,Z',he,⟨hq,hH⟩,hp,ht⟩=>⟨r',v,H,Z',he,⟨rfl,hH⟩,hr Z' v (hq▸hp),ht⟩
theorem Kj.of_id {P:Program}{E:Fz→Prop}{f:FuncId}{vs:List Value}{v:Value}(h:∀w,Calls P f vs.toArray w (λe w'=>e = .returned v∧w'=w)):Kj P E f (vs.map rv) (rv v):=
 Kj.of_old λw Z _ _=>(h w).mono λe w' ⟨he,hw⟩=>⟨he,by rw[hw];exact Proofs.YtmmbdclkpijkpaaGreatDoor.St.refl w []⟩
theorem QF (m:Int)(g:BH .i64 m=true):Kj Tryz.prog GE 44 [rI .i64 m] (rS (Lib.itoa m)):=Kj.of_old (vs:=[.int .i64 m]) λw Z hf he=>QG m (EC g).1 (EC g).2 w (he w hf)
theorem SF (m:Int)(g:BH .i64 m=true):Kj Tryz.prog GE 66 [rI .i64 m] (rS (Lib.itoa m)):=Kj.of_old (vs:=[.int .i64 m]) λw Z hf he=>QA m (EC g).1 (EC g).2 w (he w hf)
theorem Oc (s:Ak)(c:UInt8):Kj Tryz.prog GE 128 [rS s,rS [c]] (rI .i64 (Lib.countByte s c)):=Kj.of_id (vs:=[.string (B s),.string (B [c])]) λw=>by have:=Tryz.strings_Count_one (B s) c w;rwa [SS] at this
theorem TL (s:Ak):Kj Tryz.prog GE 61 [rS s] (rB (Pa s)):=Kj.of_old (vs:=[.string (B s)]) λw Z hf he=>TM s w
theorem Qq (s:Ak):Kj Tryz.prog GE 62 [rS s] (rB (C9 s)):=Kj.of_old (vs:=[.string (B s)]) λw Z hf he=>SC s w
open Go Go.RowKit Go.ChangeShapes Go.Deep
set_option linter.unusedSimpArgs false
def ZW (W:World):Fz:=⟨λb=>W.heap[b]?,λ_ _=>none⟩
theorem ZW.frz (W:World):Pq (ZW W) W:=⟨λ_ _ h=>h,λ_ _ _ h=>by cases h⟩
def IV (P:Program)(e:TypeId){α:Type}(enc:α→List Rp)(ok:α→Bool):Prop:=
 ∀{H:Type} {encH:TypeId×Value→H} {W:World} {sp:Nat→Bool} {held:Bool} {n:Nat} {cs:List Value} {x:DataW H×List MemPlace},DataW.trod encH P W 0 sp held n e cs=some x→∃y:α,ok y=true∧AS (ZW W) (enc y) cs
section
variable {P : Program} {e t : TypeId}
theorem IV.int {k:IntKind}{enc:Int→List Rp}(ht:P.underlying e=some (.int k))(he:∀n,enc n=[rI k n]):IV P e enc (BH k):=λh=>by
 obtain⟨n,rfl,_,hwf⟩:=DataW.trod_int ht h;exact⟨n,hwf,by rw[he];exact⟨rfl,trivial⟩⟩
theorem IV.str {enc:Ak→List Rp}(ht:P.underlying e=some .string)(he:∀n,enc n=[rS n]):IV P e enc QU:=λh=>by
 obtain⟨s,rfl,_,hl⟩:=DataW.trod_string ht h;exact⟨s.data.toList,Ul (by rw[Array.length_toList];exact hl),by rw[he];exact⟨congrArg Value.string (TT s),trivial⟩⟩
theorem IV.bool {enc:Bool→List Rp}(ht:P.underlying e=some .bool)(he:∀n,enc n=[rB n]):IV P e enc (λ_=>true):=λh=>by
 obtain⟨b,rfl,_⟩:=DataW.trod_bool ht h;exact⟨b,rfl,by rw[he];exact⟨rfl,trivial⟩⟩
theorem KP {W:World}{a:Addr}{v:Value}(h:W.cell? a=some v):a.spot=none∧Gt (ZW W) a.block a.off=some v:=by
 unfold World.cell? at h;unfold Gt ZW;dsimp only
 cases hh:W.heap[a.block]? with
 | none=>rw[hh] at h;cases h
 | some o=>
  rw[hh] at h
  cases o with
  | cells cs t fz=>
   cases hs:a.spot with
   | none=>simp[hs] at h;exact⟨rfl,h⟩
   | some _=>simp[hs] at h
  | _=>simp at h
theorem IV.slice {α:Type}[Inhabited α]{enc:α→List Rp}{ok:α→Bool}{sz:Nat}(ht:P.underlying t=some (.slice e))(hc:P.cellsOf e=sz)(hsz:0<sz)(h:IV P e enc ok)(hlen:∀y,(enc y).length=sz){enc':List α→List Rp}(he:∀ys,enc' ys=[AY sz (ys.map enc)]) :
  IV P t enc' (λys=>ys.all ok&&decide (ys.length≤9223372036854775807)):=fun {H encH W sp held n cs x} hx=>by
 rcases open_slice ht hx with⟨rfl,_⟩ | ⟨a,len,cap,m,n',D,Pl,rfl,hb,hl,hm,hmm,_,hel⟩
 ·exact⟨[],by simp,by rw[he];exact⟨MR.nil sz _,trivial⟩⟩
 ·have hlm:len≤m:=by rw[hmm];split<;>omega
  have each:∀i,i<len→∃y:α,ok y=true∧∃cs',W.cells? 0 (a.add (i*sz)) sz=some cs'∧AS (ZW W) (enc y) cs':=λi hi=>by
   obtain⟨cs',h1,h2⟩:=hel i (by omega);obtain⟨y,hy,hr⟩:=h h2;rw[hc] at h1;exact⟨y,hy,cs',h1,hr⟩
  obtain⟨f,hf⟩:=choose_lt each;refine⟨(List.range len).map f,?_,?_⟩
  ·simp only[Ui,U2,List.mem_map,List.mem_range,Ud];refine⟨?_,by simp;simp only[maxLen] at hm;omega⟩;rintro _ ⟨i,hi,rfl⟩;exact(hf i hi).1
  ·rw[he];refine⟨⟨some a,cap,by simp,by simpa using hl,hm,(λh=>by cases h),λi c hi=>?_⟩,trivial⟩;rw[US,U4] at hi;have hil:i<len:=by
    cases hq:(List.range len)[i]? with
    | none=>rw[hq] at hi;cases hi
    | some _=>have:=(List.getElem?_eq_some_iff.1 hq).1;simpa using this
   rw[List.getElem?_range hil] at hi;simp only[Option.map_some,Option.some.injEq,Function.comp] at hi;subst hi;obtain⟨_,cs',h1,hr⟩:=hf i hil;obtain⟨_,hcl,hcell⟩:=World.cells?_some h1;have hsp:a.spot=none:=by
    obtain⟨_,cs0,g1,_⟩:=hf 0 (by omega);obtain⟨_,gcl,gcell⟩:=World.cells?_some g1;have h0:=gcell 0 hsz;rw[Uj (by omega)] at h0;have:=(KP h0).1;simpa[Addr.add] using this
   refine⟨hlen _,a,rfl,hsp,λj r hj=>?_⟩;obtain⟨u,hu,hp⟩:=hr.at hj;have hjs:j<sz:=by have:=(List.getElem?_eq_some_iff.1 hj).1;rw[hlen] at this;exact this
   have h3:=hcell j hjs;rw[hu] at h3;have h4:=(KP h3).2;refine⟨u,?_,hp⟩;have e1:((a.add (i*sz)).add j).block=a.block:=by simp only[Addr.add];split<;>split<;>rfl
   have e2:((a.add (i*sz)).add j).off=a.off+(i*sz+j):=by simp only[Addr.add];split<;>split<;>simp_all<;>omega
   rw[e1,e2] at h4;exact h4
theorem Ld {Z:Fz}{cs:List Value}{o:Nat}(h:cs.length=o):AS Z [] (cs.drop o):=by rw[List.drop_of_length_le (by omega)];trivial
theorem CH {Z:Fz}{cs:List Value}{o s o':Nat}{rs rs':List Rp}(h:AS Z rs ((cs.drop o).take s))(ho:o+s=o')(h2:AS Z rs' (cs.drop o')):AS Z (rs++rs') (cs.drop o):=by
 rw[← List.take_append_drop s (cs.drop o),List.drop_drop];subst ho;exact h.append h2
theorem IV.val {α:Type}{enc:α→List Rp}{ok:α→Bool}(h:IV P e enc ok){r:α→Rp}(he:∀y,enc y=[r y]){H:Type}{encH:TypeId×Value→H}{W:World}{sp:Nat→Bool}{held:Bool}{v:Value}{d:DataW H}{ps:List MemPlace}
  (hone:v.cells = #[v]) (ht:DataW.Trod encH P W 0 sp held e v d ps):∃y:α,ok y=true∧(r y).p (ZW W) v:=by
 obtain⟨fuel,hf⟩:=ht;rw[hone] at hf;obtain⟨y,hy,hr⟩:=h hf;rw[he] at hr;exact⟨y,hy,hr.1⟩
end
theorem QE {W w:World}(hw:Pq (ZW W) w):W.heap.size≤w.heap.size:=by
 rcases Nat.eq_zero_or_pos W.heap.size with h | h
 ·omega
 ·have h1:W.heap[W.heap.size-1]? =some (W.heap[W.heap.size-1]'(by omega)):=Array.getElem?_eq_getElem (by omega);have:=(Array.getElem?_eq_some_iff.1 (hw _ _ h1)).1;omega
theorem Pc {W:World}(hE:Pv W):GE (ZW W):=λw hw=>by
 have hb:Below W.heap.size W { w with os:=W.os,tape:=W.tape,output:=W.output }:=⟨rfl,rfl,rfl,(show W.heap.size≤w.heap.size from QE hw),λk hk=>by
  have h1:W.heap[k]? =some (W.heap[k]'hk):=Array.getElem?_eq_getElem hk;rw[h1];exact hw k _ h1⟩
 have hE2:=hE.st0 (St.of_below hb);exact⟨L7.block { w with os:=W.os,tape:=W.tape,output:=W.output } w (λ_ _=>rfl) hE2.tabs,hE2.size⟩
theorem PH {W:World}(hE:Pv W):St ⟨W,ZW W,[],GE,[]⟩ [] (ZW W) W where
 os:=rfl
 tape:=rfl
 output:=rfl
 size:=Uv _
 old:=λ_ _ _=>rfl
 has:=λ_ h=>by cases h
 own:=λ_ h=>by cases h
 dis:=.nil
 frz:=ZW.frz W
 le:=Fz.le.refl _
 new:=λ_ _ h=>.inl h
 zdis:=λ_ h=>by cases h
 env:=Pc hE
 emono:=λh hg=>GE.mono h hg
 gst:=IE.none rfl
theorem PI {W W':World}{Z Z':Fz}{E:Fz→Prop}{H:List Ent}(h:St ⟨W,Z,[],E,[]⟩ H Z' W'):Below W.heap.size W W':=⟨h.os,h.tape,h.output,h.size,λk hk=>h.old k hk (by simp)⟩
open Go
set_option maxRecDepth 100000
set_option maxHeartbeats 4000000
end Go.Proofs.YtmmbdclkpijkpaaGreatDoor.Q
namespace Go.Proofs.YtmmbdclkpijkpaaGreatDoor
open Go
set_option linter.unusedVariables false
structure Ac where
 fKind:Int
 fInt:Int
 fStr:Ak
 fN:Int
 deriving DecidableEq,Inhabited
def GT (s:Ak)(ha:Int):Option (Stp (Int) (Out (Bool) (Unit))):=
 Bm (decide (ha<(s.length:Int))) (Bk (D2 ha (s.length:Int))<|Bm (((decide ((DC s ha)<32))||(decide (126<(DC s ha))))) (some (.out (.ret false))) (Bk (BH .i64 (ha+1))<|some (.next (ha+1)))) (some (.out (.go ())))
def GS :Option (Bool):=
 some true
def GC (F:Nat)(s:Ak):Option (Bool):=
 B0 (Cu (λσ=>GT s σ) F 0) (B9 λν=>GS )
def Bn (ok:Bool)(i:Int):Option (Int):=
 Bm (ok) (Bk (BH .i64 (i+1))<|some (i+1)) (some (-1))
def Ko (F:Nat)(c:Ac):Option (Bool):=
 Bk (imp (decide (c.fKind=4)) (imp (decide (c.fInt=0)) (imp (decide (c.fN=0)) ((GC F c.fStr).isSome))))<|some ((decide (c.fKind=4))&&((decide (c.fInt=0))&&((decide (c.fN=0))&&(ov (GC F c.fStr)))))
def Li (F:Nat)(ha:(List Ac)→Int→Int→Option (Int))(hb:(List Ac)→Int→Int→Option (Int))(v:(List Ac))(i:Int):Option (Int):=
 Bm (((decide (i<0))||(decide ((v.length:Int)≤i)))) (some (-1)) (Bk (D2 i (v.length:Int))<|Bm (decide (((Aj v i).fKind)=1)) (Bk (imp (decide (((Aj v i).fInt)=0)) (imp (decide (((Aj v i).fStr)=([]:Ak))) ((Bn (decide (((Aj v i).fN)=0)) i).isSome)))<|Bk (imp (decide (((Aj v i).fInt)=0)) (imp (!(decide (((Aj v i).fStr)=([]:Ak)))) ((Bn false i).isSome)))<|Bk (imp (!(decide (((Aj v i).fInt)=0))) ((Bn false i).isSome))<|some (bif decide (((Aj v i).fInt)=0) then(bif decide (((Aj v i).fStr)=([]:Ak)) then(ov (Bn (decide (((Aj v i).fN)=0)) i)) else(ov (Bn false i))) else(ov (Bn false i)))) (Bm (decide (((Aj v i).fKind)=2)) (Bk (imp (decide (((Aj v i).fInt)=0)) (imp (decide (((Aj v i).fStr)=([]:Ak))) ((Bn (decide (((Aj v i).fN)=0)) i).isSome)))<|Bk (imp (decide (((Aj v i).fInt)=0)) (imp (!(decide (((Aj v i).fStr)=([]:Ak)))) ((Bn false i).isSome)))<|Bk (imp (!(decide (((Aj v i).fInt)=0))) (imp (decide (((Aj v i).fInt)=1)) (imp (decide (((Aj v i).fStr)=([]:Ak))) ((Bn (decide (((Aj v i).fN)=0)) i).isSome))))<|Bk (imp (!(decide (((Aj v i).fInt)=0))) (imp (decide (((Aj v i).fInt)=1)) (imp (!(decide (((Aj v i).fStr)=([]:Ak)))) ((Bn false i).isSome))))<|Bk (imp (!(decide (((Aj v i).fInt)=0))) (imp (!(decide (((Aj v i).fInt)=1))) ((Bn false i).isSome)))<|some (bif decide (((Aj v i).fInt)=0) then(bif decide (((Aj v i).fStr)=([]:Ak)) then(ov (Bn (decide (((Aj v i).fN)=0)) i)) else(ov (Bn false i))) else(bif decide (((Aj v i).fInt)=1) then(bif decide (((Aj v i).fStr)=([]:Ak)) then(ov (Bn (decide (((Aj v i).fN)=0)) i)) else(ov (Bn false i))) else(ov (Bn false i))))) (Bm (decide (((Aj v i).fKind)=3)) (Bk (imp (decide (((Aj v i).fStr)=([]:Ak))) ((Bn (decide (((Aj v i).fN)=0)) i).isSome))<|Bk (imp (!(decide (((Aj v i).fStr)=([]:Ak)))) ((Bn false i).isSome))<|some (bif decide (((Aj v i).fStr)=([]:Ak)) then(ov (Bn (decide (((Aj v i).fN)=0)) i)) else(ov (Bn false i)))) (Bm (decide (((Aj v i).fKind)=4)) (B0 (Ko F (Aj v i)) λhd=>B0 (Bn hd i) λhe=>some he) (Bm (((decide (((Aj v i).fKind)=5))&&((decide (((Aj v i).fInt)=0))&&((decide (((Aj v i).fStr)=([]:Ak)))&&(decide (0≤((Aj v i).fN))))))) (Bk (BH .i64 (i+1))<|B0 (ha v (i+1) ((Aj v i).fN)) λhf=>some hf) (Bm (((decide (((Aj v i).fKind)=6))&&((decide (((Aj v i).fInt)=0))&&((decide (((Aj v i).fStr)=([]:Ak)))&&(decide (0≤((Aj v i).fN))))))) (Bk (BH .i64 (i+1))<|B0 (hb v (i+1) ((Aj v i).fN)) λhg=>some hg) (some (-1))))))))
def Cb (v:(List Ac))(n:Int)(he:(List Ac)→Int→Option (Int))(hb:Int)(ha:Int):Option (Stp (Int×Int) (Out (Int) (Int))):=
 Bm (decide (ha<n)) (B0 (he v hb) λhd=>Bm (decide (hd<0)) (some (.out (.ret (-1)))) (Bk (BH .i64 (ha+1))<|some (.next (hd,ha+1)))) (some (.out (.go hb)))
def Dh (ha:Int):Option (Int):=
 some ha
def Gj (F:Nat)(ha:(List Ac)→Int→Option (Int))(v:(List Ac))(i:Int)(n:Int):Option (Int):=
 B0 (Cu (λσ=>Cb v n ha σ.1 σ.2) F (i,0)) (B9 λν=>Dh ν)
def Cz (F:Nat)(v:(List Ac))(n:Int)(hf:(List Ac)→Int→Option (Int))(ha:Int)(hd:Ak)(hb:Int):Option (Stp (Int×Ak×Int) (Out (Int) (Int))):=
 Bm (decide (hb<n)) (Bk (imp (!(decide ((v.length:Int)≤ha))) (D2 ha (v.length:Int)))<|Bk (imp (!(decide ((v.length:Int)≤ha))) ((Ko F (Aj v ha)).isSome))<|Bm (((decide ((v.length:Int)≤ha))||((!(ov (Ko F (Aj v ha))))||((decide (0<hb))&&(Bz ((Aj v ha).fStr) hd||decide (((Aj v ha).fStr)=hd)))))) (some (.out (.ret (-1)))) (Bk (D2 ha (v.length:Int))<|Bk (BH .i64 (ha+1))<|B0 (hf v (ha+1)) λhe=>Bm (decide (he<0)) (some (.out (.ret (-1)))) (Bk (BH .i64 (hb+1))<|some (.next (he,(Aj v ha).fStr,hb+1))))) (some (.out (.go ha)))
def Ep (ha:Int):Option (Int):=
 some ha
def Je (F:Nat)(ha:(List Ac)→Int→Option (Int))(v:(List Ac))(i:Int)(n:Int):Option (Int):=
 B0 (Cu (λσ=>Cz F v n ha σ.1 σ.2.1 σ.2.2) F (i,([]:Ak),0)) (B9 λν=>Ep ν)
mutual
def C8:Nat→(List Ac)→Int→Option (Int)
 | 0,_,_=>none
 | nn+1,v,i=>Li nn (Eq nn) (Ix nn) v i
def Eq:Nat→(List Ac)→Int→Int→Option (Int)
 | 0,_,_,_=>none
 | nn+1,v,i,n=>Gj nn (C8 nn) v i n
def Ix:Nat→(List Ac)→Int→Int→Option (Int)
 | 0,_,_,_=>none
 | nn+1,v,i,n=>Je nn (C8 nn) v i n
end
def HY (F:Nat)(v:(List Ac)):Option (Bool):=
 Bk (imp (decide (0<(v.length:Int))) ((C8 F v 0).isSome))<|some ((decide (0<(v.length:Int)))&&(decide ((ov (C8 F v 0))=(v.length:Int))))
def BZ (F:Nat)(v:(List Ac))(i:Int)(he:(List Ac)→Int→Option (Int))(hd:Int)(hb:Int)(ha:Int):Option (Stp (Int×Int×Int) (Out (Int) (Int))):=
 Bm (decide (ha<((Aj v i).fN))) (Bm (decide (((Aj v i).fKind)=6)) (Bk (BH .i64 (hb+1))<|B0 (he v (hb+1)) λhf=>Bm (decide (hd<hf)) (B0 (C8 F v (hb+1)) λhh=>Bk (BH .i64 (ha+1))<|some (.next (hf,hh,ha+1))) (B0 (C8 F v (hb+1)) λhi=>Bk (BH .i64 (ha+1))<|some (.next (hd,hi,ha+1)))) (B0 (he v hb) λhg=>Bm (decide (hd<hg)) (B0 (C8 F v hb) λhj=>Bk (BH .i64 (ha+1))<|some (.next (hg,hj,ha+1))) (B0 (C8 F v hb) λhk=>Bk (BH .i64 (ha+1))<|some (.next (hd,hk,ha+1))))) (some (.out (.go hd)))
def Da (ha:Int):Option (Int):=
 Bk (BH .i64 (ha+1))<|some (ha+1)
def EQ (F:Nat)(ha:(List Ac)→Int→Option (Int))(v:(List Ac))(i:Int):Option (Int):=
 Bk (D2 i (v.length:Int))<|Bm (((!decide (((Aj v i).fKind)=5))&&(!decide (((Aj v i).fKind)=6)))) (some 1) (Bk (BH .i64 (i+1))<|B0 (Cu (λσ=>BZ F v i ha σ.1 σ.2.1 σ.2.2) F (0,i+1,0)) (B9 λν=>Da ν))
def Cj:Nat→(List Ac)→Int→Option (Int)
 | 0,_,_=>none
 | nn+1,v,i=>EQ nn (Cj nn) v i
def Cg (s:Ak)(hb:Ak)(ha:Int):Option (Stp (Ak×Int) (Out (Ak) (Ak))):=
 Bm (decide (ha<(s.length:Int))) (Bk (D2 ha (s.length:Int))<|Bm (((decide ((DC s ha)=34))||(decide ((DC s ha)=92)))) (Bk (BH .i64 ((hb.length:Int)+(([92]:Ak).length:Int)))<|Bk (BH .i64 (ha+1))<|Bk (Ki ha (ha+1))<|Bk (Ki (ha+1) (s.length:Int))<|Bk (BH .i64 (((hb++([92]:Ak)).length:Int)+((List.take (Int.toNat (ha+1)-Int.toNat ha) (List.drop (Int.toNat ha) s)).length:Int)))<|some (.next ((hb++([92]:Ak))++(List.take (Int.toNat (ha+1)-Int.toNat ha) (List.drop (Int.toNat ha) s)),ha+1))) (Bk (BH .i64 (ha+1))<|Bk (Ki ha (ha+1))<|Bk (Ki (ha+1) (s.length:Int))<|Bk (BH .i64 ((hb.length:Int)+((List.take (Int.toNat (ha+1)-Int.toNat ha) (List.drop (Int.toNat ha) s)).length:Int)))<|some (.next (hb++(List.take (Int.toNat (ha+1)-Int.toNat ha) (List.drop (Int.toNat ha) s)),ha+1)))) (some (.out (.go hb)))
def CD (ha:Ak):Option (Ak):=
 Bk (BH .i64 ((ha.length:Int)+(([34]:Ak).length:Int)))<|some (ha++([34]:Ak))
def Gi (F:Nat)(s:Ak):Option (Ak):=
 B0 (Cu (λσ=>Cg s σ.1 σ.2) F (([34]:Ak),0)) (B9 λν=>CD ν)
def CZ (F:Nat)(v:(List Ac))(i:Int)(he:(List Ac)→Int→Option (Ak))(ha:Ak)(hb:Int)(hd:Int):Option (Stp (Ak×Int×Int) (Out (Ak) (Ak))):=
 Bm (decide (hd<((Aj v i).fN))) (Bm (decide (0<hd)) (Bk (BH .i64 ((ha.length:Int)+(([44]:Ak).length:Int)))<|Bm (decide (((Aj v i).fKind)=6)) (Bk (D2 hb (v.length:Int))<|B0 (Gi F ((Aj v hb).fStr)) λhf=>Bk (BH .i64 (((ha++([44]:Ak)).length:Int)+(hf.length:Int)))<|Bk (BH .i64 ((((ha++([44]:Ak))++hf).length:Int)+(([58]:Ak).length:Int)))<|Bk (BH .i64 (hb+1))<|B0 (he v (hb+1)) λhh=>Bk (BH .i64 (((((ha++([44]:Ak))++hf)++([58]:Ak)).length:Int)+(hh.length:Int)))<|B0 (C8 F v (hb+1)) λhl=>Bk (BH .i64 (hd+1))<|some (.next ((((ha++([44]:Ak))++hf)++([58]:Ak))++hh,hl,hd+1))) (B0 (he v hb) λhi=>Bk (BH .i64 (((ha++([44]:Ak)).length:Int)+(hi.length:Int)))<|B0 (C8 F v hb) λhm=>Bk (BH .i64 (hd+1))<|some (.next ((ha++([44]:Ak))++hi,hm,hd+1)))) (Bm (decide (((Aj v i).fKind)=6)) (Bk (D2 hb (v.length:Int))<|B0 (Gi F ((Aj v hb).fStr)) λhg=>Bk (BH .i64 ((ha.length:Int)+(hg.length:Int)))<|Bk (BH .i64 (((ha++hg).length:Int)+(([58]:Ak).length:Int)))<|Bk (BH .i64 (hb+1))<|B0 (he v (hb+1)) λhj=>Bk (BH .i64 ((((ha++hg)++([58]:Ak)).length:Int)+(hj.length:Int)))<|B0 (C8 F v (hb+1)) λhn=>Bk (BH .i64 (hd+1))<|some (.next (((ha++hg)++([58]:Ak))++hj,hn,hd+1))) (B0 (he v hb) λhk=>Bk (BH .i64 ((ha.length:Int)+(hk.length:Int)))<|B0 (C8 F v hb) λho=>Bk (BH .i64 (hd+1))<|some (.next (ha++hk,ho,hd+1))))) (some (.out (.go ha)))
def Ey (v:(List Ac))(i:Int)(ha:Ak):Option (Ak):=
 Bm (decide (((Aj v i).fKind)=6)) (Bk (BH .i64 ((([123]:Ak).length:Int)+(ha.length:Int)))<|Bk (BH .i64 (((([123]:Ak)++ha).length:Int)+(([125]:Ak).length:Int)))<|some ((([123]:Ak)++ha)++([125]:Ak))) (Bk (BH .i64 ((([91]:Ak).length:Int)+(ha.length:Int)))<|Bk (BH .i64 (((([91]:Ak)++ha).length:Int)+(([93]:Ak).length:Int)))<|some ((([91]:Ak)++ha)++([93]:Ak)))
def Iv (F:Nat)(ha:(List Ac)→Int→Option (Ak))(v:(List Ac))(i:Int):Option (Ak):=
 Bk (D2 i (v.length:Int))<|Bm (decide (((Aj v i).fKind)=1)) (some ([110,117,108,108]:Ak)) (Bm (decide (((Aj v i).fKind)=2)) (Bm (decide (((Aj v i).fInt)=1)) (some ([116,114,117,101]:Ak)) (some ([102,97,108,115,101]:Ak))) (Bm (decide (((Aj v i).fKind)=3)) (Bk (BH .i64 ((Aj v i).fInt))<|some (Lib.itoa ((Aj v i).fInt))) (Bm (decide (((Aj v i).fKind)=4)) (B0 (Gi F ((Aj v i).fStr)) λhb=>some hb) (Bk (BH .i64 (i+1))<|B0 (Cu (λσ=>CZ F v i ha σ.1 σ.2.1 σ.2.2) F (([]:Ak),i+1,0)) (B9 λν=>Ey v i ν)))))
def Ee:Nat→(List Ac)→Int→Option (Ak)
 | 0,_,_=>none
 | nn+1,v,i=>Iv nn (Ee nn) v i
def Di (v:(List Ac))(ha:Int):Option (Stp (Int) (Out (Int) (Unit))):=
 Bm (decide (ha<(v.length:Int))) (Bk (D2 ha (v.length:Int))<|Bm (decide (200<(((Aj v ha).fStr).length:Int))) (some (.out (.ret 3))) (Bk (BH .i64 (ha+1))<|some (.next (ha+1)))) (some (.out (.go ())))
def ER (F:Nat)(v:(List Ac)):Option (Int):=
 B0 (Ee F v 0) λha=>Bm (decide (4000<(ha.length:Int))) (some 3) (some 0)
def Dj (v:(List Ac))(ha:Int):Option (Stp (Int) (Out (Int) (Unit))):=
 Bm (decide (ha<(v.length:Int))) (Bk (D2 ha (v.length:Int))<|Bm (((decide (((Aj v ha).fKind)=3))&&((decide (((Aj v ha).fInt)<(-1000000000000)))||(decide (1000000000000<((Aj v ha).fInt)))))) (some (.out (.ret 2))) (Bk (BH .i64 (ha+1))<|some (.next (ha+1)))) (some (.out (.go ())))
def ES (F:Nat)(v:(List Ac)):Option (Int):=
 Bk (imp (!(decide (200<(v.length:Int)))) ((Cj F v 0).isSome))<|Bm (((decide (200<(v.length:Int)))||(decide (8<(ov (Cj F v 0)))))) (some 3) (B0 (Cu (λσ=>Di v σ) F 0) (B9 λν=>ER F v ))
def JH (F:Nat)(v:(List Ac)):Option (Int):=
 B0 (HY F v) λr1=>Bm (!r1) (some 1) (B0 (Cu (λσ=>Dj v σ) F 0) (B9 λν=>ES F v ))
end Go.Proofs.YtmmbdclkpijkpaaGreatDoor
namespace Go.Proofs.YtmmbdclkpijkpaaGreatDoor.Q
open Go Go.RowKit
set_option linter.unusedVariables false
set_option linter.unusedSimpArgs false
set_option maxRecDepth 100000
set_option maxHeartbeats 4000000
@[reducible] def Ad (x:Ac):List Rp:=[Aq x.fKind,Aq x.fInt,rS x.fStr,Aq x.fN]
theorem DW (x:Ac):(Ad x).length=4:=rfl
theorem Kr (x:Ac):(Ad x).all (·.one)=true:=rfl
theorem PW (F:Nat)(s:Ak)(r:Bool)(h:GC F s=some r):Fn Tryz.prog GE 151 [rS s] [] (λR H=>R=rB r∧H=[]):=by
 refine enter (n:=20) Tryz.func151 rfl Tryz.ntmps151 rfl (λw Z=>?_);unfold GC at h;refine Al (wa rfl (Aw (At (Al (wa rfl (Aw (AJ (ob h λhi hj hg=>Bs (S:=Nat×(Int)×(Unit)) (V:=(Unit)×(Unit)) 0 (λσ=>Cu (λσ=>GT s σ) σ.1 σ.2.1=some hi) (λσ=>[(0,rS s),(3,Aq σ.2.1)]) (λσ=>[]) (λσ=>σ.1) (F,0,()) hj (AF.c rfl (AF.c rfl AF.nil)) sN (λσ=>GS =some r) (λσ=>[]) (λσ=>[]) ?_ ?_))))))))
 ·rintro⟨hz,hb,⟨⟩⟩ hk;refine Ca (l':=[(0,rS s),(3,Aq hb)]) (H':=[]) rfl rfl ?_;obtain⟨hl,rfl,t37,hd,hf⟩:=CJ hk;replace hd:GT s hb=some t37:=hd;unfold GT at hd;refine At (Al (wm rfl (wm rfl (wv (B8 Es rfl) (wv (C0 rfl rfl) (Aw (cz hd rfl (λhm hn=>?_) (λhm ho=>?_))))))))
  ·refine A0 (AQ (At (AJ (ck hn λhh hp=>AA [(0,rS s),(3,Aq hb),(19,rB ((decide ((DC s hb)<32))||(decide (126<(DC s hb)))))] [] ?_ ?_))))
   ·refine An (wm rfl (wm rfl (wv (Cf Es rfl rfl hh) (wv (C0 rfl rfl) (wm rfl (AH (decide ((DC s hb)<32)) (λha=>?_) (λha=>?_)))))))
    ·refine wf ha (wf ha (wf ha (wf ha (wv (r:=rB true) (Ao rfl ha rfl) (Am ?_)))));exact BA ha
    ·refine wo ha (wm rfl (wo ha (wm rfl (wo ha (wv (Cf Es rfl rfl hh) (wo ha (wv (Dl rfl rfl) (DT rfl ha rfl (Am ?_)))))))));exact BA ha
   refine cz hp rfl (λhq hr=>?_) (λhq hs=>?_)
   ·refine Al (wa rfl (Aw (Az (A9 (Af (Af (Bi ?_)))))));have ht:=BC hr hf hg;refine A9 (Af ?_);obtain rfl:=A2 ht;exact Ay (Bw Tryz.results151 (AT rfl)) sN ⟨rfl,rfl⟩
   ·refine A0 (AO (AQ (An (wm rfl (ck hs λhu hw=>wv (Bt rfl rfl hu) (wa rfl (Am ?_)))))));have hx:=Be hw hf;exact A5 (AE (hl,hb+1,()) ⟨hx,Ur _⟩ (AF.c rfl (AF.c rfl AF.nil)) sN)
  ·refine Bu (A4 ?_);have hy:=BY ho hf hg;exact A4 (Bb (AE ((),()) hy AF.nil sN))
 ·rintro⟨⟨⟩,⟨⟩⟩ he;refine C7 (l':=[]) (H':=[]) rfl rfl ?_;replace he:GS =some r:=he;unfold GS at he;refine Ba (AQ (Al (wa rfl (Aw (Az ?_)))));obtain rfl:=A2 he;exact Ay (Bw Tryz.results151 (AT rfl)) sN ⟨rfl,rfl⟩
theorem Db (ok:Bool)(i:Int)(r:Int)(h:Bn ok i=some r):Fn Tryz.prog GE 138 [rB ok,Aq i] [] (λR H=>R=Aq r∧H=[]):=by
 refine enter (n:=8) Tryz.func138 rfl Tryz.ntmps138 rfl (λw Z=>?_);unfold Bn at h;refine Al (wa rfl (Aw (At (Al (wm rfl (Aw (cz h rfl (λc1 h2=>?_) (λc1 h5=>?_))))))))
 ·refine Al (wm rfl (ck h2 λg3 h4=>wv (Bt rfl rfl g3) (wa rfl (Aw (Az (Af ?_))))));obtain rfl:=A2 h4;exact Ay (Bw Tryz.results138 (AT rfl)) sN ⟨rfl,rfl⟩
 ·refine A0 (AQ (Al (wv (r:=Aq (-1)) (AK rfl) (Aw (Az ?_)))));obtain rfl:=A2 h5;exact Ay (Bw Tryz.results138 (AT rfl)) sN ⟨rfl,rfl⟩
theorem PZ (F:Nat)(c:Ac)(r:Bool)(h:Ko F c=some r):Fn Tryz.prog GE 139 [Bf (Ad c)] [] (λR H=>R=rB r∧H=[]):=by
 refine enter (n:=21) Tryz.func139 rfl Tryz.ntmps139 rfl (λw Z=>?_);unfold Ko at h;refine Al (B3 rfl rfl (λb1=>?_));refine wa rfl (Aw (ck h λg2 h3=>AA [(2,rB ((decide (c.fKind=4))&&((decide (c.fInt=0))&&((decide (c.fN=0))&&(ov (GC F c.fStr))))))] [] ?_ ?_))
 ·refine An (vF Bh rfl DH (vL 0 DI rfl (wv (Bj rfl rfl) (wm rfl (AH (decide (c.fKind=4)) (λc4=>?_) (λc4=>?_))))))
  ·refine wo c4 (vF Bh rfl Cv (wo c4 (vL 0 CC rfl (wo c4 (wv (Bj rfl rfl) (Eu rfl c4 rfl (wm rfl (AH (decide (c.fInt=0)) (λc5=>?_) (λc5=>?_)))))))))
   ·refine wo c5 (vF Bh rfl Cv (wo c5 (vL 0 CC rfl (wo c5 (wv (Bj rfl rfl) (Eu rfl c5 rfl (wm rfl (AH (decide (c.fN=0)) (λc6=>?_) (λc6=>?_)))))))))
    ·refine wo c6 (vF Bh rfl D5 (wo c6 (vL 0 DF rfl (wo c6 (CS Tryz.call151 (PW F c.fStr (ov (GC F c.fStr)) (E0 (CA (CA (CA g2 c4) c5) c6))) rfl (Eu rfl c6 rfl (wa rfl (Am ?_))))))));exact BA (And.intro c4 (And.intro c5 c6))
    ·refine wf c6 (wf c6 (wf c6 (wv (r:=rB false) (A1 rfl c6 rfl) (wa rfl (Am ?_)))));exact BA (And.intro c4 (And.intro c5 c6))
   ·refine wf c5 (wf c5 (wf c5 (wv (r:=rB false) (A1 rfl c5 rfl) (wm rfl (wz rfl rfl (wz rfl rfl (wz rfl rfl (wv (r:=rB false) (A1 (b:=false) rfl rfl rfl) (wa rfl (Am ?_))))))))));exact BA (And.intro c4 c5)
  ·refine wf c4 (wf c4 (wf c4 (wv (r:=rB false) (A1 rfl c4 rfl) (wm rfl (wz rfl rfl (wz rfl rfl (wz rfl rfl (wv (r:=rB false) (A1 (b:=false) rfl rfl rfl) (wm rfl (wz rfl rfl (wz rfl rfl (wz rfl rfl (wv (r:=rB false) (A1 (b:=false) rfl rfl rfl) (wa rfl (Am ?_)))))))))))))));exact BA c4
 refine Az ?_;obtain rfl:=A2 h3;exact Ay (Bw Tryz.results139 (AT rfl)) sN ⟨rfl,rfl⟩
theorem PX (F:Nat)(hn:(List Ac)→Int→Int→Option (Int))(ho:(List Ac)→Int→Int→Option (Int))(hq:(∀(v:(List Ac)) (i:Int) (n:Int) (r:Int),hn v i n=some r→Fn Tryz.prog GE 140 [AY 4 (AD Ad v),Aq i,Aq n] [] (λR H=>R=Aq r∧H=[])))(hr:(∀(v:(List Ac)) (i:Int) (n:Int) (r:Int),ho v i n=some r→Fn Tryz.prog GE 141 [AY 4 (AD Ad v),Aq i,Aq n] [] (λR H=>R=Aq r∧H=[])))(v:(List Ac))(i:Int)(r:Int)(h:Li F hn ho v i=some r):Fn Tryz.prog GE 124 [AY 4 (AD Ad v),Aq i] [] (λR H=>R=Aq r∧H=[]):=by
 refine enter (n:=127) Tryz.func124 rfl Tryz.ntmps124 rfl (λw Z=>?_);unfold Li at h;refine Al (wa rfl (Aw (At (AA [(0,AY 4 (AD Ad v)),(1,Aq i),(13,rB ((decide (i<0))||(decide ((v.length:Int)≤i))))] [] ?_ ?_))))
 ·refine An (wm rfl (wv (C0 rfl rfl) (wm rfl (AH (decide (i<0)) (λc1=>?_) (λc1=>?_)))))
  ·refine wf c1 (wf c1 (wf c1 (wf c1 (wv (r:=rB true) (Ao rfl c1 rfl) (Am ?_)))));exact BA c1
  ·refine wo c1 (wm rfl (wo c1 (wm rfl (wo c1 (wv (B1 (ys:=v) (enc:=Ad) CR rfl) (wo c1 (wv (G4 rfl rfl) (DT rfl c1 rfl (Am ?_)))))))));exact BA c1
 refine cz h rfl (λc2 h3=>?_) (λc2 h4=>?_)
 ·refine Al (wv (r:=Aq (-1)) (AK rfl) (Aw (Az (Af ?_))));obtain rfl:=A2 h3;exact Ay (Bw IF (AT rfl)) sN ⟨rfl,rfl⟩
 ·refine A0 (AQ (Al (wm rfl (wm rfl (ck h4 λg5 h6=>wv (BN (enc:=Ad) (ys:=v) CR Dr rfl rfl g5) (wv (BX Km Dr rfl rfl rfl) (CO (cs:=[Aq 0,Aq 0,rS ([]:Ak),Aq 0]) Oi rfl rfl (λb7=>?_))))))));refine BJ (i:=0) Dr rfl rfl rfl (BV.c rfl) rfl rfl (cs':=[Aq ((Aj v i).fKind),Aq ((Aj v i).fInt),rS ((Aj v i).fStr),Aq ((Aj v i).fN)]) rfl (H':=[.blk b7 (Ad (Aj v i)) 89]) rfl (Aw (At (Al (vF Bh rfl DH (vL 0 DI rfl (wv (Bj rfl rfl) (Aw (cz h6 rfl (λc8 h9=>?_) (λc8 hs=>?_)))))))))
  ·refine ck h9 λht hu=>ck hu λhw hx=>ck hx λhy hz=>AA [(4,Aq (bif decide (((Aj v i).fInt)=0) then(bif decide (((Aj v i).fStr)=([]:Ak)) then(ov (Bn (decide (((Aj v i).fN)=0)) i)) else(ov (Bn false i))) else(ov (Bn false i))))] [] ?_ ?_
   ·refine An (vF Bh rfl Cv (vL 0 CC rfl (wv (Bj rfl rfl) (wm rfl (AH (decide (((Aj v i).fInt)=0)) (λhb=>?_) (λhb=>?_))))))
    ·refine wo hb (vF Bh rfl D5 (wo hb (vL 0 DF rfl (wo hb (wv (EB rfl rfl) (Eu rfl hb rfl (wm rfl (AH (decide (((Aj v i).fStr)=([]:Ak))) (λhe=>?_) (λhe=>?_)))))))))
     ·refine wo he (vF Bh rfl Cv (wo he (vL 0 CC rfl (wo he (wv (Bj rfl rfl) (Eu rfl he rfl (wm rfl (CS G6 (Db (decide (((Aj v i).fN)=0)) i (ov (Bn (decide (((Aj v i).fN)=0)) i)) (E0 (CA (CA ht hb) he))) rfl (wa rfl (Am ?_))))))))));exact BA (And.intro hb he)
     ·refine wf he (wf he (wf he (wv (r:=rB false) (A1 rfl he rfl) (wm rfl (CS G6 (Db false i (ov (Bn false i)) (E0 (D8 (CA hw hb) he))) rfl (wa rfl (Am ?_)))))));exact BA (And.intro hb he)
    ·refine wf hb (wf hb (wf hb (wv (r:=rB false) (A1 rfl hb rfl) (wm rfl (wz rfl rfl (wz rfl rfl (wz rfl rfl (wv (r:=rB false) (A1 (b:=false) rfl rfl rfl) (wm rfl (CS G6 (Db false i (ov (Bn false i)) (E0 (D8 hy hb))) rfl (wa rfl (Am ?_))))))))))));exact BA hb
   refine Az (Af ?_);obtain rfl:=A2 hz;exact Ay (Bw IF (AT rfl)) sN ⟨rfl,rfl⟩
  ·refine A0 (AQ (At (Al (vF Bh rfl DH (vL 0 DI rfl (wv (Bj rfl rfl) (Aw (cz hs rfl (λh0 h1=>?_) (λh0 h2=>?_)))))))))
   ·refine ck h1 λh5 h7=>ck h7 λh8 hA=>ck hA λhB hC=>ck hC λhD hE=>ck hE λhG hH=>AA [(4,Aq (bif decide (((Aj v i).fInt)=0) then(bif decide (((Aj v i).fStr)=([]:Ak)) then(ov (Bn (decide (((Aj v i).fN)=0)) i)) else(ov (Bn false i))) else(bif decide (((Aj v i).fInt)=1) then(bif decide (((Aj v i).fStr)=([]:Ak)) then(ov (Bn (decide (((Aj v i).fN)=0)) i)) else(ov (Bn false i))) else(ov (Bn false i)))))] [] ?_ ?_
    ·refine An (vF Bh rfl Cv (vL 0 CC rfl (wv (Bj rfl rfl) (wm rfl (AH (decide (((Aj v i).fInt)=0)) (λha=>?_) (λha=>?_))))))
     ·refine wf ha (wf ha (wf ha (wv (r:=rB true) (Ao rfl ha rfl) (wm rfl (AG (b:=true) rfl rfl rfl (vF Bh rfl D5 (AG (b:=true) rfl rfl rfl (vL 0 DF rfl (AG (b:=true) rfl rfl rfl (wv (EB rfl rfl) (wv (r:=rB (decide (((Aj v i).fStr)=([]:Ak)))) (Ao (b:=true) rfl rfl rfl) (wm rfl (AH (decide (((Aj v i).fStr)=([]:Ak))) (λhf=>?_) (λhf=>?_))))))))))))))
      ·refine wo hf (vF Bh rfl Cv (wo hf (vL 0 CC rfl (wo hf (wv (Bj rfl rfl) (Eu rfl hf rfl (wm rfl (CS G6 (Db (decide (((Aj v i).fN)=0)) i (ov (Bn (decide (((Aj v i).fN)=0)) i)) (E0 (CA (CA h5 ha) hf))) rfl (wa rfl (Am ?_))))))))));exact BA (And.intro ha hf)
      ·refine wf hf (wf hf (wf hf (wv (r:=rB false) (A1 rfl hf rfl) (wm rfl (CS G6 (Db false i (ov (Bn false i)) (E0 (D8 (CA h8 ha) hf))) rfl (wa rfl (Am ?_)))))));exact BA (And.intro ha hf)
     ·refine wo ha (vF Bh rfl Cv (wo ha (vL 0 CC rfl (wo ha (wv (Bj rfl rfl) (DT rfl ha rfl (wm rfl (AH (decide (((Aj v i).fInt)=1)) (λhd=>?_) (λhd=>?_)))))))))
      ·refine wo hd (vF Bh rfl D5 (wo hd (vL 0 DF rfl (wo hd (wv (EB rfl rfl) (Eu rfl hd rfl (wm rfl (AH (decide (((Aj v i).fStr)=([]:Ak))) (λhg=>?_) (λhg=>?_)))))))))
       ·refine wo hg (vF Bh rfl Cv (wo hg (vL 0 CC rfl (wo hg (wv (Bj rfl rfl) (Eu rfl hg rfl (wm rfl (CS G6 (Db (decide (((Aj v i).fN)=0)) i (ov (Bn (decide (((Aj v i).fN)=0)) i)) (E0 (CA (CA (D8 hB ha) hd) hg))) rfl (wa rfl (Am ?_))))))))));exact BA (And.intro ha (And.intro hd hg))
       ·refine wf hg (wf hg (wf hg (wv (r:=rB false) (A1 rfl hg rfl) (wm rfl (CS G6 (Db false i (ov (Bn false i)) (E0 (D8 (CA (D8 hD ha) hd) hg))) rfl (wa rfl (Am ?_)))))));exact BA (And.intro ha (And.intro hd hg))
      ·refine wf hd (wf hd (wf hd (wv (r:=rB false) (A1 rfl hd rfl) (wm rfl (wz rfl rfl (wz rfl rfl (wz rfl rfl (wv (r:=rB false) (A1 (b:=false) rfl rfl rfl) (wm rfl (CS G6 (Db false i (ov (Bn false i)) (E0 (D8 (D8 hG ha) hd))) rfl (wa rfl (Am ?_))))))))))));exact BA (And.intro ha hd)
    refine Az (Af ?_);obtain rfl:=A2 hH;exact Ay (Bw IF (AT rfl)) sN ⟨rfl,rfl⟩
   ·refine A0 (AQ (At (Al (vF Bh rfl DH (vL 0 DI rfl (wv (Bj rfl rfl) (Aw (cz h2 rfl (λhI hJ=>?_) (λhI hK=>?_)))))))))
    ·refine ck hJ λhL hN=>ck hN λhO hP=>AA [(4,Aq (bif decide (((Aj v i).fStr)=([]:Ak)) then(ov (Bn (decide (((Aj v i).fN)=0)) i)) else(ov (Bn false i))))] [] ?_ ?_
     ·refine An (vF Bh rfl D5 (vL 0 DF rfl (wv (EB rfl rfl) (wm rfl (AH (decide (((Aj v i).fStr)=([]:Ak))) (λhh=>?_) (λhh=>?_))))))
      ·refine wo hh (vF Bh rfl Cv (wo hh (vL 0 CC rfl (wo hh (wv (Bj rfl rfl) (Eu rfl hh rfl (wm rfl (CS G6 (Db (decide (((Aj v i).fN)=0)) i (ov (Bn (decide (((Aj v i).fN)=0)) i)) (E0 (CA hL hh))) rfl (wa rfl (Am ?_))))))))));exact BA hh
      ·refine wf hh (wf hh (wf hh (wv (r:=rB false) (A1 rfl hh rfl) (wm rfl (CS G6 (Db false i (ov (Bn false i)) (E0 (D8 hO hh))) rfl (wa rfl (Am ?_)))))));exact BA hh
     refine Az (Af ?_);obtain rfl:=A2 hP;exact Ay (Bw IF (AT rfl)) sN ⟨rfl,rfl⟩
    ·refine A0 (AQ (At (Al (vF Bh rfl DH (vL 0 DI rfl (wv (Bj rfl rfl) (Aw (cz hK rfl (λhQ hR=>?_) (λhQ hS=>?_)))))))))
     ·refine Al (wv (Bo (i:=0) Km Dr rfl rfl rfl rfl) (ob hR λhp hT hU=>CS Tryz.call139 (PZ F (Aj v i) hp hT) rfl (wm rfl (ob hU λhV hW hX=>CS G6 (Db hp i hV hW) rfl (wa rfl (Aw (Az (Af ?_))))))));obtain rfl:=A2 hX;exact Ay (Bw IF (AT rfl)) (sS sN) ⟨rfl,rfl⟩
     ·refine A0 (AQ (At (AA [(0,AY 4 (AD Ad v)),(1,Aq i),(5,rP b7 0),(96,rB ((decide (((Aj v i).fKind)=5))&&((decide (((Aj v i).fInt)=0))&&((decide (((Aj v i).fStr)=([]:Ak)))&&(decide (0≤((Aj v i).fN)))))))] [.blk b7 (Ad (Aj v i)) 89] ?_ ?_)))
      ·refine An (vF Bh rfl DH (vL 0 DI rfl (wv (Bj rfl rfl) (wm rfl (AH (decide (((Aj v i).fKind)=5)) (λc53=>?_) (λc53=>?_))))))
       ·refine wo c53 (vF Bh rfl Cv (wo c53 (vL 0 CC rfl (wo c53 (wv (Bj rfl rfl) (Eu rfl c53 rfl (wm rfl (AH (decide (((Aj v i).fInt)=0)) (λhj=>?_) (λhj=>?_)))))))))
        ·refine wo hj (vF Bh rfl D5 (wo hj (vL 0 DF rfl (wo hj (wv (EB rfl rfl) (Eu rfl hj rfl (wm rfl (AH (decide (((Aj v i).fStr)=([]:Ak))) (λhl=>?_) (λhl=>?_)))))))))
         ·refine wo hl (vF Bh rfl Cv (wo hl (vL 0 CC rfl (wo hl (wv (G4 rfl rfl) (Eu rfl hl rfl (Am ?_)))))));exact BA (And.intro c53 (And.intro hj hl))
         ·refine wf hl (wf hl (wf hl (wv (r:=rB false) (A1 rfl hl rfl) (Am ?_))));exact BA (And.intro c53 (And.intro hj hl))
        ·refine wf hj (wf hj (wf hj (wv (r:=rB false) (A1 rfl hj rfl) (wm rfl (wz rfl rfl (wz rfl rfl (wz rfl rfl (wv (r:=rB false) (A1 (b:=false) rfl rfl rfl) (Am ?_)))))))));exact BA (And.intro c53 hj)
       ·refine wf c53 (wf c53 (wf c53 (wv (r:=rB false) (A1 rfl c53 rfl) (wm rfl (wz rfl rfl (wz rfl rfl (wz rfl rfl (wv (r:=rB false) (A1 (b:=false) rfl rfl rfl) (wm rfl (wz rfl rfl (wz rfl rfl (wz rfl rfl (wv (r:=rB false) (A1 (b:=false) rfl rfl rfl) (Am ?_))))))))))))));exact BA c53
      refine cz hS rfl (λhY hZ=>?_) (λhY ga=>?_)
      ·refine Al (wm rfl (wm rfl (ck hZ λgb gc=>wv (Bt rfl rfl gb) (vF Bh rfl Cv (vL 0 CC rfl (ob gc λgd ge gf=>CS Tryz.call140 (hq v (i+1) ((Aj v i).fN) gd ge) rfl (wa rfl (Aw (Az (Af ?_))))))))));obtain rfl:=A2 gf;exact Ay (Bw IF (AT rfl)) (sS sN) ⟨rfl,rfl⟩
      ·refine A0 (AQ (At (AA [(0,AY 4 (AD Ad v)),(1,Aq i),(5,rP b7 0),(120,rB ((decide (((Aj v i).fKind)=6))&&((decide (((Aj v i).fInt)=0))&&((decide (((Aj v i).fStr)=([]:Ak)))&&(decide (0≤((Aj v i).fN)))))))] [.blk b7 (Ad (Aj v i)) 89] ?_ ?_)))
       ·refine An (vF Bh rfl DH (vL 0 DI rfl (wv (Bj rfl rfl) (wm rfl (AH (decide (((Aj v i).fKind)=6)) (λhi=>?_) (λhi=>?_))))))
        ·refine wo hi (vF Bh rfl Cv (wo hi (vL 0 CC rfl (wo hi (wv (Bj rfl rfl) (Eu rfl hi rfl (wm rfl (AH (decide (((Aj v i).fInt)=0)) (λhk=>?_) (λhk=>?_)))))))))
         ·refine wo hk (vF Bh rfl D5 (wo hk (vL 0 DF rfl (wo hk (wv (EB rfl rfl) (Eu rfl hk rfl (wm rfl (AH (decide (((Aj v i).fStr)=([]:Ak))) (λhm=>?_) (λhm=>?_)))))))))
          ·refine wo hm (vF Bh rfl Cv (wo hm (vL 0 CC rfl (wo hm (wv (G4 rfl rfl) (Eu rfl hm rfl (Am ?_)))))));exact BA (And.intro hi (And.intro hk hm))
          ·refine wf hm (wf hm (wf hm (wv (r:=rB false) (A1 rfl hm rfl) (Am ?_))));exact BA (And.intro hi (And.intro hk hm))
         ·refine wf hk (wf hk (wf hk (wv (r:=rB false) (A1 rfl hk rfl) (wm rfl (wz rfl rfl (wz rfl rfl (wz rfl rfl (wv (r:=rB false) (A1 (b:=false) rfl rfl rfl) (Am ?_)))))))));exact BA (And.intro hi hk)
        ·refine wf hi (wf hi (wf hi (wv (r:=rB false) (A1 rfl hi rfl) (wm rfl (wz rfl rfl (wz rfl rfl (wz rfl rfl (wv (r:=rB false) (A1 (b:=false) rfl rfl rfl) (wm rfl (wz rfl rfl (wz rfl rfl (wz rfl rfl (wv (r:=rB false) (A1 (b:=false) rfl rfl rfl) (Am ?_))))))))))))));exact BA hi
       refine cz ga rfl (λgg gh=>?_) (λgg gi=>?_)
       ·refine Al (wm rfl (wm rfl (ck gh λgj gl=>wv (Bt rfl rfl gj) (vF Bh rfl Cv (vL 0 CC rfl (ob gl λgm gp gq=>CS Tryz.call141 (hr v (i+1) ((Aj v i).fN) gm gp) rfl (wa rfl (Aw (Az (Af ?_))))))))));obtain rfl:=A2 gq;exact Ay (Bw IF (AT rfl)) (sS sN) ⟨rfl,rfl⟩
       ·refine A0 (AQ (Al (wv (r:=Aq (-1)) (AK rfl) (Aw (Az ?_)))));obtain rfl:=A2 gi;exact Ay (Bw IF (AT rfl)) (sS sN) ⟨rfl,rfl⟩
theorem Lk (F:Nat)(ha:(List Ac)→Int→Option (Int))(hk:(∀(v:(List Ac)) (i:Int) (r:Int),ha v i=some r→Fn Tryz.prog GE 124 [AY 4 (AD Ad v),Aq i] [] (λR H=>R=Aq r∧H=[])))(v:(List Ac))(i:Int)(n:Int)(r:Int)(h:Gj F ha v i n=some r):Fn Tryz.prog GE 140 [AY 4 (AD Ad v),Aq i,Aq n] [] (λR H=>R=Aq r∧H=[]):=by
 refine enter (n:=19) Tryz.func140 rfl Tryz.ntmps140 rfl (λw Z=>?_);unfold Gj at h;refine Al (wa rfl (Aw (At (Al (wa rfl (Aw (AJ (ob h λhl hm hh=>Bs (S:=Nat×(Int×Int)×(Unit)) (V:=(Int)×(Unit)) 0 (λσ=>Cu (λσ=>Cb v n ha σ.1 σ.2) σ.1 σ.2.1=some hl) (λσ=>[(0,AY 4 (AD Ad v)),(1,Aq σ.2.1.1),(2,Aq n),(6,Aq 0),(7,Aq σ.2.1.2)]) (λσ=>[]) (λσ=>σ.1) (F,(i,0),()) hm (AF.c5 rfl rfl rfl rfl rfl AF.nil) sN (λσ=>Dh σ.1=some r) (λσ=>[(1,Aq σ.1),(6,Aq 0)]) (λσ=>[]) ?_ ?_))))))))
 ·rintro⟨h2,⟨hb,hf⟩,⟨⟩⟩ hn;refine Ca (l':=[(0,AY 4 (AD Ad v)),(1,Aq hb),(2,Aq n),(6,Aq 0),(7,Aq hf)]) (H':=[]) rfl rfl ?_;obtain⟨ho,rfl,hp,hd,hg⟩:=CJ hn;replace hd:Cb v n ha hb hf=some hp:=hd;unfold Cb at hd;refine At (Al (wm rfl (wm rfl (wv (C0 rfl rfl) (Aw (cz hd rfl (λc46 hq=>?_) (λc46 hr=>?_)))))))
  ·refine A0 (AQ (At (AJ (Al (wm rfl (wm rfl (ob hq λhi hs ht=>CS G7 (hk v hb hi hs) rfl (wa rfl (BW (wm rfl (wv (C0 rfl rfl) (Aw (cz ht rfl (λc51 hu=>?_) (λc51 hw=>?_))))))))))))))
   ·refine Al (wv (r:=Aq (-1)) (AK rfl) (Aw (Az (A9 (Af (Af (Bi ?_)))))));have hx:=BC hu hg hh;refine A9 (Af ?_);obtain rfl:=A2 hx;exact Ay (Bw Tryz.results140 (AT rfl)) sN ⟨rfl,rfl⟩
   ·refine A0 (AO (AQ (An (wm rfl (ck hw λhy hz=>wv (Bt rfl rfl hy) (wa rfl (Am ?_)))))));have h0:=Be hz hg;exact A5 (AE (ho,(hi,hf+1),()) ⟨h0,Ur _⟩ (AF.c5 rfl rfl rfl rfl rfl AF.nil) sN)
  ·refine Bu (A4 ?_);have h1:=BY hr hg hh;exact A4 (Bb (AE (hb,()) h1 (AF.c rfl (AF.c rfl AF.nil)) sN))
 ·rintro⟨hj,⟨⟩⟩ he;refine C7 (l':=[(1,Aq hj),(6,Aq 0)]) (H':=[]) rfl rfl ?_;replace he:Dh hj=some r:=he;unfold Dh at he;refine Ba (AQ (Al (wm rfl (wa rfl (Aw (Az ?_))))));obtain rfl:=A2 he;exact Ay (Bw Tryz.results140 (AT rfl)) sN ⟨rfl,rfl⟩
theorem O4 (F:Nat)(hg:(List Ac)→Int→Option (Int))(hp:(∀(v:(List Ac)) (i:Int) (r:Int),hg v i=some r→Fn Tryz.prog GE 124 [AY 4 (AD Ad v),Aq i] [] (λR H=>R=Aq r∧H=[])))(v:(List Ac))(i:Int)(n:Int)(r:Int)(h:Je F hg v i n=some r):Fn Tryz.prog GE 141 [AY 4 (AD Ad v),Aq i,Aq n] [] (λR H=>R=Aq r∧H=[]):=by
 refine enter (n:=51) Tryz.func141 rfl Tryz.ntmps141 rfl (λw Z=>?_);unfold Je at h;refine Al (wa rfl (BW (wv (r:=rS ([]:Ak)) (AK rfl) (Aw (At (Al (wa rfl (Aw (AJ (ob h λhq hr hl=>Bs (S:=Nat×(Int×Ak×Int)×(Unit)) (V:=(Int)×(Unit)) 0 (λσ=>Cu (λσ=>Cz F v n hg σ.1 σ.2.1 σ.2.2) σ.1 σ.2.1=some hq) (λσ=>[(0,AY 4 (AD Ad v)),(1,Aq σ.2.1.1),(2,Aq n),(7,rS σ.2.1.2.1),(8,Aq σ.2.1.2.2)]) (λσ=>[]) (λσ=>σ.1) (F,(i,([]:Ak),0),()) hr (AF.c5 rfl rfl rfl rfl rfl AF.nil) sN (λσ=>Ep σ.1=some r) (λσ=>[(1,Aq σ.1)]) (λσ=>[]) ?_ ?_))))))))))
 ·rintro⟨hL,⟨he,hh,hf⟩,⟨⟩⟩ hs;refine Ca (l':=[(0,AY 4 (AD Ad v)),(1,Aq he),(2,Aq n),(7,rS hh),(8,Aq hf)]) (H':=[]) rfl rfl ?_;obtain⟨ht,rfl,hu,hi,hj⟩:=CJ hs;replace hi:Cz F v n hg he hh hf=some hu:=hi;unfold Cz at hi;refine At (Al (wm rfl (wm rfl (wv (C0 rfl rfl) (Aw (cz hi rfl (λhw hx=>?_) (λhw hy=>?_)))))))
  ·refine A0 (AQ (At (AJ (At (ck hx λhm hz=>ck hz λh0 h1=>AA [(0,AY 4 (AD Ad v)),(1,Aq he),(2,Aq n),(8,Aq hf),(38,rB ((decide ((v.length:Int)≤he))||((!(ov (Ko F (Aj v he))))||((decide (0<hf))&&(Bz ((Aj v he).fStr) hh||decide (((Aj v he).fStr)=hh))))))] [] ?_ ?_)))))
   ·refine An (wm rfl (wm rfl (wv (B1 (ys:=v) (enc:=Ad) CR rfl) (wv (G4 rfl rfl) (wm rfl (AH (decide ((v.length:Int)≤he)) (λha=>?_) (λha=>?_)))))))
    ·refine wf ha (wf ha (wf ha (wf ha (wf ha (wf ha (wv (r:=rB true) (Ao rfl ha rfl) (wm rfl (wz rfl rfl (wz rfl rfl (wz rfl rfl (wu (wu (wu (wu (wu (wu (wu (wz rfl rfl (wv (r:=rB true) (Ao (b:=true) rfl rfl rfl) (Am ?_))))))))))))))))))));exact BA ha
    ·refine wo ha (wm rfl (wo ha (wm rfl (wo ha (wv (BN (enc:=Ad) (ys:=v) CR Dr rfl rfl (D8 hm ha)) (wo ha (wv (BX Km Dr rfl rfl rfl) (wo ha (CS Tryz.call139 (PZ F (Aj v he) (ov (Ko F (Aj v he))) (E0 (D8 h0 ha))) rfl (wo ha (wv (BD rfl) (DT rfl ha rfl (wm rfl (AH (!(ov (Ko F (Aj v he)))) (λhd=>?_) (λhd=>?_)))))))))))))))
     ·refine wf hd (wf hd (wf hd (wu (wu (wu (wu (wu (wu (wu (wf hd (wv (r:=rB true) (Ao rfl hd rfl) (Am ?_))))))))))));exact BA (And.intro ha hd)
     ·refine wo hd (wm rfl (wo hd (wv (Dl rfl rfl) (wo hd (wm rfl (AH (decide (0<hf)) (λhb=>?_) (λhb=>?_)))))))
      ·refine wo hb (wm rfl (wo hb (wm rfl (wo hb (wv (BN (enc:=Ad) (ys:=v) CR Dr rfl rfl (D8 hm ha)) (wo hb (wv (Br Bh rfl D5 rfl rfl) (wo hb (wv (C1 DF rfl rfl) (wo hb (wm rfl (wo hb (wv (Qm rfl rfl) (wo hd (Eu rfl hb rfl (DT rfl hd rfl (Am ?_)))))))))))))))));exact BA (And.intro ha (And.intro hd hb))
      ·refine wf hb (wf hb (wf hb (wf hb (wf hb (wf hb (wf hb (wo hd (wv (r:=rB false) (A1 rfl hb rfl) (DT rfl hd rfl (Am ?_))))))))));exact BA (And.intro ha (And.intro hd hb))
   refine cz h1 rfl (λh2 h3=>?_) (λh2 h4=>?_)
   ·refine Al (wv (r:=Aq (-1)) (AK rfl) (Aw (Az (Af (A9 (Af (Af (Bi ?_))))))));have h5:=BC h3 hj hl;refine A9 (Af ?_);obtain rfl:=A2 h5;exact Ay (Bw Tryz.results141 (AT rfl)) sN ⟨rfl,rfl⟩
   ·refine A0 (AQ (Al (wm rfl (wm rfl (ck h4 λh6 h7=>wv (BN (enc:=Ad) (ys:=v) CR Dr rfl rfl h6) (wv (Br Bh rfl D5 rfl rfl) (wv (C1 DF rfl rfl) (wa rfl (BW (wm rfl (wm rfl (ck h7 λh8 h9=>wv (Bt rfl rfl h8) (ob h9 λhn hA hB=>CS G7 (hp v (he+1) hn hA) rfl (wa rfl (BW (wm rfl (wv (C0 rfl rfl) (Aw (cz hB rfl (λhC hD=>?_) (λhC hE=>?_))))))))))))))))))))
    ·refine Al (wv (r:=Aq (-1)) (AK rfl) (Aw (Az (A9 (Af (Af (Bi ?_)))))));have hG:=BC hD hj hl;refine A9 (Af ?_);obtain rfl:=A2 hG;exact Ay (Bw Tryz.results141 (AT rfl)) sN ⟨rfl,rfl⟩
    ·refine A0 (AO (AQ (An (wm rfl (ck hE λhH hI=>wv (Bt rfl rfl hH) (wa rfl (Am ?_)))))));have hJ:=Be hI hj;exact A5 (AE (ht,(hn,(Aj v he).fStr,hf+1),()) ⟨hJ,Ur _⟩ (AF.c5 rfl rfl rfl rfl rfl AF.nil) sN)
  ·refine Bu (A4 ?_);have hK:=BY hy hj hl;exact A4 (Bb (AE (he,()) hK (AF.c rfl AF.nil) sN))
 ·rintro⟨ho,⟨⟩⟩ hk;refine C7 (l':=[(1,Aq ho)]) (H':=[]) rfl rfl ?_;replace hk:Ep ho=some r:=hk;unfold Ep at hk;refine Ba (AQ (Al (wm rfl (wa rfl (Aw (Az ?_))))));obtain rfl:=A2 hk;exact Ay (Bw Tryz.results141 (AT rfl)) sN ⟨rfl,rfl⟩
theorem EP:∀F:Nat,(∀(v:(List Ac)) (i:Int) (r:Int),C8 F v i=some r→Fn Tryz.prog GE 124 [AY 4 (AD Ad v),Aq i] [] (λR H=>R=Aq r∧H=[]))∧(∀(v:(List Ac)) (i:Int) (n:Int) (r:Int),Eq F v i n=some r→Fn Tryz.prog GE 140 [AY 4 (AD Ad v),Aq i,Aq n] [] (λR H=>R=Aq r∧H=[]))∧(∀(v:(List Ac)) (i:Int) (n:Int) (r:Int),Ix F v i n=some r→Fn Tryz.prog GE 141 [AY 4 (AD Ad v),Aq i,Aq n] [] (λR H=>R=Aq r∧H=[]))
  | 0=>⟨(λ_ _ _ h=>by simp[C8] at h),(λ_ _ _ _ h=>by simp[Eq] at h),(λ_ _ _ _ h=>by simp[Ix] at h)⟩
  | nn+1=>⟨(λv i r h=>PX nn (Eq nn) (Ix nn) (EP nn).2.1 (EP nn).2.2 v i r (by rw[C8] at h;exact h)),(λv i n r h=>Lk nn (C8 nn) (EP nn).1 v i n r (by rw[Eq] at h;exact h)),(λv i n r h=>O4 nn (C8 nn) (EP nn).1 v i n r (by rw[Ix] at h;exact h))⟩
theorem Eg (F:Nat)(v:(List Ac))(i:Int)(r:Int)(h:C8 F v i=some r):Fn Tryz.prog GE 124 [AY 4 (AD Ad v),Aq i] [] (λR H=>R=Aq r∧H=[]):=(EP F).1 v i r h
theorem O8 (F:Nat)(v:(List Ac))(r:Bool)(h:HY F v=some r):Fn Tryz.prog GE 103 [AY 4 (AD Ad v)] [] (λR H=>R=rB r∧H=[]):=by
 refine enter (n:=13) Tryz.func103 rfl Tryz.ntmps103 rfl (λw Z=>?_);unfold HY at h;refine Al (wa rfl (Aw (ck h λg1 h2=>AA [(2,rB ((decide (0<(v.length:Int)))&&(decide ((ov (C8 F v 0))=(v.length:Int)))))] [] ?_ ?_)))
 ·refine An (wm rfl (wv (B1 (ys:=v) (enc:=Ad) CR rfl) (wv (Dl rfl rfl) (wm rfl (AH (decide (0<(v.length:Int))) (λc3=>?_) (λc3=>?_))))))
  ·refine wo c3 (wm rfl (wo c3 (CS G7 (Eg F v 0 (ov (C8 F v 0)) (E0 (CA g1 c3))) rfl (wo c3 (wm rfl (wo c3 (wv (B1 (ys:=v) (enc:=Ad) CR rfl) (wo c3 (wv (Bj rfl rfl) (Eu rfl c3 rfl (wa rfl (Am ?_))))))))))));exact BA c3
  ·refine wf c3 (wf c3 (wf c3 (wf c3 (wf c3 (wv (r:=rB false) (A1 rfl c3 rfl) (wa rfl (Am ?_)))))));exact BA c3
 refine Az ?_;obtain rfl:=A2 h2;exact Ay (Bw Tryz.results103 (AT rfl)) sN ⟨rfl,rfl⟩
theorem Ng (F:Nat)(hf:(List Ac)→Int→Option (Int))(hj:(∀(v:(List Ac)) (i:Int) (r:Int),hf v i=some r→Fn Tryz.prog GE 104 [AY 4 (AD Ad v),Aq i] [] (λR H=>R=Aq r∧H=[])))(v:(List Ac))(i:Int)(r:Int)(h:EQ F hf v i=some r):Fn Tryz.prog GE 104 [AY 4 (AD Ad v),Aq i] [] (λR H=>R=Aq r∧H=[]):=by
 refine enter (n:=47) Tryz.func104 rfl Tryz.ntmps104 rfl (λw Z=>?_);unfold EQ at h;refine Al (wa rfl (BW (wm rfl (wm rfl (ck h λg1 h2=>wv (BN (enc:=Ad) (ys:=v) CR Dr rfl rfl g1) (wv (BX Km Dr rfl rfl rfl) (CO (cs:=[Aq 0,Aq 0,rS ([]:Ak),Aq 0]) Oi rfl rfl (λb3=>?_))))))));refine BJ (i:=0) Dr rfl rfl rfl (BV.c rfl) rfl rfl (cs':=[Aq ((Aj v i).fKind),Aq ((Aj v i).fInt),rS ((Aj v i).fStr),Aq ((Aj v i).fN)]) rfl (H':=[.blk b3 (Ad (Aj v i)) 89]) rfl (Aw (At (AA [(0,AY 4 (AD Ad v)),(1,Aq i),(5,rP b3 0),(21,rB ((!decide (((Aj v i).fKind)=5))&&(!decide (((Aj v i).fKind)=6))))] [.blk b3 (Ad (Aj v i)) 89] ?_ ?_)))
 ·refine An (vF Bh rfl DH (vL 0 DI rfl (wv (Eb rfl rfl) (wm rfl (AH (!decide (((Aj v i).fKind)=5)) (λc4=>?_) (λc4=>?_))))))
  ·refine wo c4 (vF Bh rfl DH (wo c4 (vL 0 DI rfl (wo c4 (wv (Eb rfl rfl) (Eu rfl c4 rfl (Am ?_)))))));exact BA c4
  ·refine wf c4 (wf c4 (wf c4 (wv (r:=rB false) (A1 rfl c4 rfl) (Am ?_))));exact BA c4
 refine cz h2 rfl (λc5 h6=>?_) (λc5 h7=>?_)
 ·refine Al (wa rfl (Aw (Az (Af ?_))));obtain rfl:=A2 h6;exact Ay (Bw Tryz.results104 (AT rfl)) (sS sN) ⟨rfl,rfl⟩
 ·refine A0 (AQ (Al (wa rfl (BW (wm rfl (ck h7 λg8 h9=>wv (Bt rfl rfl g8) (wa rfl (Aw (At (Al (wa rfl (Aw (AJ (ob h9 λhr hs ht=>Bs (S:=Nat×(Int×Int×Int)×(Unit)) (V:=(Int)×(Unit)) 0 (λσ=>Cu (λσ=>BZ F v i hf σ.1 σ.2.1 σ.2.2) σ.1 σ.2.1=some hr) (λσ=>[(0,AY 4 (AD Ad v)),(5,rP b3 0),(6,Aq σ.2.1.1),(7,Aq σ.2.1.2.1),(8,Aq σ.2.1.2.2)]) (λσ=>[.blk b3 (Ad (Aj v i)) 89]) (λσ=>σ.1) (F,(0,i+1,0),()) hs (AF.c5 rfl rfl rfl rfl rfl AF.nil) (sC sN) (λσ=>Da σ.1=some r) (λσ=>[(6,Aq σ.1)]) (λσ=>[]) ?_ ?_))))))))))))))
  ·rintro⟨gi,⟨hd,ha,hb⟩,⟨⟩⟩ hu;refine Ca (l':=[(0,AY 4 (AD Ad v)),(5,rP b3 0),(6,Aq hd),(7,Aq ha),(8,Aq hb)]) (H':=[.blk b3 (Ad (Aj v i)) 89]) rfl rfl ?_;obtain⟨hg,rfl,hw,hh,he⟩:=CJ hu;replace hh:BZ F v i hf hd ha hb=some hw:=hh;unfold BZ at hh;refine At (Al (wm rfl (vF Bh rfl Cv (vL 0 CC rfl (wv (C0 rfl rfl) (Aw (cz hh rfl (λhx hy=>?_) (λhx hz=>?_))))))))
   ·refine A0 (AQ (At (AJ (At (Al (vF Bh rfl DH (vL 0 DI rfl (wv (Bj rfl rfl) (Aw (cz hy rfl (λh0 h1=>?_) (λh0 h3=>?_)))))))))))
    ·refine An (wm rfl (ck h1 λh4 h5=>wv (Bt rfl rfl h4) (wa rfl (BW (wm rfl (wm rfl (ob h5 λhk h8 hA=>CS Tryz.call104 (hj v (ha+1) hk h8) rfl (wa rfl (Aw (At (Al (wm rfl (wm rfl (wv (Dl rfl rfl) (Aw (cz hA rfl (λhB hC=>?_) (λhB hD=>?_)))))))))))))))))
     ·refine An (wm rfl (wa rfl (Aw (An (wm rfl (wm rfl (ob hC λhl hE hG=>CS G7 (Eg F v (ha+1) hl hE) rfl (wa rfl (Am (AO (AQ (An (wm rfl (ck hG λhH hI=>wv (Bt rfl rfl hH) (wa rfl (Am ?_))))))))))))))));have hJ:=Be hI he;exact A5 (AE (hg,(hk,hl,hb+1),()) ⟨hJ,Ur _⟩ (AF.c5 rfl rfl rfl rfl rfl AF.nil) (sC sN))
     ·refine A0 (AQ (An (wm rfl (wm rfl (ob hD λhm hK hL=>CS G7 (Eg F v (ha+1) hm hK) rfl (wa rfl (Am (AO (AQ (An (wm rfl (ck hL λhN hO=>wv (Bt rfl rfl hN) (wa rfl (Am ?_))))))))))))));have hP:=Be hO he;exact A5 (AE (hg,(hd,hm,hb+1),()) ⟨hP,Ur _⟩ (AF.c5 rfl rfl rfl rfl rfl AF.nil) (sC sN))
    ·refine A0 (AQ (Al (wm rfl (wm rfl (ob h3 λhn hQ hR=>CS Tryz.call104 (hj v ha hn hQ) rfl (wa rfl (Aw (At (Al (wm rfl (wm rfl (wv (Dl rfl rfl) (Aw (cz hR rfl (λhS hT=>?_) (λhS hU=>?_)))))))))))))))
     ·refine An (wm rfl (wa rfl (Aw (An (wm rfl (wm rfl (ob hT λho hV hW=>CS G7 (Eg F v ha ho hV) rfl (wa rfl (Am (AO (AQ (An (wm rfl (ck hW λhX hY=>wv (Bt rfl rfl hX) (wa rfl (Am ?_))))))))))))))));have hZ:=Be hY he;exact A5 (AE (hg,(hn,ho,hb+1),()) ⟨hZ,Ur _⟩ (AF.c5 rfl rfl rfl rfl rfl AF.nil) (sC sN))
     ·refine A0 (AQ (An (wm rfl (wm rfl (ob hU λhp ga gb=>CS G7 (Eg F v ha hp ga) rfl (wa rfl (Am (AO (AQ (An (wm rfl (ck gb λgc gd=>wv (Bt rfl rfl gc) (wa rfl (Am ?_))))))))))))));have ge:=Be gd he;exact A5 (AE (hg,(hd,hp,hb+1),()) ⟨ge,Ur _⟩ (AF.c5 rfl rfl rfl rfl rfl AF.nil) (sC sN))
   ·refine Bu (A4 ?_);have gf:=BY hz he ht;exact A4 (Bb (AE (hd,()) gf (AF.c rfl AF.nil) (sS sN)))
  ·rintro⟨hq,⟨⟩⟩ hi;refine C7 (l':=[(6,Aq hq)]) (H':=[]) rfl rfl ?_;replace hi:Da hq=some r:=hi;unfold Da at hi;refine Ba (AQ (Al (wm rfl (ck hi λgg gh=>wv (Bt rfl rfl gg) (wa rfl (Aw (Az ?_)))))));obtain rfl:=A2 gh;exact Ay (Bw Tryz.results104 (AT rfl)) sN ⟨rfl,rfl⟩
theorem IJ:∀F:Nat,(∀(v:(List Ac)) (i:Int) (r:Int),Cj F v i=some r→Fn Tryz.prog GE 104 [AY 4 (AD Ad v),Aq i] [] (λR H=>R=Aq r∧H=[]))
  | 0=>(λ_ _ _ h=>by simp[Cj] at h)
  | nn+1=>(λv i r h=>Ng nn (Cj nn) (IJ nn) v i r (by rw[Cj] at h;exact h))
theorem O7 (F:Nat)(v:(List Ac))(i:Int)(r:Int)(h:Cj F v i=some r):Fn Tryz.prog GE 104 [AY 4 (AD Ad v),Aq i] [] (λR H=>R=Aq r∧H=[]):=(IJ F) v i r h
theorem Iw (F:Nat)(s:Ak)(r:Ak)(h:Gi F s=some r):Fn Tryz.prog GE 125 [rS s] [] (λR H=>R=rS r∧H=[]):=by
 refine enter (n:=32) Tryz.func125 rfl Tryz.ntmps125 rfl (λw Z=>?_);unfold Gi at h;refine Al (wv (r:=rS ([]:Ak)) (AK rfl) (BW (wv (r:=rS ([34]:Ak)) (AK rfl) (Aw (At (Al (wa rfl (Aw (AJ (ob h λhm hn ho=>Bs (S:=Nat×(Ak×Int)×(Unit)) (V:=(Ak)×(Unit)) 0 (λσ=>Cu (λσ=>Cg s σ.1 σ.2) σ.1 σ.2.1=some hm) (λσ=>[(0,rS s),(3,rS σ.2.1.1),(4,Aq σ.2.1.2)]) (λσ=>[]) (λσ=>σ.1) (F,(([34]:Ak),0),()) hn (AF.c rfl (AF.c rfl (AF.c rfl AF.nil))) sN (λσ=>CD σ.1=some r) (λσ=>[(3,rS σ.1)]) (λσ=>[]) ?_ ?_))))))))))
 ·rintro⟨hL,⟨hd,ha⟩,⟨⟩⟩ hp;refine Ca (l':=[(0,rS s),(3,rS hd),(4,Aq ha)]) (H':=[]) rfl rfl ?_;obtain⟨hh,rfl,hq,he,hg⟩:=CJ hp;replace he:Cg s hd ha=some hq:=he;unfold Cg at he;refine At (Al (wm rfl (wm rfl (wv (B8 Es rfl) (wv (C0 rfl rfl) (Aw (cz he rfl (λhr hs=>?_) (λhr ht=>?_))))))))
  ·refine A0 (AQ (At (AJ (At (ck hs λhi hu=>AA [(0,rS s),(3,rS hd),(4,Aq ha),(20,rB ((decide ((DC s ha)=34))||(decide ((DC s ha)=92))))] [] ?_ ?_)))))
   ·refine An (wm rfl (wm rfl (wv (Cf Es rfl rfl hi) (wv (Bj rfl rfl) (wm rfl (AH (decide ((DC s ha)=34)) (λhb=>?_) (λhb=>?_)))))))
    ·refine wf hb (wf hb (wf hb (wf hb (wv (r:=rB true) (Ao rfl hb rfl) (Am ?_)))));exact BA hb
    ·refine wo hb (wm rfl (wo hb (wm rfl (wo hb (wv (Cf Es rfl rfl hi) (wo hb (wv (Bj rfl rfl) (DT rfl hb rfl (Am ?_)))))))));exact BA hb
   refine cz hu rfl (λhw hx=>?_) (λhw hy=>?_)
   ·refine An (wm rfl (ck hx λhz h0=>wv (CM rfl rfl hz) (wa rfl (Aw (An (wm rfl (wm rfl (wm rfl (wm rfl (ck h0 λhj h1=>wv (Bt rfl rfl hj) (ck h1 λh2 h3=>ck h3 λh4 h5=>wv (H6 Es rfl rfl rfl h2 h4) (ck h5 λh6 h7=>wv (CM rfl rfl h6) (wa rfl (Am (AO (AQ (An (wm rfl ?_))))))))))))))))));refine wv (Bt rfl rfl hj) (wa rfl (Am ?_));have h8:=Be h7 hg;exact A5 (AE (hh,((hd++([92]:Ak))++(List.take (Ci (ha+1)-Ci ha) (List.drop (Ci ha) s)),ha+1),()) ⟨h8,Ur _⟩ (AF.c rfl (AF.c rfl (AF.c rfl AF.nil))) sN)
   ·refine A0 (AQ (An (wm rfl (wm rfl (wm rfl (wm rfl (ck hy λhk h9=>wv (Bt rfl rfl hk) (ck h9 λhA hB=>ck hB λhC hD=>wv (H6 Es rfl rfl rfl hA hC) (ck hD λhE hG=>wv (CM rfl rfl hE) (wa rfl (Am (AO (AQ (An (wm rfl (wv (Bt rfl rfl hk) (wa rfl (Am ?_))))))))))))))))));have hH:=Be hG hg;exact A5 (AE (hh,(hd++(List.take (Ci (ha+1)-Ci ha) (List.drop (Ci ha) s)),ha+1),()) ⟨hH,Ur _⟩ (AF.c rfl (AF.c rfl (AF.c rfl AF.nil))) sN)
  ·refine Bu (A4 ?_);have hI:=BY ht hg ho;exact A4 (Bb (AE (hd,()) hI (AF.c rfl AF.nil) sN))
 ·rintro⟨hl,⟨⟩⟩ hf;refine C7 (l':=[(3,rS hl)]) (H':=[]) rfl rfl ?_;replace hf:CD hl=some r:=hf;unfold CD at hf;refine Ba (AQ (Al (wm rfl (ck hf λhJ hK=>wv (CM rfl rfl hJ) (wa rfl (Aw (Az ?_)))))));obtain rfl:=A2 hK;exact Ay (Bw Tryz.results125 (AT rfl)) sN ⟨rfl,rfl⟩
theorem PQ (F:Nat)(hf:(List Ac)→Int→Option (Ak))(hg:(∀(v:(List Ac)) (i:Int) (r:Ak),hf v i=some r→Fn Tryz.prog GE 105 [AY 4 (AD Ad v),Aq i] [] (λR H=>R=rS r∧H=[])))(v:(List Ac))(i:Int)(r:Ak)(h:Iv F hf v i=some r):Fn Tryz.prog GE 105 [AY 4 (AD Ad v),Aq i] [] (λR H=>R=rS r∧H=[]):=by
 refine enter (n:=77) Tryz.func105 rfl Tryz.ntmps105 rfl (λw Z=>?_);unfold Iv at h;refine Al (wv (r:=rS ([]:Ak)) (AK rfl) (BW (wm rfl (wm rfl (ck h λg1 h2=>wv (BN (enc:=Ad) (ys:=v) CR Dr rfl rfl g1) (wv (BX Km Dr rfl rfl rfl) (CO (cs:=[Aq 0,Aq 0,rS ([]:Ak),Aq 0]) Oi rfl rfl (λb3=>?_))))))));refine BJ (i:=0) Dr rfl rfl rfl (BV.c rfl) rfl rfl (cs':=[Aq ((Aj v i).fKind),Aq ((Aj v i).fInt),rS ((Aj v i).fStr),Aq ((Aj v i).fN)]) rfl (H':=[.blk b3 (Ad (Aj v i)) 89]) rfl (Aw (At (Al (vF Bh rfl DH (vL 0 DI rfl (wv (Bj rfl rfl) (Aw (cz h2 rfl (λc4 h5=>?_) (λc4 h6=>?_)))))))))
 ·refine Al (wv (r:=rS ([110,117,108,108]:Ak)) (AK rfl) (Aw (Az (Af ?_))));obtain rfl:=A2 h5;exact Ay (Bw Ju (AT rfl)) (sS sN) ⟨rfl,rfl⟩
 ·refine A0 (AQ (At (Al (vF Bh rfl DH (vL 0 DI rfl (wv (Bj rfl rfl) (Aw (cz h6 rfl (λc7 h8=>?_) (λc7 hw=>?_)))))))))
  ·refine At (Al (vF Bh rfl Cv (vL 0 CC rfl (wv (Bj rfl rfl) (Aw (cz h8 rfl (λc9 hx=>?_) (λc9 hy=>?_)))))))
   ·refine Al (wv (r:=rS ([116,114,117,101]:Ak)) (AK rfl) (Aw (Az (Af (Af ?_)))));obtain rfl:=A2 hx;exact Ay (Bw Ju (AT rfl)) (sS sN) ⟨rfl,rfl⟩
   ·refine A0 (AQ (Al (wv (r:=rS ([102,97,108,115,101]:Ak)) (AK rfl) (Aw (Az (Af ?_))))));obtain rfl:=A2 hy;exact Ay (Bw Ju (AT rfl)) (sS sN) ⟨rfl,rfl⟩
  ·refine A0 (AQ (At (Al (vF Bh rfl DH (vL 0 DI rfl (wv (Bj rfl rfl) (Aw (cz hw rfl (λhz h0=>?_) (λhz h1=>?_)))))))))
   ·refine Al (vF Bh rfl Cv (vL 0 CC rfl (ck h0 λg15 h3=>E6 (rs:=[Aq ((Aj v i).fInt)]) (r:=rS (Lib.itoa ((Aj v i).fInt))) Tryz.call66 rfl (SF ((Aj v i).fInt) g15) rfl rfl (wa rfl (Aw (Az (Af ?_)))))));obtain rfl:=A2 h3;exact Ay (Bw Ju (AT rfl)) (sS sN) ⟨rfl,rfl⟩
   ·refine A0 (AQ (At (Al (vF Bh rfl DH (vL 0 DI rfl (wv (Bj rfl rfl) (Aw (cz h1 rfl (λh4 h7=>?_) (λh4 h9=>?_)))))))))
    ·refine Al (vF Bh rfl D5 (vL 0 DF rfl (ob h7 λhA hB hC=>CS Tryz.call125 (Iw F ((Aj v i).fStr) hA hB) rfl (wa rfl (Aw (Az (Af ?_)))))));obtain rfl:=A2 hC;exact Ay (Bw Ju (AT rfl)) (sS sN) ⟨rfl,rfl⟩
    ·refine A0 (AQ (Al (wv (r:=rS ([]:Ak)) (AK rfl) (BW (wm rfl (ck h9 λhD hE=>wv (Bt rfl rfl hD) (wa rfl (Aw (At (Al (wa rfl (Aw (AJ (ob hE λhG hH hI=>Bs (S:=Nat×(Ak×Int×Int)×(Unit)) (V:=(Ak)×(Unit)) 0 (λσ=>Cu (λσ=>CZ F v i hf σ.1 σ.2.1 σ.2.2) σ.1 σ.2.1=some hG) (λσ=>[(0,AY 4 (AD Ad v)),(4,rS ([]:Ak)),(5,rP b3 0),(6,rS σ.2.1.1),(7,Aq σ.2.1.2.1),(8,Aq σ.2.1.2.2)]) (λσ=>[.blk b3 (Ad (Aj v i)) 89]) (λσ=>σ.1) (F,(([]:Ak),i+1,0),()) hH (AF.c rfl (AF.c5 rfl rfl rfl rfl rfl AF.nil)) (sC sN) (λσ=>Ey v i σ.1=some r) (λσ=>[(4,rS ([]:Ak)),(5,rP b3 0),(6,rS σ.1)]) (λσ=>[.blk b3 (Ad (Aj v i)) 89]) ?_ ?_))))))))))))))
     ·rintro⟨cj,⟨hb,ha,hd⟩,⟨⟩⟩ hJ;refine Ca (l':=[(0,AY 4 (AD Ad v)),(4,rS ([]:Ak)),(5,rP b3 0),(6,rS hb),(7,Aq ha),(8,Aq hd)]) (H':=[.blk b3 (Ad (Aj v i)) 89]) rfl rfl ?_;obtain⟨hh,rfl,hK,hi,he⟩:=CJ hJ;replace hi:CZ F v i hf hb ha hd=some hK:=hi;unfold CZ at hi;refine At (Al (wm rfl (vF Bh rfl Cv (vL 0 CC rfl (wv (C0 rfl rfl) (Aw (cz hi rfl (λhL hN=>?_) (λhL hO=>?_))))))))
      ·refine A0 (AQ (At (AJ (At (Al (wm rfl (wv (Dl rfl rfl) (Aw (cz hN rfl (λhP hQ=>?_) (λhP hR=>?_))))))))))
       ·refine An (wm rfl (ck hQ λhS hT=>wv (CM rfl rfl hS) (wa rfl (Aw (At (Al (vF Bh rfl DH (vL 0 DI rfl (wv (Bj rfl rfl) (Aw (cz hT rfl (λc233 hU=>?_) (λc233 hV=>?_))))))))))))
        ·refine Al (wm rfl (wm rfl (wm rfl (ck hU λhW hX=>wv (BN (enc:=Ad) (ys:=v) CR Dr rfl rfl hW) (wv (Br Bh rfl D5 rfl rfl) (wv (C1 DF rfl rfl) (ob hX λhk hY hZ=>CS Tryz.call125 (Iw F ((Aj v ha).fStr) hk hY) rfl (ck hZ λga gb=>wv (CM rfl rfl ga) (ck gb λgc gd=>wv (CM rfl rfl gc) (wa rfl (Aw (An (wm rfl (ck gd λge gf=>wv (Bt rfl rfl ge) (wa rfl (BW (wm rfl (wm rfl ?_))))))))))))))))));refine wm rfl (ob gf λhl gg gh=>CS LI (hg v (ha+1) hl gg) rfl (ck gh λgi gj=>wv (CM rfl rfl gi) (wa rfl (Aw (An (wm rfl (wm rfl (ob gj λhm gl gm=>CS G7 (Eg F v (ha+1) hm gl) rfl (wa rfl (Am (AO (AQ (An (wm rfl (ck gm λgp gq=>wv (Bt rfl rfl gp) (wa rfl (Am ?_)))))))))))))))));have gr:=Be gq he;exact A5 (AE (hh,((((hb++([44]:Ak))++hk)++([58]:Ak))++hl,hm,hd+1),()) ⟨gr,Ur _⟩ (AF.c rfl (AF.c5 rfl rfl rfl rfl rfl AF.nil)) (sC sN))
        ·refine A0 (AQ (Al (wm rfl (wm rfl (wm rfl (ob hV λhn gs gt=>CS LI (hg v ha hn gs) rfl (ck gt λgu gv=>wv (CM rfl rfl gu) (wa rfl (Aw (An (wm rfl (wm rfl (ob gv λho gw gx=>CS G7 (Eg F v ha ho gw) rfl (wa rfl (Am (AO (AQ (An (wm rfl (ck gx λgy gz=>?_))))))))))))))))))));refine wv (Bt rfl rfl gy) (wa rfl (Am ?_));have g0:=Be gz he;exact A5 (AE (hh,((hb++([44]:Ak))++hn,ho,hd+1),()) ⟨g0,Ur _⟩ (AF.c rfl (AF.c5 rfl rfl rfl rfl rfl AF.nil)) (sC sN))
       ·refine A0 (AQ (At (Al (vF Bh rfl DH (vL 0 DI rfl (wv (Bj rfl rfl) (Aw (cz hR rfl (λg2 g3=>?_) (λg2 g4=>?_)))))))))
        ·refine Al (wm rfl (wm rfl (wm rfl (ck g3 λg5 g6=>wv (BN (enc:=Ad) (ys:=v) CR Dr rfl rfl g5) (wv (Br Bh rfl D5 rfl rfl) (wv (C1 DF rfl rfl) (ob g6 λhp g7 g8=>CS Tryz.call125 (Iw F ((Aj v ha).fStr) hp g7) rfl (ck g8 λg9 gA=>wv (CM rfl rfl g9) (ck gA λgB gC=>wv (CM rfl rfl gB) (wa rfl (Aw (An (wm rfl (ck gC λgD gE=>wv (Bt rfl rfl gD) (wa rfl (BW (wm rfl (wm rfl ?_))))))))))))))))));refine wm rfl (ob gE λhq gF gG=>CS LI (hg v (ha+1) hq gF) rfl (ck gG λgH gI=>wv (CM rfl rfl gH) (wa rfl (Aw (An (wm rfl (wm rfl (ob gI λhr gJ gK=>CS G7 (Eg F v (ha+1) hr gJ) rfl (wa rfl (Am (AO (AQ (An (wm rfl (ck gK λgL gM=>wv (Bt rfl rfl gL) (wa rfl (Am ?_)))))))))))))))));have gN:=Be gM he;exact A5 (AE (hh,(((hb++hp)++([58]:Ak))++hq,hr,hd+1),()) ⟨gN,Ur _⟩ (AF.c rfl (AF.c5 rfl rfl rfl rfl rfl AF.nil)) (sC sN))
        ·refine A0 (AQ (Al (wm rfl (wm rfl (wm rfl (ob g4 λhs gO gP=>CS LI (hg v ha hs gO) rfl (ck gP λgQ gR=>wv (CM rfl rfl gQ) (wa rfl (Aw (An (wm rfl (wm rfl (ob gR λht gS gT=>CS G7 (Eg F v ha ht gS) rfl (wa rfl (Am (AO (AQ (An (wm rfl (ck gT λgU gV=>?_))))))))))))))))))));refine wv (Bt rfl rfl gU) (wa rfl (Am ?_));have gW:=Be gV he;exact A5 (AE (hh,(hb++hs,ht,hd+1),()) ⟨gW,Ur _⟩ (AF.c rfl (AF.c5 rfl rfl rfl rfl rfl AF.nil)) (sC sN))
      ·refine Bu (A4 ?_);have gX:=BY hO he hI;exact A4 (Bb (AE (hb,()) gX (AF.c rfl (AF.c rfl (AF.c rfl AF.nil))) (sC sN)))
     ·rintro⟨hu,⟨⟩⟩ hj;refine C7 (l':=[(4,rS ([]:Ak)),(5,rP b3 0),(6,rS hu)]) (H':=[.blk b3 (Ad (Aj v i)) 89]) rfl rfl ?_;replace hj:Ey v i hu=some r:=hj;unfold Ey at hj;refine Ba (AQ (At (Al (vF Bh rfl DH (vL 0 DI rfl (wv (Bj rfl rfl) (Aw (cz hj rfl (λgY gZ=>?_) (λgY ca=>?_)))))))))
      ·refine Al (wm rfl (ck gZ λcb cc=>wv (CM rfl rfl cb) (ck cc λcd ce=>wv (CM rfl rfl cd) (wa rfl (Aw (Az (Af ?_)))))));obtain rfl:=A2 ce;exact Ay (Bw Ju (AT rfl)) (sS sN) ⟨rfl,rfl⟩
      ·refine A0 (AQ (Al (wm rfl (ck ca λcf cg=>wv (CM rfl rfl cf) (ck cg λch ci=>wv (CM rfl rfl ch) (wa rfl (Aw (Az ?_))))))));obtain rfl:=A2 ci;exact Ay (Bw Ju (AT rfl)) (sS sN) ⟨rfl,rfl⟩
theorem K3:∀F:Nat,(∀(v:(List Ac)) (i:Int) (r:Ak),Ee F v i=some r→Fn Tryz.prog GE 105 [AY 4 (AD Ad v),Aq i] [] (λR H=>R=rS r∧H=[]))
  | 0=>(λ_ _ _ h=>by simp[Ee] at h)
  | nn+1=>(λv i r h=>PQ nn (Ee nn) (K3 nn) v i r (by rw[Ee] at h;exact h))
theorem Rt (F:Nat)(v:(List Ac))(i:Int)(r:Ak)(h:Ee F v i=some r):Fn Tryz.prog GE 105 [AY 4 (AD Ad v),Aq i] [] (λR H=>R=rS r∧H=[]):=(K3 F) v i r h
theorem Qb (F:Nat)(v:(List Ac))(r:Int)(h:JH F v=some r):Fn Tryz.prog GE 74 [AY 4 (AD Ad v)] [] (λR H=>R=Aq r∧H=[]):=by
 refine enter (n:=61) Tryz.func74 rfl Tryz.ntmps74 rfl (λw Z=>?_);unfold JH at h;refine Al (wa rfl (Aw (At (Al (wm rfl (ob h λr1 e3 h2=>CS Tryz.call103 (O8 F v r1 e3) rfl (wv (BD rfl) (Aw (cz h2 rfl (λc4 h5=>?_) (λc4 h6=>?_))))))))))
 ·refine Al (wa rfl (Aw (Az (Af ?_))));obtain rfl:=A2 h5;exact Ay (Bw Ol (AT rfl)) sN ⟨rfl,rfl⟩
 ·refine A0 (AQ (At (Al (wa rfl (Aw (AJ (ob h6 λhp hq hn=>Bs (S:=Nat×(Int)×(Unit)) (V:=(Unit)×(Unit)) 0 (λσ=>Cu (λσ=>Dj v σ) σ.1 σ.2.1=some hp) (λσ=>[(0,AY 4 (AD Ad v)),(3,Aq σ.2.1)]) (λσ=>[]) (λσ=>σ.1) (F,0,()) hq (AF.c rfl (AF.c rfl AF.nil)) sN (λσ=>ES F v =some r) (λσ=>[(0,AY 4 (AD Ad v))]) (λσ=>[]) ?_ ?_)))))))
  ·rintro⟨ge,he,⟨⟩⟩ hr;refine Ca (l':=[(0,AY 4 (AD Ad v)),(3,Aq he)]) (H':=[]) rfl rfl ?_;obtain⟨hs,rfl,t46,hf,hj⟩:=CJ hr;replace hf:Dj v he=some t46:=hf;unfold Dj at hf;refine At (Al (wm rfl (wm rfl (wv (B1 (ys:=v) (enc:=Ad) CR rfl) (wv (C0 rfl rfl) (Aw (cz hf rfl (λht hu=>?_) (λht hw=>?_))))))))
   ·refine A0 (AQ (At (AJ (ck hu λhk hx=>AA [(0,AY 4 (AD Ad v)),(3,Aq he),(35,rB ((decide (((Aj v he).fKind)=3))&&((decide (((Aj v he).fInt)<(-1000000000000)))||(decide (1000000000000<((Aj v he).fInt))))))] [] ?_ ?_))))
    ·refine An (wm rfl (wm rfl (wv (BN (enc:=Ad) (ys:=v) CR Dr rfl rfl hk) (wv (Br Bh rfl DH rfl rfl) (wv (C1 DI rfl rfl) (wv (Bj rfl rfl) (wm rfl (AH (decide (((Aj v he).fKind)=3)) (λha=>?_) (λha=>?_)))))))))
     ·refine wo ha (wm rfl (wo ha (wm rfl (wo ha (wv (BN (enc:=Ad) (ys:=v) CR Dr rfl rfl hk) (wo ha (wv (Br Bh rfl Cv rfl rfl) (wo ha (wv (C1 CC rfl rfl) (wo ha (wv (C0 rfl rfl) (wo ha (wm rfl (AH (decide (((Aj v he).fInt)<(-1000000000000))) (λhb=>?_) (λhb=>?_)))))))))))))))
      ·refine wf hb (wf hb (wf hb (wf hb (wf hb (wf hb (wo ha (wv (r:=rB true) (Ao rfl hb rfl) (Eu rfl ha rfl (Am ?_)))))))));exact BA (And.intro ha hb)
      ·refine wo hb (wm rfl (wo hb (wm rfl (wo hb (wv (BN (enc:=Ad) (ys:=v) CR Dr rfl rfl hk) (wo hb (wv (Br Bh rfl Cv rfl rfl) (wo hb (wv (C1 CC rfl rfl) (wo hb (wv (Dl rfl rfl) (wo ha (DT rfl hb rfl (Eu rfl ha rfl (Am ?_)))))))))))))));exact BA (And.intro ha hb)
     ·refine wf ha (wf ha (wf ha (wf ha (wf ha (wf ha (wf ha (wu (wu (wu (wu (wu (wu (wf ha (wv (r:=rB false) (A1 rfl ha rfl) (Am ?_)))))))))))))));exact BA ha
    refine cz hx rfl (λhy hz=>?_) (λhy h0=>?_)
    ·refine Al (wa rfl (Aw (Az (A9 (Af (Af (Bi ?_)))))));have h1:=BC hz hj hn;refine A9 (Af ?_);obtain rfl:=A2 h1;exact Ay (Bw Ol (AT rfl)) sN ⟨rfl,rfl⟩
    ·refine A0 (AO (AQ (An (wm rfl (ck h0 λh3 h4=>wv (Bt rfl rfl h3) (wa rfl (Am ?_)))))));have h7:=Be h4 hj;exact A5 (AE (hs,he+1,()) ⟨h7,Ur _⟩ (AF.c rfl (AF.c rfl AF.nil)) sN)
   ·refine Bu (A4 ?_);have h8:=BY hw hj hn;exact A4 (Bb (AE ((),()) h8 (AF.c rfl AF.nil) sN))
  ·rintro⟨⟨⟩,⟨⟩⟩ hg;refine C7 (l':=[(0,AY 4 (AD Ad v))]) (H':=[]) rfl rfl ?_;replace hg:ES F v =some r:=hg;unfold ES at hg;refine Ba (AQ (At (ck hg λh9 hA=>AA [(0,AY 4 (AD Ad v)),(43,rB ((decide (200<(v.length:Int)))||(decide (8<(ov (Cj F v 0))))))] [] ?_ ?_)))
   ·refine An (wm rfl (wv (B1 (ys:=v) (enc:=Ad) CR rfl) (wv (Dl rfl rfl) (wm rfl (AH (decide (200<(v.length:Int))) (λhd=>?_) (λhd=>?_))))))
    ·refine wf hd (wf hd (wf hd (wv (r:=rB true) (Ao rfl hd rfl) (Am ?_))));exact BA hd
    ·refine wo hd (wm rfl (wo hd (CS Tryz.call104 (O7 F v 0 (ov (Cj F v 0)) (E0 (D8 h9 hd))) rfl (wo hd (wv (Dl rfl rfl) (DT rfl hd rfl (Am ?_)))))));exact BA hd
   refine cz hA rfl (λhB hC=>?_) (λhB hD=>?_)
   ·refine Al (wa rfl (Aw (Az (Af ?_))));obtain rfl:=A2 hC;exact Ay (Bw Ol (AT rfl)) sN ⟨rfl,rfl⟩
   ·refine A0 (AQ (At (Al (wa rfl (Aw (AJ (ob hD λhE hG ho=>Bs (S:=Nat×(Int)×(Unit)) (V:=(Unit)×(Unit)) 2 (λσ=>Cu (λσ=>Di v σ) σ.1 σ.2.1=some hE) (λσ=>[(0,AY 4 (AD Ad v)),(4,Aq σ.2.1)]) (λσ=>[]) (λσ=>σ.1) (F,0,()) hG (AF.c rfl (AF.c rfl AF.nil)) sN (λσ=>ER F v =some r) (λσ=>[(0,AY 4 (AD Ad v))]) (λσ=>[]) ?_ ?_)))))))
    ·rintro⟨gf,hl,⟨⟩⟩ hH;refine Ca (l':=[(0,AY 4 (AD Ad v)),(4,Aq hl)]) (H':=[]) rfl rfl ?_;obtain⟨hI,rfl,hJ,hh,hm⟩:=CJ hH;replace hh:Di v hl=some hJ:=hh;unfold Di at hh;refine At (Al (wm rfl (wm rfl (wv (B1 (ys:=v) (enc:=Ad) CR rfl) (wv (C0 rfl rfl) (Aw (cz hh rfl (λhK hL=>?_) (λhK hN=>?_))))))))
     ·refine A0 (AQ (At (AJ (Al (wm rfl (wm rfl (ck hL λhO hP=>wv (BN (enc:=Ad) (ys:=v) CR Dr rfl rfl hO) (wv (Br Bh rfl D5 rfl rfl) (wv (C1 DF rfl rfl) (wv (B8 Es rfl) (wv (Dl rfl rfl) (Aw (cz hP rfl (λhQ hR=>?_) (λhQ hS=>?_))))))))))))))
      ·refine Al (wa rfl (Aw (Az (A9 (Af (Af (Bi ?_)))))));have hT:=BC hR hm ho;refine A9 (Af ?_);obtain rfl:=A2 hT;exact Ay (Bw Ol (AT rfl)) sN ⟨rfl,rfl⟩
      ·refine A0 (AO (AQ (An (wm rfl (ck hS λhU hV=>wv (Bt rfl rfl hU) (wa rfl (Am ?_)))))));have hW:=Be hV hm;exact A5 (AE (hI,hl+1,()) ⟨hW,Ur _⟩ (AF.c rfl (AF.c rfl AF.nil)) sN)
     ·refine Bu (A4 ?_);have hX:=BY hN hm ho;exact A4 (Bb (AE ((),()) hX (AF.c rfl AF.nil) sN))
    ·rintro⟨⟨⟩,⟨⟩⟩ hi;refine C7 (l':=[(0,AY 4 (AD Ad v))]) (H':=[]) rfl rfl ?_;replace hi:ER F v =some r:=hi;unfold ER at hi;refine Ba (AQ (At (Al (wm rfl (ob hi λhY hZ ga=>CS LI (Rt F v 0 hY hZ) rfl (wv (B8 Es rfl) (wv (Dl rfl rfl) (Aw (cz ga rfl (λgb gc=>?_) (λgb gd=>?_))))))))))
     ·refine Al (wa rfl (Aw (Az (Af ?_))));obtain rfl:=A2 gc;exact Ay (Bw Ol (AT rfl)) sN ⟨rfl,rfl⟩
     ·refine A0 (AQ (Al (wa rfl (Aw (Az ?_)))));obtain rfl:=A2 gd;exact Ay (Bw Ol (AT rfl)) sN ⟨rfl,rfl⟩
end Go.Proofs.YtmmbdclkpijkpaaGreatDoor.Q
namespace Go.Proofs.YtmmbdclkpijkpaaGreatDoor
open Go
set_option linter.unusedVariables false
structure Ax where
 fPairs:Bool
 fLeft:Int
 fKey:Bool
 fLast:Ak
 fStarted:Bool
 deriving DecidableEq,Inhabited
structure A6 where
 fDepth:Int
 fBytes:Int
 fOutside:Bool
 fLong:Bool
 deriving DecidableEq,Inhabited
def Bl (n:Int):Option (Bool):=
 some ((decide ((-1000000000000)≤n))&&(decide (n≤1000000000000)))
def EJ (s:Ak)(ha:Int):Option (Stp (Int) (Out (Bool) (Unit))):=
 Bm (decide (ha<(s.length:Int))) (Bk (D2 ha (s.length:Int))<|Bm (((decide ((DC s ha)<32))||(decide (126<(DC s ha))))) (some (.out (.ret false))) (Bk (BH .i64 (ha+1))<|some (.next (ha+1)))) (some (.out (.go ())))
def EI :Option (Bool):=
 some true
def HG (F:Nat)(s:Ak):Option (Bool):=
 B0 (Cu (λσ=>EJ s σ) F 0) (B9 λν=>EI )
def GM (s:Ak):Option (Int):=
 Bk (BH .i64 ((s.length:Int)+2))<|Bk (BH .i64 (((s.length:Int)+2)+(Lib.countByte s 34:Int)))<|Bk (BH .i64 ((((s.length:Int)+2)+(Lib.countByte s 34:Int))+(Lib.countByte s 92:Int)))<|some ((((s.length:Int)+2)+(Lib.countByte s 34:Int))+(Lib.countByte s 92:Int))
def Jy (F:Nat)(c:Ac):Option (Bool):=
 Bm (decide (c.fKind=1)) (some ((decide (c.fInt=0))&&((decide (c.fStr=([]:Ak)))&&(decide (c.fN=0))))) (Bm (decide (c.fKind=2)) (some (bif decide (c.fInt=0) then((decide (c.fStr=([]:Ak)))&&(decide (c.fN=0))) else((decide (c.fInt=1))&&((decide (c.fStr=([]:Ak)))&&(decide (c.fN=0)))))) (Bm (decide (c.fKind=3)) (some ((decide (c.fStr=([]:Ak)))&&(decide (c.fN=0)))) (Bm (decide (c.fKind=4)) (Bk (imp (decide (c.fInt=0)) (imp (decide (c.fN=0)) ((HG F c.fStr).isSome)))<|some ((decide (c.fInt=0))&&((decide (c.fN=0))&&(ov (HG F c.fStr))))) (Bm (decide (c.fKind=5)) (some ((decide (c.fInt=0))&&((decide (c.fStr=([]:Ak)))&&(decide (0≤c.fN))))) (Bm (decide (c.fKind=6)) (some ((decide (c.fInt=0))&&((decide (c.fStr=([]:Ak)))&&(decide (0≤c.fN))))) (some false))))))
def LO (c:Ac):Option (Int):=
 Bm (decide (c.fKind=1)) (some 4) (Bm (decide (c.fKind=2)) (some (IntKind.wrap .i64 (5-c.fInt))) (Bm (decide (c.fKind=3)) (Bk (BH .i64 c.fInt)<|some ((Lib.itoa c.fInt).length:Int)) (Bm (decide (c.fKind=4)) (B0 (GM c.fStr) λha=>some ha) (some (IntKind.wrap .i64 (2+(max 0 (IntKind.wrap .i64 (c.fN-1)))))))))
def CY (ha:(List Ax)):Option (Stp ((List Ax)) (Out ((List Ax)) ((List Ax)))):=
 Bm (decide (0<(ha.length:Int))) (Bk (BH .i64 ((ha.length:Int)-1))<|Bk (D2 ((ha.length:Int)-1) (ha.length:Int))<|Bk (BH .i64 (((Aj ha ((ha.length:Int)-1)).fLeft)-1))<|ML (List.set ha (Int.toNat ((ha.length:Int)-1)) (Ax.mk ((Aj ha ((ha.length:Int)-1)).fPairs) (((Aj ha ((ha.length:Int)-1)).fLeft)-1) ((Aj ha ((ha.length:Int)-1)).fKey) ((Aj ha ((ha.length:Int)-1)).fLast) ((Aj ha ((ha.length:Int)-1)).fStarted))) λhb=>Bm (decide (0<((Aj hb ((ha.length:Int)-1)).fLeft))) (ML (List.set hb (Int.toNat ((ha.length:Int)-1)) (Ax.mk ((Aj hb ((ha.length:Int)-1)).fPairs) ((Aj hb ((ha.length:Int)-1)).fLeft) ((Aj hb ((ha.length:Int)-1)).fPairs) ((Aj hb ((ha.length:Int)-1)).fLast) ((Aj hb ((ha.length:Int)-1)).fStarted))) λhd=>some (.out (.ret hd))) (Bk (BH .i64 ((hb.length:Int)-1))<|Bk (Ki ((hb.length:Int)-1) (hb.length:Int))<|some (.next (List.take (Int.toNat ((hb.length:Int)-1)) hb)))) (some (.out (.go ha)))
def Dx (ha:(List Ax)):Option ((List Ax)):=
 some ha
def HJ (F:Nat)(stack:(List Ax)):Option ((List Ax)):=
 B0 (Cu (λσ=>CY σ) F stack) (B9 λν=>Dx ν)
def Ds (ha:Int)(hb:(List Ax))(hd:A6):Option (Stp ((List Ax)×Int×A6) (Out (Int×A6×Bool) (A6))):=
 Bk (BH .i64 (ha+1))<|some (.next (hb,ha+1,hd))
def CX (F:Nat)(v:(List Ac))(ha:(List Ax))(hb:Int)(hd:A6):Option (Stp ((List Ax)×Int×A6) (Out (Int×A6×Bool) (A6))):=
 Bm (decide (hb<(v.length:Int))) (Bk (D2 hb (v.length:Int))<|B0 (Jy F (Aj v hb)) λhj=>Bm (!hj) (some (.out (.ret (0,hd,false)))) (Bk (imp (decide (0<(ha.length:Int))) (BH .i64 ((ha.length:Int)-1)))<|Bk (imp (decide (0<(ha.length:Int))) (D2 ((ha.length:Int)-1) (ha.length:Int)))<|Bm (((decide (0<(ha.length:Int)))&&((Aj ha ((ha.length:Int)-1)).fKey))) (Bk (BH .i64 ((ha.length:Int)-1))<|Bk (D2 ((ha.length:Int)-1) (ha.length:Int))<|Bm (((!decide (((Aj v hb).fKind)=4))||(((Aj ha ((ha.length:Int)-1)).fStarted)&&(Bz ((Aj v hb).fStr) ((Aj ha ((ha.length:Int)-1)).fLast)||decide (((Aj v hb).fStr)=((Aj ha ((ha.length:Int)-1)).fLast)))))) (some (.out (.ret (0,hd,false)))) (ML (List.set ha (Int.toNat ((ha.length:Int)-1)) (Ax.mk ((Aj ha ((ha.length:Int)-1)).fPairs) ((Aj ha ((ha.length:Int)-1)).fLeft) ((Aj ha ((ha.length:Int)-1)).fKey) ((Aj v hb).fStr) ((Aj ha ((ha.length:Int)-1)).fStarted))) λhe=>ML (List.set he (Int.toNat ((ha.length:Int)-1)) (Ax.mk ((Aj he ((ha.length:Int)-1)).fPairs) ((Aj he ((ha.length:Int)-1)).fLeft) ((Aj he ((ha.length:Int)-1)).fKey) ((Aj he ((ha.length:Int)-1)).fLast) true)) λhf=>ML (List.set hf (Int.toNat ((ha.length:Int)-1)) (Ax.mk ((Aj hf ((ha.length:Int)-1)).fPairs) ((Aj hf ((ha.length:Int)-1)).fLeft) false ((Aj hf ((ha.length:Int)-1)).fLast) ((Aj hf ((ha.length:Int)-1)).fStarted))) λhk=>B0 (GM ((Aj v hb).fStr)) λhh=>Bk (BH .i64 (hh+1))<|Ds hb hk (A6.mk hd.fDepth (IntKind.wrap .i64 (hd.fBytes+(hh+1))) hd.fOutside (hd.fLong||(decide (200<(((Aj v hb).fStr).length:Int))))))) (Bk (BH .i64 ((ha.length:Int)+1))<|B0 (LO (Aj v hb)) λhg=>Bk (imp (!hd.fOutside) (imp (decide (((Aj v hb).fKind)=3)) ((Bl ((Aj v hb).fInt)).isSome)))<|Bm (decide (0<((Aj v hb).fN))) (Bm (decide ((v.length:Int)<((Aj v hb).fN))) (some (.out (.ret (0,(A6.mk (max hd.fDepth ((ha.length:Int)+1)) (IntKind.wrap .i64 (hd.fBytes+hg)) (hd.fOutside||((decide (((Aj v hb).fKind)=3))&&(!(ov (Bl ((Aj v hb).fInt)))))) (hd.fLong||(decide (200<(((Aj v hb).fStr).length:Int))))),false)))) (Bk (LA 48 (ha.length+([(Ax.mk (decide (((Aj v hb).fKind)=6)) ((Aj v hb).fN) (decide (((Aj v hb).fKind)=6)) ([]:Ak) false)]:List Ax).length))<|Ds hb (ha++([(Ax.mk (decide (((Aj v hb).fKind)=6)) ((Aj v hb).fN) (decide (((Aj v hb).fKind)=6)) ([]:Ak) false)]:List Ax)) (A6.mk (max hd.fDepth ((ha.length:Int)+1)) (IntKind.wrap .i64 (hd.fBytes+hg)) (hd.fOutside||((decide (((Aj v hb).fKind)=3))&&(!(ov (Bl ((Aj v hb).fInt)))))) (hd.fLong||(decide (200<(((Aj v hb).fStr).length:Int))))))) (B0 (HJ F ha) λhi=>Bm (decide ((hi.length:Int)=0)) (Bk (BH .i64 (hb+1))<|some (.out (.ret (hb+1,(A6.mk (max hd.fDepth ((ha.length:Int)+1)) (IntKind.wrap .i64 (hd.fBytes+hg)) (hd.fOutside||((decide (((Aj v hb).fKind)=3))&&(!(ov (Bl ((Aj v hb).fInt)))))) (hd.fLong||(decide (200<(((Aj v hb).fStr).length:Int))))),true)))) (Ds hb hi (A6.mk (max hd.fDepth ((ha.length:Int)+1)) (IntKind.wrap .i64 (hd.fBytes+hg)) (hd.fOutside||((decide (((Aj v hb).fKind)=3))&&(!(ov (Bl ((Aj v hb).fInt)))))) (hd.fLong||(decide (200<(((Aj v hb).fStr).length:Int)))))))))) (some (.out (.go hd)))
def HH (ha:A6):Option (Int×A6×Bool):=
 some (0,ha,false)
def HI (F:Nat)(v:(List Ac)):Option (Int×A6×Bool):=
 B0 (Cu (λσ=>CX F v σ.1 σ.2.1 σ.2.2) F (([]:List Ax),0,(A6.mk 0 0 false false))) (B9 λν=>HH ν)
def J0 (F:Nat)(v:(List Ac)):Option (Int):=
 B0 (HI F v) λr1=>Bm (((!r1.2.2)||(!decide (r1.1=(v.length:Int))))) (some 1) (Bm (r1.2.1.fOutside) (some 2) (Bm ((r1.2.1.fLong||((decide (200<(v.length:Int)))||((decide (8<r1.2.1.fDepth))||(decide (4000<r1.2.1.fBytes)))))) (some 3) (some 0)))
end Go.Proofs.YtmmbdclkpijkpaaGreatDoor
namespace Go.Proofs.YtmmbdclkpijkpaaGreatDoor.Q
open Go Go.RowKit
set_option linter.unusedVariables false
set_option linter.unusedSimpArgs false
set_option maxRecDepth 100000
set_option maxHeartbeats 4000000
@[reducible] def Av (x:Ax):List Rp:=[rB x.fPairs,Aq x.fLeft,rB x.fKey,rS x.fLast,rB x.fStarted]
theorem G0 (x:Ax):(Av x).length=5:=rfl
theorem IT (x:Ax):(Av x).all (·.one)=true:=rfl
@[reducible] def AL (x:A6):List Rp:=[Aq x.fDepth,Aq x.fBytes,rB x.fOutside,rB x.fLong]
theorem RH:∃inf,Tryz.prog.info? 152=some inf∧inf.zero=some (.agg #[(.bool false),(.int .i64 0),(.bool false),(.string ⟨#[]⟩),(.bool false)])∧inf.size=5∧inf.bytes=48:=by
  have key:(Tryz.prog.info? 152).map (λi=>(i.zero,i.size,i.bytes))=some (some (.agg #[(.bool false),(.int .i64 0),(.bool false),(.string ⟨#[]⟩),(.bool false)]),5,48):=by kernel_rfl
  obtain⟨inf,h1,h2⟩:=Option.map_eq_some_iff.1 key;simp only[Prod.mk.injEq] at h2;exact⟨inf,h1,h2.1,h2.2.1,h2.2.2⟩
theorem QN (parts:List (Nat×Value)):Tryz.prog.built 152 parts=Instr.fill (λi=>(#[(0,1),(1,1),(2,1),(3,1),(4,1)]:Array (Nat×Nat))[i]?) #[(.bool false),(.int .i64 0),(.bool false),(.string ⟨#[]⟩),(.bool false)] parts:=by kernel_rfl
theorem I1 {n:Nat}{c:Cx}{l:Fr}{H:List Ent}{d:Option Nat}{ty:TypeId}{pos:String}{af:Array Edge}{g:Option (Nat×Bool)}{x0:Operand}{r0:Rp}(h0:ev l x0=some r0)(u0:r0.one=true){x1:Operand}{r1:Rp}(h1:ev l x1=some r1)(u1:r1.one=true){x2:Operand}{r2:Rp}(h2:ev l x2=some r2)(u2:r2.one=true):Bc Tryz.prog n c l H { dst:=d,op:=.build 152 #[(0,x0),(1,x1),(2,x2)],type:=ty,pos:=pos,after:=af,guard:=g } (Bf [r0,r1,r2,rS ([]:Ak),rB false]):=λa w Z ha _=>by
  have p0:=ha.ev h0;have c0:=BI (r0.hone u0 Z _ p0);have p1:=ha.ev h1;have c1:=BI (r1.hone u1 Z _ p1);have p2:=ha.ev h2;have c2:=BI (r2.hone u2 Z _ p2);have hb:Tryz.prog.built 152 [(0,a.eval x0),(1,a.eval x1),(2,a.eval x2)]=some #[a.eval x0,a.eval x1,a.eval x2,(.string ⟨#[]⟩),(.bool false)]:=by
    rw[QN];generalize a.eval x0=v0 at *;generalize a.eval x1=v1 at *;generalize a.eval x2=v2 at *;simp[Instr.fill,c0,c1,c2]
  refine⟨.agg #[a.eval x0,a.eval x1,a.eval x2,(.string ⟨#[]⟩),(.bool false)],⟨[a.eval x0,a.eval x1,a.eval x2,(.string ⟨#[]⟩),(.bool false)],rfl,p0,p1,p2,rfl,rfl,trivial⟩,?_⟩;have:=run_build w 152 #[(0,a.eval x0),(1,a.eval x1),(2,a.eval x2)] _ (by simpa using hb);simp[execOp,this]
theorem Qs (n:Int)(r:Bool)(h:Bl n=some r):Fn Tryz.prog GE 69 [Aq n] [] (λR H=>R=rB r∧H=[]):=by
 refine enter (n:=9) Tryz.func69 rfl Tryz.ntmps69 rfl (λw Z=>?_);unfold Bl at h;refine Al (wa rfl (Aw (AA [(2,rB ((decide ((-1000000000000)≤n))&&(decide (n≤1000000000000))))] [] ?_ ?_)))
 ·refine An (wm rfl (wv (Ie rfl rfl) (wm rfl (AH (decide ((-1000000000000)≤n)) (λc1=>?_) (λc1=>?_)))))
  ·refine wo c1 (wm rfl (wo c1 (wv (Ie rfl rfl) (Eu rfl c1 rfl (wa rfl (Am ?_))))));exact BA c1
  ·refine wf c1 (wf c1 (wv (r:=rB false) (A1 rfl c1 rfl) (wa rfl (Am ?_))));exact BA c1
 refine Az ?_;obtain rfl:=A2 h;exact Ay (Bw Tryz.results69 (AT rfl)) sN ⟨rfl,rfl⟩
theorem Rg (F:Nat)(s:Ak)(r:Bool)(h:HG F s=some r):Fn Tryz.prog GE 127 [rS s] [] (λR H=>R=rB r∧H=[]):=by
 refine enter (n:=20) Tryz.func127 rfl Tryz.ntmps127 rfl (λw Z=>?_);unfold HG at h;refine Al (wa rfl (Aw (At (Al (wm rfl (wv (B8 Es rfl) (wv (r:=Aq 0) (A3 rfl) (Aw (AJ (ob h λhi hj hg=>Bs (S:=Nat×(Int)×(Unit)) (V:=(Unit)×(Unit)) 0 (λσ=>Cu (λσ=>EJ s σ) σ.1 σ.2.1=some hi) (λσ=>[(0,rS s),(5,Aq (s.length:Int)),(6,Aq σ.2.1)]) (λσ=>[]) (λσ=>σ.1) (F,0,()) hj (AF.c rfl (AF.c rfl (AF.c rfl AF.nil))) sN (λσ=>EI =some r) (λσ=>[]) (λσ=>[]) ?_ ?_))))))))))
 ·rintro⟨hz,hb,⟨⟩⟩ hk;refine Ca (l':=[(0,rS s),(5,Aq (s.length:Int)),(6,Aq hb)]) (H':=[]) rfl rfl ?_;obtain⟨hl,rfl,t37,hd,hf⟩:=CJ hk;replace hd:EJ s hb=some t37:=hd;unfold EJ at hd;refine Al (wv (C0 rfl rfl) (Aw (At (cz hd rfl (λhm hn=>?_) (λhm ho=>?_)))))
  ·refine A0 (AQ (At (AJ (Al (wm rfl (wa rfl (Aw (ck hn λhh hp=>AA [(0,rS s),(5,Aq (s.length:Int)),(6,Aq hb),(18,rB ((decide ((DC s hb)<32))||(decide (126<(DC s hb)))))] [] ?_ ?_))))))))
   ·refine An (wm rfl (wm rfl (wv (Cf Es rfl rfl hh) (wv (C0 rfl rfl) (wm rfl (AH (decide ((DC s hb)<32)) (λha=>?_) (λha=>?_)))))))
    ·refine wf ha (wf ha (wf ha (wf ha (wv (r:=rB true) (Ao rfl ha rfl) (Am ?_)))));exact BA ha
    ·refine wo ha (wm rfl (wo ha (wm rfl (wo ha (wv (Cf Es rfl rfl hh) (wo ha (wv (Dl rfl rfl) (DT rfl ha rfl (Am ?_)))))))));exact BA ha
   refine cz hp rfl (λhq hr=>?_) (λhq hs=>?_)
   ·refine Al (wa rfl (Aw (Az (A9 (Af (Af (Bi ?_)))))));have ht:=BC hr hf hg;refine A9 (Af ?_);obtain rfl:=A2 ht;exact Ay (Bw Tryz.results127 (AT rfl)) sN ⟨rfl,rfl⟩
   ·refine A0 (AO (AQ (An (ck hs λhu hw=>wv (Bt rfl rfl hu) (wm rfl (Am ?_))))));have hx:=Be hw hf;exact A5 (AE (hl,hb+1,()) ⟨hx,Ur _⟩ (AF.c rfl (AF.c rfl (AF.c rfl AF.nil))) sN)
  ·refine Bu (A4 ?_);have hy:=BY ho hf hg;exact A4 (Bb (AE ((),()) hy AF.nil sN))
 ·rintro⟨⟨⟩,⟨⟩⟩ he;refine C7 (l':=[]) (H':=[]) rfl rfl ?_;replace he:EI =some r:=he;unfold EI at he;refine Ba (AQ (Al (wa rfl (Aw (Az ?_)))));obtain rfl:=A2 he;exact Ay (Bw Tryz.results127 (AT rfl)) sN ⟨rfl,rfl⟩
theorem Kv (s:Ak)(r:Int)(h:GM s=some r):Fn Tryz.prog GE 112 [rS s] [] (λR H=>R=Aq r∧H=[]):=by
 refine enter (n:=12) Tryz.func112 rfl Tryz.ntmps112 rfl (λw Z=>?_);unfold GM at h;refine Al (wa rfl (BW (wm rfl (wv (B8 Es rfl) (ck h λg1 h2=>wv (Bt rfl rfl g1) (wm rfl (E6 (rs:=[rS s,rS ([34]:Ak)]) (r:=Aq (Lib.countByte s 34:Int)) Tryz.call128 rfl (Oc s 34) rfl rfl (ck h2 λg3 h4=>wv (Bt rfl rfl g3) (wm rfl (E6 (rs:=[rS s,rS ([92]:Ak)]) (r:=Aq (Lib.countByte s 92:Int)) Tryz.call128 rfl (Oc s 92) rfl rfl (ck h4 λg5 h6=>wv (Bt rfl rfl g5) (wa rfl (Aw (Az ?_))))))))))))));obtain rfl:=A2 h6;exact Ay (Bw Tryz.results112 (AT rfl)) sN ⟨rfl,rfl⟩
theorem P7 (F:Nat)(c:Ac)(r:Bool)(h:Jy F c=some r):Fn Tryz.prog GE 111 [Bf (Ad c)] [] (λR H=>R=rB r∧H=[]):=by
 refine enter (n:=81) Tryz.func111 rfl Tryz.ntmps111 rfl (λw Z=>?_);unfold Jy at h;refine Al (B3 rfl rfl (λb1=>?_));refine wa rfl (Aw (At (Al (vF Bh rfl DH (vL 0 DI rfl (Aw (AJ (Al (wv (Bj rfl rfl) (wa rfl (Aw (cz h rfl (λc2 h3=>?_) (λc2 h6=>?_)))))))))))))
 ·refine AA [(2,rB ((decide (c.fInt=0))&&((decide (c.fStr=([]:Ak)))&&(decide (c.fN=0)))))] [] ?_ ?_
  ·refine An (vF Bh rfl Cv (vL 0 CC rfl (wv (Bj rfl rfl) (wm rfl (AH (decide (c.fInt=0)) (λc4=>?_) (λc4=>?_))))))
   ·refine wo c4 (vF Bh rfl D5 (wo c4 (vL 0 DF rfl (wo c4 (wv (EB rfl rfl) (Eu rfl c4 rfl (wm rfl (AH (decide (c.fStr=([]:Ak))) (λc5=>?_) (λc5=>?_)))))))))
    ·refine wo c5 (vF Bh rfl Cv (wo c5 (vL 0 CC rfl (wo c5 (wv (Bj rfl rfl) (Eu rfl c5 rfl (wa rfl (Am ?_))))))));exact BA (And.intro c4 c5)
    ·refine wf c5 (wf c5 (wf c5 (wv (r:=rB false) (A1 rfl c5 rfl) (wa rfl (Am ?_)))));exact BA (And.intro c4 c5)
   ·refine wf c4 (wf c4 (wf c4 (wv (r:=rB false) (A1 rfl c4 rfl) (wm rfl (wz rfl rfl (wz rfl rfl (wz rfl rfl (wv (r:=rB false) (A1 (b:=false) rfl rfl rfl) (wa rfl (Am ?_))))))))));exact BA c4
  refine Az (A9 (Af ?_));obtain rfl:=A2 h3;exact Ay (Bw Jt (AT rfl)) sN ⟨rfl,rfl⟩
 ·refine Al (wv (Bj rfl rfl) (wa rfl (Aw (cz h6 rfl (λc7 h8=>?_) (λc7 hm=>?_)))))
  ·refine AA [(2,rB (bif decide (c.fInt=0) then((decide (c.fStr=([]:Ak)))&&(decide (c.fN=0))) else((decide (c.fInt=1))&&((decide (c.fStr=([]:Ak)))&&(decide (c.fN=0))))))] [] ?_ ?_
   ·refine An (vF Bh rfl Cv (vL 0 CC rfl (wv (Bj rfl rfl) (wm rfl (AH (decide (c.fInt=0)) (λc9=>?_) (λc9=>?_))))))
    ·refine wf c9 (wf c9 (wf c9 (wv (r:=rB true) (Ao rfl c9 rfl) (wm rfl (AG (b:=true) rfl rfl rfl (vF Bh rfl D5 (AG (b:=true) rfl rfl rfl (vL 0 DF rfl (AG (b:=true) rfl rfl rfl (wv (EB rfl rfl) (wv (r:=rB (decide (c.fStr=([]:Ak)))) (Ao (b:=true) rfl rfl rfl) (wm rfl (AH (decide (c.fStr=([]:Ak))) (λhg=>?_) (λhg=>?_))))))))))))))
     ·refine wo hg (vF Bh rfl Cv (wo hg (vL 0 CC rfl (wo hg (wv (Bj rfl rfl) (Eu rfl hg rfl (wa rfl (Am ?_))))))));exact BA (And.intro c9 hg)
     ·refine wf hg (wf hg (wf hg (wv (r:=rB false) (A1 rfl hg rfl) (wa rfl (Am ?_)))));exact BA (And.intro c9 hg)
    ·refine wo c9 (vF Bh rfl Cv (wo c9 (vL 0 CC rfl (wo c9 (wv (Bj rfl rfl) (DT rfl c9 rfl (wm rfl (AH (decide (c.fInt=1)) (λhb=>?_) (λhb=>?_)))))))))
     ·refine wo hb (vF Bh rfl D5 (wo hb (vL 0 DF rfl (wo hb (wv (EB rfl rfl) (Eu rfl hb rfl (wm rfl (AH (decide (c.fStr=([]:Ak))) (λhh=>?_) (λhh=>?_)))))))))
      ·refine wo hh (vF Bh rfl Cv (wo hh (vL 0 CC rfl (wo hh (wv (Bj rfl rfl) (Eu rfl hh rfl (wa rfl (Am ?_))))))));exact BA (And.intro c9 (And.intro hb hh))
      ·refine wf hh (wf hh (wf hh (wv (r:=rB false) (A1 rfl hh rfl) (wa rfl (Am ?_)))));exact BA (And.intro c9 (And.intro hb hh))
     ·refine wf hb (wf hb (wf hb (wv (r:=rB false) (A1 rfl hb rfl) (wm rfl (wz rfl rfl (wz rfl rfl (wz rfl rfl (wv (r:=rB false) (A1 (b:=false) rfl rfl rfl) (wa rfl (Am ?_))))))))));exact BA (And.intro c9 hb)
   refine Az (A9 (Af ?_));obtain rfl:=A2 h8;exact Ay (Bw Jt (AT rfl)) sN ⟨rfl,rfl⟩
  ·refine Al (wv (Bj rfl rfl) (wa rfl (Aw (cz hm rfl (λhn ho=>?_) (λhn hp=>?_)))))
   ·refine AA [(2,rB ((decide (c.fStr=([]:Ak)))&&(decide (c.fN=0))))] [] ?_ ?_
    ·refine An (vF Bh rfl D5 (vL 0 DF rfl (wv (EB rfl rfl) (wm rfl (AH (decide (c.fStr=([]:Ak))) (λhi=>?_) (λhi=>?_))))))
     ·refine wo hi (vF Bh rfl Cv (wo hi (vL 0 CC rfl (wo hi (wv (Bj rfl rfl) (Eu rfl hi rfl (wa rfl (Am ?_))))))));exact BA hi
     ·refine wf hi (wf hi (wf hi (wv (r:=rB false) (A1 rfl hi rfl) (wa rfl (Am ?_)))));exact BA hi
    refine Az (A9 (Af ?_));obtain rfl:=A2 ho;exact Ay (Bw Jt (AT rfl)) sN ⟨rfl,rfl⟩
   ·refine Al (wv (Bj rfl rfl) (wa rfl (Aw (cz hp rfl (λhq hr=>?_) (λhq hs=>?_)))))
    ·refine ck hr λht hu=>AA [(2,rB ((decide (c.fInt=0))&&((decide (c.fN=0))&&(ov (HG F c.fStr)))))] [] ?_ ?_
     ·refine An (vF Bh rfl Cv (vL 0 CC rfl (wv (Bj rfl rfl) (wm rfl (AH (decide (c.fInt=0)) (λha=>?_) (λha=>?_))))))
      ·refine wo ha (vF Bh rfl Cv (wo ha (vL 0 CC rfl (wo ha (wv (Bj rfl rfl) (Eu rfl ha rfl (wm rfl (AH (decide (c.fN=0)) (λhd=>?_) (λhd=>?_)))))))))
       ·refine wo hd (vF Bh rfl D5 (wo hd (vL 0 DF rfl (wo hd (CS Tryz.call127 (Rg F c.fStr (ov (HG F c.fStr)) (E0 (CA (CA ht ha) hd))) rfl (Eu rfl hd rfl (wa rfl (Am ?_))))))));exact BA (And.intro ha hd)
       ·refine wf hd (wf hd (wf hd (wv (r:=rB false) (A1 rfl hd rfl) (wa rfl (Am ?_)))));exact BA (And.intro ha hd)
      ·refine wf ha (wf ha (wf ha (wv (r:=rB false) (A1 rfl ha rfl) (wm rfl (wz rfl rfl (wz rfl rfl (wz rfl rfl (wv (r:=rB false) (A1 (b:=false) rfl rfl rfl) (wa rfl (Am ?_))))))))));exact BA ha
     refine Az (A9 (Af ?_));obtain rfl:=A2 hu;exact Ay (Bw Jt (AT rfl)) sN ⟨rfl,rfl⟩
    ·refine At (Al (wv (Bj rfl rfl) (wa rfl (Aw (cz hs rfl (λhl hw=>?_) (λhl hx=>?_))))))
     ·refine A0 (AQ (EH rfl hl (AA [(2,rB ((decide (c.fInt=0))&&((decide (c.fStr=([]:Ak)))&&(decide (0≤c.fN)))))] [] ?_ ?_)))
      ·refine An (vF Bh rfl Cv (vL 0 CC rfl (wv (Bj rfl rfl) (wm rfl (AH (decide (c.fInt=0)) (λhe=>?_) (λhe=>?_))))))
       ·refine wo he (vF Bh rfl D5 (wo he (vL 0 DF rfl (wo he (wv (EB rfl rfl) (Eu rfl he rfl (wm rfl (AH (decide (c.fStr=([]:Ak))) (λhj=>?_) (λhj=>?_)))))))))
        ·refine wo hj (vF Bh rfl Cv (wo hj (vL 0 CC rfl (wo hj (wv (G4 rfl rfl) (Eu rfl hj rfl (wa rfl (Am ?_))))))));exact BA (And.intro he hj)
        ·refine wf hj (wf hj (wf hj (wv (r:=rB false) (A1 rfl hj rfl) (wa rfl (Am ?_)))));exact BA (And.intro he hj)
       ·refine wf he (wf he (wf he (wv (r:=rB false) (A1 rfl he rfl) (wm rfl (wz rfl rfl (wz rfl rfl (wz rfl rfl (wv (r:=rB false) (A1 (b:=false) rfl rfl rfl) (wa rfl (Am ?_))))))))));exact BA he
      refine Az (A9 (Af ?_));obtain rfl:=A2 hw;exact Ay (Bw Jt (AT rfl)) sN ⟨rfl,rfl⟩
     ·refine An (wv (Bj rfl rfl) (wa rfl (Aw (cz hx rfl (λhy hz=>?_) (λhy h0=>?_)))))
      ·refine AA [(2,rB ((decide (c.fInt=0))&&((decide (c.fStr=([]:Ak)))&&(decide (0≤c.fN)))))] [] ?_ ?_
       ·refine An (vF Bh rfl Cv (vL 0 CC rfl (wv (Bj rfl rfl) (wm rfl (AH (decide (c.fInt=0)) (λhf=>?_) (λhf=>?_))))))
        ·refine wo hf (vF Bh rfl D5 (wo hf (vL 0 DF rfl (wo hf (wv (EB rfl rfl) (Eu rfl hf rfl (wm rfl (AH (decide (c.fStr=([]:Ak))) (λhk=>?_) (λhk=>?_)))))))))
         ·refine wo hk (vF Bh rfl Cv (wo hk (vL 0 CC rfl (wo hk (wv (G4 rfl rfl) (Eu rfl hk rfl (wa rfl (Am ?_))))))));exact BA (And.intro hf hk)
         ·refine wf hk (wf hk (wf hk (wv (r:=rB false) (A1 rfl hk rfl) (wa rfl (Am ?_)))));exact BA (And.intro hf hk)
        ·refine wf hf (wf hf (wf hf (wv (r:=rB false) (A1 rfl hf rfl) (wm rfl (wz rfl rfl (wz rfl rfl (wz rfl rfl (wv (r:=rB false) (A1 (b:=false) rfl rfl rfl) (wa rfl (Am ?_))))))))));exact BA hf
       refine Az (A9 (Af ?_));obtain rfl:=A2 hz;exact Ay (Bw Jt (AT rfl)) sN ⟨rfl,rfl⟩
      ·refine A0 (AO (AQ (Al (wa rfl (Aw (Az ?_))))));obtain rfl:=A2 h0;exact Ay (Bw Jt (AT rfl)) (sS sN) ⟨rfl,rfl⟩
theorem Rh (c:Ac)(r:Int)(h:LO c=some r):Fn Tryz.prog GE 113 [Bf (Ad c)] [] (λR H=>R=Aq r∧H=[]):=by
 refine enter (n:=28) Tryz.func113 rfl Tryz.ntmps113 rfl (λw Z=>?_);unfold LO at h;refine Al (B3 rfl rfl (λb1=>?_));refine wa rfl (Aw (At (Al (vF Bh rfl DH (vL 0 DI rfl (Aw (AJ (Al (wv (Bj rfl rfl) (wa rfl (Aw (cz h rfl (λc2 h3=>?_) (λc2 h4=>?_)))))))))))))
 ·refine Al (wa rfl (Aw (Az (A9 (Af ?_)))));obtain rfl:=A2 h3;exact Ay (Bw LH (AT rfl)) (sS sN) ⟨rfl,rfl⟩
 ·refine Al (wv (Bj rfl rfl) (wa rfl (Aw (cz h4 rfl (λc5 h6=>?_) (λc5 h7=>?_)))))
  ·refine Al (vF Bh rfl Cv (vL 0 CC rfl (wv (r:=Aq (IntKind.wrap .i64 (5-c.fInt))) (Ql rfl rfl) (wa rfl (Aw (Az (A9 (Af ?_))))))));obtain rfl:=A2 h6;exact Ay (Bw LH (AT rfl)) (sS sN) ⟨rfl,rfl⟩
  ·refine Al (wv (Bj rfl rfl) (wa rfl (Aw (cz h7 rfl (λc8 h9=>?_) (λc8 ha=>?_)))))
   ·refine Al (vF Bh rfl Cv (vL 0 CC rfl (ck h9 λhb hd=>E6 (rs:=[Aq c.fInt]) (r:=rS (Lib.itoa c.fInt)) Tryz.call44 rfl (QF c.fInt hb) rfl rfl (wv (B8 Es rfl) (wa rfl (Aw (Az (A9 (Af ?_)))))))));obtain rfl:=A2 hd;exact Ay (Bw LH (AT rfl)) (sS sN) ⟨rfl,rfl⟩
   ·refine Al (wv (Bj rfl rfl) (wa rfl (Aw (cz ha rfl (λhe hf=>?_) (λhe hg=>?_)))))
    ·refine Al (vF Bh rfl D5 (vL 0 DF rfl (ob hf λhh hi hj=>CS Tryz.call112 (Kv c.fStr hh hi) rfl (wa rfl (Aw (Az (A9 (Af ?_))))))));obtain rfl:=A2 hj;exact Ay (Bw LH (AT rfl)) (sS sN) ⟨rfl,rfl⟩
    ·refine A0 (AO (AQ (Al (vF Bh rfl Cv (vL 0 CC rfl (wv (r:=Aq (IntKind.wrap .i64 (c.fN-1))) (Ql rfl rfl) (wv (Sh TE rfl rfl) (wv (r:=Aq (IntKind.wrap .i64 (2+(max 0 (IntKind.wrap .i64 (c.fN-1)))))) (Nn rfl rfl) (wa rfl (Aw (Az ?_)))))))))));obtain rfl:=A2 hg;exact Ay (Bw LH (AT rfl)) (sS sN) ⟨rfl,rfl⟩
theorem Or (F:Nat)(hi:Value)(stack:(List Ax))(r:(List Ax))(h:HJ F stack=some r):Fn Tryz.prog GE 114 [rv hi] [.row hi 152 5 (AD Av stack)] (λR H=>∃u0:Value,R=rv u0∧H=[.row u0 152 5 (AD Av r)]):=by
 refine enter (n:=38) Tryz.func114 rfl Tryz.ntmps114 rfl (λw Z=>?_);unfold HJ at h;refine Al (wa rfl (Aw (At (AJ (ob h λhn ho hl=>Bs (S:=Nat×((List Ax))×(Value)) (V:=((List Ax))×(Value)) 0 (λσ=>Cu (λσ=>CY σ) σ.1 σ.2.1=some hn) (λσ=>[(0,rv σ.2.2),(2,rv (.slice none 0 0))]) (λσ=>[.row σ.2.2 152 5 (AD Av σ.2.1)]) (λσ=>σ.1) (F,stack,hi) ho (AF.c rfl (AF.c rfl AF.nil)) (sC sN) (λσ=>Dx σ.1=some r) (λσ=>[(0,rv σ.2),(2,rv (.slice none 0 0))]) (λσ=>[.row σ.2 152 5 (AD Av σ.1)]) ?_ ?_)))))
 ·rintro⟨hG,ha,hd⟩ hp;refine Ca (l':=[(0,rv hd),(2,rv (.slice none 0 0))]) (H':=[.row hd 152 5 (AD Av ha)]) rfl rfl ?_;obtain⟨hq,rfl,hr,hg,hj⟩:=CJ hp;replace hg:CY ha=some hr:=hg;unfold CY at hg;refine At (Al (wm rfl (wv (BF (ys:=ha) (enc:=Av) (i:=0) Gv rfl rfl) (wv (Dl rfl rfl) (Aw (cz hg rfl (λhs ht=>?_) (λhs hu=>?_)))))))
  ·refine A0 (AQ (AJ (Al (wm rfl (wm rfl (wv (BF (ys:=ha) (enc:=Av) (i:=0) Gv rfl rfl) (ck ht λhw hx=>wv (K7 rfl rfl hw) (ck hx λhe hy=>wv (r:=rv (C6 5 hd (Ci ((ha.length:Int)-1)) 0)) (CF (i:=0) Gv LG rfl rfl rfl (AW he)) (wa rfl (BW (wm rfl (wv (r:=rv (C6 5 hd (Ci ((ha.length:Int)-1)) 0)) (BE (k:=0) rfl (AW he) rfl rfl) (wv (r:=rv (C6 5 hd (Ci ((ha.length:Int)-1)) 1)) (BQ (k:=0) Gu rfl Cv rfl (AW he) rfl rfl rfl) (wv (r:=Aq ((Aj ha ((ha.length:Int)-1)).fLeft)) (Dq (enc:=Av) (ys:=ha) (i:=0) (j:=(ha.length:Int)-1) CC rfl rfl he rfl) (ck hy λhz h0=>wv (K7 rfl rfl hz) (wv (r:=rv (C6 5 hd (Ci ((ha.length:Int)-1)) 0)) (BE (k:=0) rfl (AW he) rfl rfl) (wv (r:=rv (C6 5 hd (Ci ((ha.length:Int)-1)) 1)) (BQ (k:=0) Gu rfl Cv rfl (AW he) rfl rfl rfl) (Hu (enc:=Av) (ys:=ha) (y':=(Ax.mk ((Aj ha ((ha.length:Int)-1)).fPairs) (((Aj ha ((ha.length:Int)-1)).fLeft)-1) ((Aj ha ((ha.length:Int)-1)).fKey) ((Aj ha ((ha.length:Int)-1)).fLast) ((Aj ha ((ha.length:Int)-1)).fStarted))) (i:=0) (j:=(ha.length:Int)-1) Cv rfl rfl (CI rfl) rfl he rfl rfl (H':=[.row hd 152 5 (AD Av (List.set ha (Ci ((ha.length:Int)-1)) (Ax.mk ((Aj ha ((ha.length:Int)-1)).fPairs) (((Aj ha ((ha.length:Int)-1)).fLeft)-1) ((Aj ha ((ha.length:Int)-1)).fKey) ((Aj ha ((ha.length:Int)-1)).fLast) ((Aj ha ((ha.length:Int)-1)).fStarted))))]) rfl (bd h0 λhb hf h1=>?_)))))))))))))))))));rw[← hf];refine Aw (At (Al (wm rfl (wv (r:=rv (C6 5 hd (Ci ((ha.length:Int)-1)) 0)) (BE (k:=0) rfl (AW (Ck he hf)) rfl rfl) (wv (r:=rv (C6 5 hd (Ci ((ha.length:Int)-1)) 1)) (BQ (k:=0) Gu rfl Cv rfl (AW (Ck he hf)) rfl rfl rfl) (wv (r:=Aq ((Aj hb ((ha.length:Int)-1)).fLeft)) (Dq (enc:=Av) (ys:=hb) (i:=0) (j:=(ha.length:Int)-1) CC rfl rfl (Ck he hf) rfl) (wv (Dl rfl rfl) (Aw (cz h1 rfl (λh2 h3=>?_) (λh2 h4=>?_))))))))))
   ·refine Al (wm rfl (wm rfl (wv (r:=rv (C6 5 hd (Ci ((ha.length:Int)-1)) 0)) (BE (k:=0) rfl (AW (Ck he hf)) rfl rfl) (wv (r:=rv (C6 5 hd (Ci ((ha.length:Int)-1)) 0)) (BQ (k:=0) Gu rfl ED rfl (AW (Ck he hf)) rfl rfl rfl) (wv (r:=rB ((Aj hb ((ha.length:Int)-1)).fPairs)) (Dq (enc:=Av) (ys:=hb) (i:=0) (j:=(ha.length:Int)-1) L9 rfl rfl (Ck he hf) rfl) (wv (r:=rv (C6 5 hd (Ci ((ha.length:Int)-1)) 0)) (BE (k:=0) rfl (AW (Ck he hf)) rfl rfl) (wv (r:=rv (C6 5 hd (Ci ((ha.length:Int)-1)) 2)) (BQ (k:=0) Gu rfl ED rfl (AW (Ck he hf)) rfl rfl rfl) (Hu (enc:=Av) (ys:=hb) (y':=(Ax.mk ((Aj hb ((ha.length:Int)-1)).fPairs) ((Aj hb ((ha.length:Int)-1)).fLeft) ((Aj hb ((ha.length:Int)-1)).fPairs) ((Aj hb ((ha.length:Int)-1)).fLast) ((Aj hb ((ha.length:Int)-1)).fStarted))) (i:=0) (j:=(ha.length:Int)-1) ED rfl rfl (CI rfl) rfl (Ck he hf) rfl rfl (H':=[.row hd 152 5 (AD Av (List.set hb (Ci ((ha.length:Int)-1)) (Ax.mk ((Aj hb ((ha.length:Int)-1)).fPairs) ((Aj hb ((ha.length:Int)-1)).fLeft) ((Aj hb ((ha.length:Int)-1)).fPairs) ((Aj hb ((ha.length:Int)-1)).fLast) ((Aj hb ((ha.length:Int)-1)).fStarted))))]) rfl (bd h3 λhH h5 h6=>?_)))))))));rw[← h5];refine BW (wm rfl (wa rfl (Aw (Az (Af (A9 (Af (Bi ?_))))))));have h7:=BC h6 hj hl;refine A9 (Af ?_);obtain rfl:=A2 h7;exact Ay (Bw Tryz.results114 (AT rfl)) (sC sN) ⟨hd,rfl,rfl⟩
   ·refine A0 (AQ (An (wm rfl (wm rfl (wv (BF (ys:=hb) (enc:=Av) (i:=0) Gv rfl rfl) (ck h4 λh8 h9=>wv (K7 rfl rfl h8) (ck h9 λhA hB=>Sc (i:=0) Gv LG rfl rfl rfl hA rfl (λhC=>?_))))))));refine wa rfl (Am (AO ?_));have hD:=Be hB hj;exact A5 (AE (hq,List.take (Ci ((hb.length:Int)-1)) hb,hC) ⟨hD,Ur _⟩ (AF.c rfl (AF.c rfl AF.nil)) (sC sN))
  ·refine Bu (A4 ?_);have hE:=BY hu hj hl;exact A4 (Bb (AE (ha,hd) hE (AF.c rfl (AF.c rfl AF.nil)) (sC sN)))
 ·rintro⟨hm,hk⟩ hh;refine C7 (l':=[(0,rv hk),(2,rv (.slice none 0 0))]) (H':=[.row hk 152 5 (AD Av hm)]) rfl rfl ?_;replace hh:Dx hm=some r:=hh;unfold Dx at hh;refine Ba (AQ (Al (wm rfl (wa rfl (Aw (Az ?_))))));obtain rfl:=A2 hh;exact Ay (Bw Tryz.results114 (AT rfl)) (sC sN) ⟨hk,rfl,rfl⟩
theorem Ri (F:Nat)(v:(List Ac))(r:Int×A6×Bool)(h:HI F v=some r):Fn Tryz.prog GE 88 [AY 4 (AD Ad v)] [] (λR H=>R=Hb [Aq r.1,Bf (AL r.2.1),rB r.2.2]∧H=[]):=by
 refine enter (n:=152) Tryz.func88 rfl Tryz.ntmps88 rfl (λw Z=>?_);unfold HI at h;refine Al (wa rfl (CO (cs:=[Aq 0,Aq 0,rB false,rB false]) Tryz.zeroValue128 rfl rfl (λb1=>?_)));refine wa rfl (Aw (P4 (Al (CO (cs:=[Aq 0,Aq 0,rB false,rB false]) Tryz.zeroValue128 rfl rfl (λb2=>?_)))));refine BW (wa rfl (Aw (At (P5 (AQ (At (Al (wm rfl (wv (B1 (ys:=v) (enc:=Ad) CR rfl) (wv (r:=Aq 0) (A3 rfl) (Aw (AJ (WC.nilrow (e:=152) (sz:=5) (HF (H2:=[.blk b2 [Aq 0,Aq 0,rB false,rB false] 128,.blk b1 [Aq 0,Aq 0,rB false,rB false] 128,.row (.slice none 0 0                                                                                                                                                        ) 152 5 (AD Av ([]:List Ax))]) ((Ar (i:=1) rfl).trans (Uf _ ((Ar (i:=1) rfl).trans (Uf _ (Ug _))))) (ob h λhA hB hy=>Bs (S:=Nat×((List Ax)×Int×A6)×(Value)) (V:=(A6)×(Unit)) 0 (λσ=>Cu (λσ=>CX F v σ.1 σ.2.1 σ.2.2) σ.1 σ.2.1=some hA) (λσ=>[(0,AY 4 (AD Ad v)),(3,rP b1 0),(5,rP b2 0),(6,rv σ.2.2),(11,AY 4 (AD Ad v)),(12,Aq (v.length:Int)),(13,Aq σ.2.1.2.1)]) (λσ=>[.blk b2 (AL σ.2.1.2.2) 128,.blk b1 [Aq 0,Aq 0,rB false,rB false] 128,.row σ.2.2 152 5 (AD Av σ.2.1.1)]) (λσ=>σ.1) (F,(([]:List Ax),0,(A6.mk 0 0 false false)),(.slice none 0 0                                                                                                                                                        )) hB (AF.c rfl (AF.c rfl (AF.c5 rfl rfl rfl rfl rfl AF.nil))) (sC (sC (sC sN))) (λσ=>HH σ.1=some r) (λσ=>[(3,rP b1 0),(5,rP b2 0)]) (λσ=>[.blk b2 (AL σ.1) 128,.blk b1 [Aq 0,Aq 0,rB false,rB false] 128]) ?_ ?_)))))))))))))))
 ·rintro⟨gI,⟨hd,hb,ha⟩,he⟩ hC;refine Ca (l':=[(0,AY 4 (AD Ad v)),(3,rP b1 0),(5,rP b2 0),(6,rv he),(11,AY 4 (AD Ad v)),(12,Aq (v.length:Int)),(13,Aq hb)]) (H':=[.blk b2 (AL ha) 128,.blk b1 [Aq 0,Aq 0,rB false,rB false] 128,.row he 152 5 (AD Av hd)]) rfl rfl ?_;obtain⟨hD,rfl,h4,h0,hx⟩:=CJ hC;replace h0:CX F v hd hb ha=some h4:=h0;unfold CX at h0;refine Al (wv (C0 rfl rfl) (Aw (At (cz h0 rfl (λhE hG=>?_) (λhE hH=>?_)))))
  ·refine A0 (AQ (CV (S:=((List Ax)×A6)×(Value)) (λσ=>Ds hb σ.1.1 σ.1.2=some h4) (λσ=>[(0,AY 4 (AD Ad v)),(3,rP b1 0),(5,rP b2 0),(6,rv σ.2),(11,AY 4 (AD Ad v)),(12,Aq (v.length:Int)),(13,Aq hb)]) (λσ=>[.blk b2 (AL σ.1.2) 128,.blk b1 [Aq 0,Aq 0,rB false,rB false] 128,.row σ.2 152 5 (AD Av σ.1.1)]) ?_ ?_))
   ·refine AJ (Al (wm rfl (ck hG λhI hJ=>wv (BN (enc:=Ad) (ys:=v) CR Dr rfl rfl hI) (wv (BX Km Dr rfl rfl rfl) (CO (cs:=[Aq 0,Aq 0,rS ([]:Ak),Aq 0]) Oi rfl rfl (λhf=>?_))))));refine wa rfl (BJ (i:=0) Dr rfl rfl rfl (BV.c rfl) rfl rfl (cs':=[Aq ((Aj v hb).fKind),Aq ((Aj v hb).fInt),rS ((Aj v hb).fStr),Aq ((Aj v hb).fN)]) rfl (H':=[.blk hf (Ad (Aj v hb)) 89,.blk b2 (AL ha) 128,.blk b1 [Aq 0,Aq 0,rB false,rB false] 128,.row he 152 5 (AD Av hd)]) rfl (Aw (At (Al (wv (Bo (i:=0) Km Dr rfl rfl rfl rfl) (ob hJ λhK hL hN=>CS Tryz.call111 (P7 F (Aj v hb) hK hL) rfl (wv (BD rfl) (Aw (cz hN rfl (λhO hP=>?_) (λhO hQ=>?_))))))))))
    ·refine At (G9 (H1:=[.blk hf (Ad (Aj v hb)) 89,.blk b2 (AL ha) 128,.blk b1 (AL ha) 128,.row he 152 5 (AD Av hd)]) [3,5] [⟨[],Bf (AL ha),1⟩,⟨[],Aq 0,0⟩,⟨[0],rv undef,2⟩,⟨[],rB false,0⟩] (rle [(3,_),(2,[.blk hf (Ad (Aj v hb)) 89,.blk b2 (AL ha) 128,.blk b1 (AL ha) 128,.row he 152 5 (AD Av hd)])]) [2,4,3] ?_ ?_)
     ·refine of (Bo (i:=1) He Ed rfl rfl rfl rfl) (oq (AK rfl) (JM rfl (Mi (CL (i:=2) Ed rfl rfl rfl (BV.c rfl) rfl rfl (cs':=[Aq ha.fDepth,Aq ha.fBytes,rB ha.fOutside,rB ha.fLong]) rfl (H':=[.blk hf (Ad (Aj v hb)) 89,.blk b2 (AL ha) 128,.blk b1 (AL ha) 128,.row he 152 5 (AD Av hd)]) rfl)) ?_));refine oq (AK rfl) ?_;exact EW
     refine AQ (Az (Af (A9 (Af (Af (Bi ?_))))));have hR:=BC hP hx hy;refine A9 (Af (HE ?_));obtain rfl:=A2 hR;exact Ay (SU Px (AT rfl) (J8 (i:=2) He Ed rfl rfl rfl) (AT rfl)) (sS (sS (sS (sS sN)))) ⟨rfl,rfl⟩
    ·refine A0 (AQ (At (Al (wm rfl (wv (BF (ys:=hd) (enc:=Av) (i:=3) Gv rfl rfl) (wa rfl (Aw (ck hQ λhS hT=>ck hT λh5 hU=>AA [(0,AY 4 (AD Ad v)),(3,rP b1 0),(5,rP b2 0),(6,rv he),(7,Aq hb),(8,rP hf 0),(9,Aq (hd.length:Int)),(11,AY 4 (AD Ad v)),(12,Aq (v.length:Int)),(13,Aq hb),(33,rB ((decide (0<(hd.length:Int)))&&((Aj hd ((hd.length:Int)-1)).fKey)))] [.blk hf (Ad (Aj v hb)) 89,.blk b2 (AL ha) 128,.blk b1 [Aq 0,Aq 0,rB false,rB false] 128,.row he 152 5 (AD Av hd)] ?_ ?_))))))))
     ·refine An (wm rfl (wv (Dl rfl rfl) (wm rfl (AH (decide (0<(hd.length:Int))) (λhi=>?_) (λhi=>?_)))))
      ·refine wo hi (wm rfl (wo hi (wm rfl (wo hi (wv (K7 rfl rfl (CA hS hi)) (wo hi (wv (r:=rv (C6 5 he (Ci ((hd.length:Int)-1)) 0)) (CF (i:=3) Gv LG rfl rfl rfl (AW (CA h5 hi))) (wo hi (wv (r:=rv (C6 5 he (Ci ((hd.length:Int)-1)) 2)) (BQ (k:=3) Gu rfl ED rfl (AW (CA h5 hi)) rfl rfl rfl) (wo hi (wv (r:=rB ((Aj hd ((hd.length:Int)-1)).fKey)) (Dq (enc:=Av) (ys:=hd) (i:=3) (j:=(hd.length:Int)-1) L9 rfl rfl (CA h5 hi) rfl) (Eu rfl hi rfl (Am ?_)))))))))))));exact BA hi
      ·refine wf hi (wf hi (wf hi (wf hi (wf hi (wf hi (wv (r:=rB false) (A1 rfl hi rfl) (Am ?_)))))));exact BA hi
     refine cz hU rfl (λhV hW=>?_) (λhV hX=>?_)
     ·refine Al (wm rfl (wm rfl (ck hW λhY hZ=>wv (K7 rfl rfl hY) (ck hZ λhj ga=>wv (r:=rv (C6 5 he (Ci ((hd.length:Int)-1)) 0)) (CF (i:=3) Gv LG rfl rfl rfl (AW hj)) (wa rfl (Aw (At (AA [(0,AY 4 (AD Ad v)),(3,rP b1 0),(5,rP b2 0),(6,rv he),(8,rP hf 0),(10,rv (C6 5 he (Ci ((hd.length:Int)-1)) 0)),(11,AY 4 (AD Ad v)),(12,Aq (v.length:Int)),(13,Aq hb),(38,rP hf 0),(39,Aq ((Aj v hb).fKind)),(40,rB (!decide (((Aj v hb).fKind)=4))),(41,rB (!decide (((Aj v hb).fKind)=4))),(55,rB ((!decide (((Aj v hb).fKind)=4))||(((Aj hd ((hd.length:Int)-1)).fStarted)&&(Bz ((Aj v hb).fStr) ((Aj hd ((hd.length:Int)-1)).fLast)||decide (((Aj v hb).fStr)=((Aj hd ((hd.length:Int)-1)).fLast))))))] [.blk hf (Ad (Aj v hb)) 89,.blk b2 (AL ha) 128,.blk b1 [Aq 0,Aq 0,rB false,rB false] 128,.row he 152 5 (AD Av hd)] ?_ ?_))))))))
      ·refine AH (!decide (((Aj v hb).fKind)=4)) (λhh=>?_) (λhh=>?_)
       ·refine It [0,3,5,6,8,10,11,12,13] [⟨[],rP hf 0,0⟩,⟨[0],Aq ((Aj v hb).fKind),1⟩,⟨[1],rB (!decide (((Aj v hb).fKind)=4)),0⟩,⟨[2],rB (!decide (((Aj v hb).fKind)=4)),0⟩,⟨[3],rv undef,0⟩,⟨[4,3],rv undef,0⟩,⟨[5,3],rv undef,0⟩,⟨[6,3],rv undef,0⟩,⟨[7,3],rv undef,0⟩,⟨[8],rv undef,0⟩,⟨[9,8],rv undef,0⟩,⟨[8],rv undef,0⟩,⟨[11,8],rv undef,0⟩,⟨[12,8],rv undef,0⟩,⟨[13,8],rv undef,0⟩,⟨[10,14,8],rv undef,0⟩,⟨[8,15,3],rv undef,0⟩,⟨[3,16],rB true,0⟩] [38,39,40,41,42,43,44,45,46,47,48,49,50,51,52,53,54,55,0,3,5,6,8,10,11,12,13] ?_ ?_
        ·refine oq (Bg Bh rfl DH rfl rfl) (of (CE (i:=0) DI rfl rfl rfl) (oq (Eb rfl rfl) (oq (A3 rfl) (oz hh (oz hh (oz hh (oz hh (oz hh (ou (ou (ou (ou (ou (ou (ou (oz hh (oq (Ao (b:=!decide (((Aj v hb).fKind)=4)) rfl hh rfl) ?_)))))))))))))))));exact EW
        exact BA hh
       ·refine AH ((Aj hd ((hd.length:Int)-1)).fStarted) (λhk=>?_) (λhk=>?_)
        ·refine It [0,3,5,6,8,10,11,12,13] [⟨[],rP hf 0,0⟩,⟨[0],Aq ((Aj v hb).fKind),1⟩,⟨[1],rB (!decide (((Aj v hb).fKind)=4)),0⟩,⟨[2],rB (!decide (((Aj v hb).fKind)=4)),0⟩,⟨[3],rv (C6 5 he (Ci ((hd.length:Int)-1)) 0),0⟩,⟨[4,3],rv (C6 5 he (Ci ((hd.length:Int)-1)) 0),1⟩,⟨[5,3],rv (C6 5 he (Ci ((hd.length:Int)-1)) 4),1⟩,⟨[6,3],rB ((Aj hd ((hd.length:Int)-1)).fStarted),1⟩,⟨[7,3],rB ((Aj hd ((hd.length:Int)-1)).fStarted),0⟩,⟨[8],rP hf 2,0⟩,⟨[9,8],rS ((Aj v hb).fStr),1⟩,⟨[8],rv (C6 5 he (Ci ((hd.length:Int)-1)) 0),0⟩,⟨[11,8],rv (C6 5 he (Ci ((hd.length:Int)-1)) 0),1⟩,⟨[12,8],rv (C6 5 he (Ci ((hd.length:Int)-1)) 3),1⟩,⟨[13,8],rS ((Aj hd ((hd.length:Int)-1)).fLast),1⟩,⟨[10,14,8],rB (Bz ((Aj v hb).fStr) ((Aj hd ((hd.length:Int)-1)).fLast)||decide (((Aj v hb).fStr)=((Aj hd ((hd.length:Int)-1)).fLast))),0⟩,⟨[8,15,3],rB (Bz ((Aj v hb).fStr) ((Aj hd ((hd.length:Int)-1)).fLast)||decide (((Aj v hb).fStr)=((Aj hd ((hd.length:Int)-1)).fLast))),0⟩,⟨[3,16],rB (Bz ((Aj v hb).fStr) ((Aj hd ((hd.length:Int)-1)).fLast)||decide (((Aj v hb).fStr)=((Aj hd ((hd.length:Int)-1)).fLast))),0⟩] [38,39,40,41,42,43,44,45,46,47,48,49,50,51,52,53,54,55,0,3,5,6,8,10,11,12,13] ?_ ?_
         ·refine oq (Bg Bh rfl DH rfl rfl) (of (CE (i:=0) DI rfl rfl rfl) (oq (Eb rfl rfl) (oq (A3 rfl) (on hh (oq (A3 rfl) (on hh (of (BE (k:=3) rfl (AW hj) rfl rfl) (on hh (of (BQ (k:=3) Gu rfl ED rfl (AW hj) rfl rfl rfl) (on hh (of (Dq (enc:=Av) (ys:=hd) (i:=3) (j:=(hd.length:Int)-1) L9 rfl rfl hj rfl) (on hh (oq (A3 rfl) (on hk (oq (Bg Bh rfl D5 rfl rfl) (on hk (of (CE (i:=0) DF rfl rfl rfl) (on hk (oq (A3 rfl) (on hk (of (BE (k:=3) rfl (AW hj) rfl rfl) (on hk (of (BQ (k:=3) Gu rfl D5 rfl (AW hj) rfl rfl rfl) ?_)))))))))))))))))))))));refine on hk (of (Dq (enc:=Av) (ys:=hd) (i:=3) (j:=(hd.length:Int)-1) DF rfl rfl hj rfl) (on hk (oq (Qm rfl rfl) (on hh (oq (Ao rfl hk rfl) (oq (A1 rfl hh rfl) ?_))))));exact EW
         exact BA (And.intro hh hk)
        ·refine It [0,3,5,6,8,10,11,12,13] [⟨[],rP hf 0,0⟩,⟨[0],Aq ((Aj v hb).fKind),1⟩,⟨[1],rB (!decide (((Aj v hb).fKind)=4)),0⟩,⟨[2],rB (!decide (((Aj v hb).fKind)=4)),0⟩,⟨[3],rv (C6 5 he (Ci ((hd.length:Int)-1)) 0),0⟩,⟨[4,3],rv (C6 5 he (Ci ((hd.length:Int)-1)) 0),1⟩,⟨[5,3],rv (C6 5 he (Ci ((hd.length:Int)-1)) 4),1⟩,⟨[6,3],rB ((Aj hd ((hd.length:Int)-1)).fStarted),1⟩,⟨[7,3],rB ((Aj hd ((hd.length:Int)-1)).fStarted),0⟩,⟨[8],rv undef,0⟩,⟨[9,8],rv undef,0⟩,⟨[8],rv undef,0⟩,⟨[11,8],rv undef,0⟩,⟨[12,8],rv undef,0⟩,⟨[13,8],rv undef,0⟩,⟨[10,14,8],rv undef,0⟩,⟨[8,15,3],rB false,0⟩,⟨[3,16],rB false,0⟩] [38,39,40,41,42,43,44,45,46,47,48,49,50,51,52,53,54,55,0,3,5,6,8,10,11,12,13] ?_ ?_
         ·refine oq (Bg Bh rfl DH rfl rfl) (of (CE (i:=0) DI rfl rfl rfl) (oq (Eb rfl rfl) (oq (A3 rfl) (on hh (oq (A3 rfl) (on hh (of (BE (k:=3) rfl (AW hj) rfl rfl) (on hh (of (BQ (k:=3) Gu rfl ED rfl (AW hj) rfl rfl rfl) (on hh (of (Dq (enc:=Av) (ys:=hd) (i:=3) (j:=(hd.length:Int)-1) L9 rfl rfl hj rfl) (on hh (oq (A3 rfl) (oz hk (oz hk (oz hk (oz hk (oz hk (oz hk (oz hk (on hh (oq (A1 (b:=(Aj hd ((hd.length:Int)-1)).fStarted) rfl hk rfl) (oq (A1 rfl hh rfl) ?_)))))))))))))))))))))));exact EW
         exact BA (And.intro hh hk)
      refine cz ga rfl (λgb gc=>?_) (λgb gd=>?_)
      ·refine At (G9 (H1:=[.blk hf (Ad (Aj v hb)) 89,.blk b2 (AL ha) 128,.blk b1 (AL ha) 128,.row he 152 5 (AD Av hd)]) [3,5] [⟨[],Bf (AL ha),1⟩,⟨[],Aq 0,0⟩,⟨[0],rv undef,2⟩,⟨[],rB false,0⟩] (rle [(3,_),(2,[.blk hf (Ad (Aj v hb)) 89,.blk b2 (AL ha) 128,.blk b1 (AL ha) 128,.row he 152 5 (AD Av hd)])]) [2,4,3] ?_ ?_)
       ·refine of (Bo (i:=1) He Ed rfl rfl rfl rfl) (oq (AK rfl) (JM rfl (Mi (CL (i:=2) Ed rfl rfl rfl (BV.c rfl) rfl rfl (cs':=[Aq ha.fDepth,Aq ha.fBytes,rB ha.fOutside,rB ha.fLong]) rfl (H':=[.blk hf (Ad (Aj v hb)) 89,.blk b2 (AL ha) 128,.blk b1 (AL ha) 128,.row he 152 5 (AD Av hd)]) rfl)) ?_));refine oq (AK rfl) ?_;exact EW
       refine AQ (Az (Af (Af (A9 (Af (Af (Bi ?_)))))));have ge:=BC gc hx hy;refine A9 (Af (HE ?_));obtain rfl:=A2 ge;exact Ay (SU Px (AT rfl) (J8 (i:=2) He Ed rfl rfl rfl) (AT rfl)) (sS (sS (sS (sS sN)))) ⟨rfl,rfl⟩
      ·refine A0 (AQ (Al (wm rfl (wm rfl (wm rfl (vF Bh rfl D5 (vL 0 DF rfl (wv (r:=rv (C6 5 he (Ci ((hd.length:Int)-1)) 0)) (BE (k:=3) rfl (AW hj) rfl rfl) (wv (r:=rv (C6 5 he (Ci ((hd.length:Int)-1)) 3)) (BQ (k:=3) Gu rfl D5 rfl (AW hj) rfl rfl rfl) (Hu (enc:=Av) (ys:=hd) (y':=(Ax.mk ((Aj hd ((hd.length:Int)-1)).fPairs) ((Aj hd ((hd.length:Int)-1)).fLeft) ((Aj hd ((hd.length:Int)-1)).fKey) ((Aj v hb).fStr) ((Aj hd ((hd.length:Int)-1)).fStarted))) (i:=3) (j:=(hd.length:Int)-1) D5 rfl rfl (CI rfl) rfl hj rfl rfl (H':=[.blk hf (Ad (Aj v hb)) 89,.blk b2 (AL ha) 128,.blk b1 [Aq 0,Aq 0,rB false,rB false] 128,.row he 152 5 (AD Av (List.set hd (Ci ((hd.length:Int)-1)) (Ax.mk ((Aj hd ((hd.length:Int)-1)).fPairs) ((Aj hd ((hd.length:Int)-1)).fLeft) ((Aj hd ((hd.length:Int)-1)).fKey) ((Aj v hb).fStr) ((Aj hd ((hd.length:Int)-1)).fStarted))))]) rfl (bd gd λhr hu gf=>?_)))))))))));rw[← hu];refine wv (r:=rv (C6 5 he (Ci ((hd.length:Int)-1)) 0)) (BE (k:=3) rfl (AW (Ck hj hu)) rfl rfl) (wv (r:=rv (C6 5 he (Ci ((hd.length:Int)-1)) 4)) (BQ (k:=3) Gu rfl ED rfl (AW (Ck hj hu)) rfl rfl rfl) (Hu (enc:=Av) (ys:=hr) (y':=(Ax.mk ((Aj hr ((hd.length:Int)-1)).fPairs) ((Aj hr ((hd.length:Int)-1)).fLeft) ((Aj hr ((hd.length:Int)-1)).fKey) ((Aj hr ((hd.length:Int)-1)).fLast) true)) (i:=3) (j:=(hd.length:Int)-1) ED rfl rfl (CI rfl) rfl (Ck hj hu) rfl rfl (H':=[.blk hf (Ad (Aj v hb)) 89,.blk b2 (AL ha) 128,.blk b1 [Aq 0,Aq 0,rB false,rB false] 128,.row he 152 5 (AD Av (List.set hr (Ci ((hd.length:Int)-1)) (Ax.mk ((Aj hr ((hd.length:Int)-1)).fPairs) ((Aj hr ((hd.length:Int)-1)).fLeft) ((Aj hr ((hd.length:Int)-1)).fKey) ((Aj hr ((hd.length:Int)-1)).fLast) true)))]) rfl (bd gf λhs h1 gg=>?_)));rw[← h1];refine wv (r:=rv (C6 5 he (Ci ((hd.length:Int)-1)) 0)) (BE (k:=3) rfl (AW (Ck (Ck hj hu) h1)) rfl rfl) (wv (r:=rv (C6 5 he (Ci ((hd.length:Int)-1)) 2)) (BQ (k:=3) Gu rfl ED rfl (AW (Ck (Ck hj hu) h1)) rfl rfl rfl) (Hu (enc:=Av) (ys:=hs) (y':=(Ax.mk ((Aj hs ((hd.length:Int)-1)).fPairs) ((Aj hs ((hd.length:Int)-1)).fLeft) false ((Aj hs ((hd.length:Int)-1)).fLast) ((Aj hs ((hd.length:Int)-1)).fStarted))) (i:=3) (j:=(hd.length:Int)-1) ED rfl rfl (CI rfl) rfl (Ck (Ck hj hu) h1) rfl rfl (H':=[.blk hf (Ad (Aj v hb)) 89,.blk b2 (AL ha) 128,.blk b1 [Aq 0,Aq 0,rB false,rB false] 128,.row he 152 5 (AD Av (List.set hs (Ci ((hd.length:Int)-1)) (Ax.mk ((Aj hs ((hd.length:Int)-1)).fPairs) ((Aj hs ((hd.length:Int)-1)).fLeft) false ((Aj hs ((hd.length:Int)-1)).fLast) ((Aj hs ((hd.length:Int)-1)).fStarted))))]) rfl (bd gg λht gh gi=>?_)));rw[← gh];refine Aw (At (ob gi λhl gj gl=>ck gl λgm gp=>G9 (H1:=[.blk hf (Ad (Aj v hb)) 89,.blk b2 [Aq ha.fDepth,Aq (IntKind.wrap .i64 (ha.fBytes+(hl+1))),rB ha.fOutside,rB ha.fLong] 128,.blk b1 [Aq 0,Aq 0,rB false,rB false] 128,.row he 152 5 (AD Av ht)]) [0,3,5,6,8,11,12,13,38,39,40,41] [⟨[],rP b2 1,0⟩,⟨[0],Aq ha.fBytes,1⟩,⟨[],rP hf 2,0⟩,⟨[2],rS ((Aj v hb).fStr),1⟩,⟨[3],Aq hl,0⟩,⟨[4],Aq (hl+1),0⟩,⟨[1,5],Aq (IntKind.wrap .i64 (ha.fBytes+(hl+1))),0⟩,⟨[],rP b2 1,0⟩,⟨[7,6],rv undef,2⟩] (rle [(9,_),(1,[.blk hf (Ad (Aj v hb)) 89,.blk b2 [Aq ha.fDepth,Aq (IntKind.wrap .i64 (ha.fBytes+(hl+1))),rB ha.fOutside,rB ha.fLong] 128,.blk b1 [Aq 0,Aq 0,rB false,rB false] 128,.row he 152 5 (AD Av ht)])]) [68,69,70,71,72,73,74,75,0,3,5,6,8,11,12,13,38,39,40,41] ?_ ?_))
       ·refine oq (Bg Dy rfl Cv rfl rfl) (of (CE (i:=1) CC rfl rfl rfl) (oq (Bg Bh rfl D5 rfl rfl) (of (CE (i:=0) DF rfl rfl rfl) (K6 rfl (λH=>NM Tryz.call112 (Kv ((Aj v hb).fStr) hl gj) rfl) ?_))));refine oq (Bt rfl rfl gm) (oq (Nn rfl rfl) (oq (Bg Dy rfl Cv rfl rfl) (JM rfl (Mi (KT (i:=1) Cv rfl rfl (CI rfl) rfl rfl (cs':=[Aq ha.fDepth,Aq (IntKind.wrap .i64 (ha.fBytes+(hl+1))),rB ha.fOutside,rB ha.fLong]) rfl (H':=[.blk hf (Ad (Aj v hb)) 89,.blk b2 [Aq ha.fDepth,Aq (IntKind.wrap .i64 (ha.fBytes+(hl+1))),rB ha.fOutside,rB ha.fLong] 128,.blk b1 [Aq 0,Aq 0,rB false,rB false] 128,.row he 152 5 (AD Av ht)]) rfl)) ?_)));exact EW
       refine AQ (AA [(0,AY 4 (AD Ad v)),(3,rP b1 0),(5,rP b2 0),(6,rv he),(11,AY 4 (AD Ad v)),(12,Aq (v.length:Int)),(13,Aq hb),(38,rP hf 0),(39,Aq ((Aj v hb).fKind)),(40,rB (!decide (((Aj v hb).fKind)=4))),(41,rB (!decide (((Aj v hb).fKind)=4))),(68,rP b2 1),(69,Aq ha.fBytes),(70,rP hf 2),(71,rS ((Aj v hb).fStr)),(72,Aq hl),(73,Aq (hl+1)),(74,Aq (IntKind.wrap .i64 (ha.fBytes+(hl+1)))),(75,rP b2 1)] [.blk hf (Ad (Aj v hb)) 89,.blk b2 [Aq ha.fDepth,Aq (IntKind.wrap .i64 (ha.fBytes+(hl+1))),rB ha.fOutside,rB (ha.fLong||(decide (200<(((Aj v hb).fStr).length:Int))))] 128,.blk b1 [Aq 0,Aq 0,rB false,rB false] 128,.row he 152 5 (AD Av ht)] ?_ ?_)
       ·refine An (vF Dy rfl ED (vL 1 L9 rfl (wm rfl (AH (ha.fLong) (λho=>?_) (λho=>?_)))))
        ·refine wf ho (wf ho (wf ho (wf ho (wv (r:=rB true) (Ao rfl ho rfl) (vF Dy rfl ED (CP (i:=1) ED rfl rfl (CI rfl) rfl rfl (cs':=[Aq ha.fDepth,Aq (IntKind.wrap .i64 (ha.fBytes+(hl+1))),rB ha.fOutside,rB true]) rfl (H':=[.blk hf (Ad (Aj v hb)) 89,.blk b2 [Aq ha.fDepth,Aq (IntKind.wrap .i64 (ha.fBytes+(hl+1))),rB ha.fOutside,rB true] 128,.blk b1 [Aq 0,Aq 0,rB false,rB false] 128,.row he 152 5 (AD Av ht)]) rfl (Am (Gh (H':=[.blk hf (Ad (Aj v hb)) 89,.blk b2 [Aq ha.fDepth,Aq (IntKind.wrap .i64 (ha.fBytes+(hl+1))),rB ha.fOutside,rB (ha.fLong||(decide (200<(((Aj v hb).fStr).length:Int))))] 128,.blk b1 [Aq 0,Aq 0,rB false,rB false] 128,.row he 152 5 (AD Av ht)]) (by simp only[ho,Uz,U8,UI,U0,UA,U9,UF,UG,Uu,UD,Ut,Un]) ?_))))))));exact wt
        ·refine wo ho (vF Bh rfl D5 (wo ho (vL 0 DF rfl (wo ho (wv (B8 Es rfl) (wo ho (wv (Dl rfl rfl) (DT rfl ho rfl (vF Dy rfl ED (CP (i:=1) ED rfl rfl (CI rfl) rfl rfl (cs':=[Aq ha.fDepth,Aq (IntKind.wrap .i64 (ha.fBytes+(hl+1))),rB ha.fOutside,rB (decide (200<(((Aj v hb).fStr).length:Int)))]) rfl (H':=[.blk hf (Ad (Aj v hb)) 89,.blk b2 [Aq ha.fDepth,Aq (IntKind.wrap .i64 (ha.fBytes+(hl+1))),rB ha.fOutside,rB (decide (200<(((Aj v hb).fStr).length:Int)))] 128,.blk b1 [Aq 0,Aq 0,rB false,rB false] 128,.row he 152 5 (AD Av ht)]) rfl (Am (Gh (H':=[.blk hf (Ad (Aj v hb)) 89,.blk b2 [Aq ha.fDepth,Aq (IntKind.wrap .i64 (ha.fBytes+(hl+1))),rB ha.fOutside,rB (ha.fLong||(decide (200<(((Aj v hb).fStr).length:Int))))] 128,.blk b1 [Aq 0,Aq 0,rB false,rB false] 128,.row he 152 5 (AD Av ht)]) (by simp only[ho,Uz,U8,UI,U0,UA,U9,UF,UG,Uu,UD,Ut,Un]) ?_))))))))))));exact wt
       exact Bu (A4 (Ba (A5 (AE ((ht,(A6.mk ha.fDepth (IntKind.wrap .i64 (ha.fBytes+(hl+1))) ha.fOutside (ha.fLong||(decide (200<(((Aj v hb).fStr).length:Int)))))),he) gp (AF.c rfl (AF.c rfl (AF.c5 rfl rfl rfl rfl rfl AF.nil))) (sS (sC (sC (sC sN))))))))
     ·refine A0 (AQ (Al (vF Dy rfl Cv (vL 1 CC rfl (wm rfl (wv (BF (ys:=hd) (enc:=Av) (i:=3) Gv rfl rfl) (ck hX λgq gr=>wv (Bt rfl rfl gq) (wv (Sh TE rfl rfl) (vF Dy rfl Cv (CP (i:=1) Cv rfl rfl (CI rfl) rfl rfl (cs':=[Aq (max ha.fDepth ((hd.length:Int)+1)),Aq ha.fBytes,rB ha.fOutside,rB ha.fLong]) rfl (H':=[.blk hf (Ad (Aj v hb)) 89,.blk b2 [Aq (max ha.fDepth ((hd.length:Int)+1)),Aq ha.fBytes,rB ha.fOutside,rB ha.fLong] 128,.blk b1 [Aq 0,Aq 0,rB false,rB false] 128,.row he 152 5 (AD Av hd)]) rfl (Aw (At (ob gr λhg gs gt=>G9 (H1:=[.blk hf (Ad (Aj v hb)) 89,.blk b2 [Aq (max ha.fDepth ((hd.length:Int)+1)),Aq (IntKind.wrap .i64 (ha.fBytes+hg)),rB ha.fOutside,rB ha.fLong] 128,.blk b1 [Aq 0,Aq 0,rB false,rB false] 128,.row he 152 5 (AD Av hd)]) [0,3,5,6,7,8,11,12,13] [⟨[],rP b2 1,0⟩,⟨[0],Aq ha.fBytes,1⟩,⟨[],Bf (Ad (Aj v hb)),1⟩,⟨[2],Aq hg,0⟩,⟨[1,3],Aq (IntKind.wrap .i64 (ha.fBytes+hg)),0⟩,⟨[],rP b2 1,0⟩,⟨[5,4],rv undef,2⟩] (rle [(7,_),(1,[.blk hf (Ad (Aj v hb)) 89,.blk b2 [Aq (max ha.fDepth ((hd.length:Int)+1)),Aq (IntKind.wrap .i64 (ha.fBytes+hg)),rB ha.fOutside,rB ha.fLong] 128,.blk b1 [Aq 0,Aq 0,rB false,rB false] 128,.row he 152 5 (AD Av hd)])]) [92,93,94,95,96,97,0,3,5,6,7,8,11,12,13] ?_ ?_)))))))))))))
      ·refine oq (Bg Dy rfl Cv rfl rfl) (of (CE (i:=1) CC rfl rfl rfl) (of (Bo (i:=0) Km Dr rfl rfl rfl rfl) (K6 rfl (λH=>NM Tryz.call113 (Rh (Aj v hb) hg gs) rfl) ?_)));refine oq (Nn rfl rfl) (oq (Bg Dy rfl Cv rfl rfl) (JM rfl (Mi (KT (i:=1) Cv rfl rfl (CI rfl) rfl rfl (cs':=[Aq (max ha.fDepth ((hd.length:Int)+1)),Aq (IntKind.wrap .i64 (ha.fBytes+hg)),rB ha.fOutside,rB ha.fLong]) rfl (H':=[.blk hf (Ad (Aj v hb)) 89,.blk b2 [Aq (max ha.fDepth ((hd.length:Int)+1)),Aq (IntKind.wrap .i64 (ha.fBytes+hg)),rB ha.fOutside,rB ha.fLong] 128,.blk b1 [Aq 0,Aq 0,rB false,rB false] 128,.row he 152 5 (AD Av hd)]) rfl)) ?_));exact EW
      refine AQ (ck gt λgu gv=>AA [(0,AY 4 (AD Ad v)),(3,rP b1 0),(5,rP b2 0),(6,rv he),(7,Aq hb),(8,rP hf 0),(11,AY 4 (AD Ad v)),(12,Aq (v.length:Int)),(13,Aq hb),(92,rP b2 1),(93,Aq ha.fBytes),(94,Bf (Ad (Aj v hb))),(95,Aq hg),(96,Aq (IntKind.wrap .i64 (ha.fBytes+hg))),(97,rP b2 1)] [.blk hf (Ad (Aj v hb)) 89,.blk b2 [Aq (max ha.fDepth ((hd.length:Int)+1)),Aq (IntKind.wrap .i64 (ha.fBytes+hg)),rB (ha.fOutside||((decide (((Aj v hb).fKind)=3))&&(!(ov (Bl ((Aj v hb).fInt)))))),rB ha.fLong] 128,.blk b1 [Aq 0,Aq 0,rB false,rB false] 128,.row he 152 5 (AD Av hd)] ?_ ?_)
      ·refine An (vF Dy rfl ED (vL 1 L9 rfl (wm rfl (AH (ha.fOutside) (λhm=>?_) (λhm=>?_)))))
       ·refine wf hm (wf hm (wf hm (wf hm (wu (wu (wu (wu (wf hm (wv (r:=rB true) (Ao rfl hm rfl) (vF Dy rfl ED (CP (i:=1) ED rfl rfl (CI rfl) rfl rfl (cs':=[Aq (max ha.fDepth ((hd.length:Int)+1)),Aq (IntKind.wrap .i64 (ha.fBytes+hg)),rB true,rB ha.fLong]) rfl (H':=[.blk hf (Ad (Aj v hb)) 89,.blk b2 [Aq (max ha.fDepth ((hd.length:Int)+1)),Aq (IntKind.wrap .i64 (ha.fBytes+hg)),rB true,rB ha.fLong] 128,.blk b1 [Aq 0,Aq 0,rB false,rB false] 128,.row he 152 5 (AD Av hd)]) rfl (Am (Gh (H':=[.blk hf (Ad (Aj v hb)) 89,.blk b2 [Aq (max ha.fDepth ((hd.length:Int)+1)),Aq (IntKind.wrap .i64 (ha.fBytes+hg)),rB (ha.fOutside||((decide (((Aj v hb).fKind)=3))&&(!(ov (Bl ((Aj v hb).fInt)))))),rB ha.fLong] 128,.blk b1 [Aq 0,Aq 0,rB false,rB false] 128,.row he 152 5 (AD Av hd)]) (by simp only[hm,Uz,U8,UI,U0,UA,U9,UF,UG,Uu,UD,Ut,Un]) ?_)))))))))))));exact wt
       ·refine wo hm (vF Bh rfl DH (wo hm (vL 0 DI rfl (wo hm (wv (Bj rfl rfl) (wo hm (wm rfl (AH (decide (((Aj v hb).fKind)=3)) (λhn=>?_) (λhn=>?_)))))))))
        ·refine wo hn (vF Bh rfl Cv (wo hn (vL 0 CC rfl (wo hn (CS Tryz.call69 (Qs ((Aj v hb).fInt) (ov (Bl ((Aj v hb).fInt))) (E0 (CA (D8 gu hm) hn))) rfl (wo hn (wv (BD rfl) (wo hm (Eu rfl hn rfl (DT rfl hm rfl (vF Dy rfl ED (CP (i:=1) ED rfl rfl (CI rfl) rfl rfl (cs':=[Aq (max ha.fDepth ((hd.length:Int)+1)),Aq (IntKind.wrap .i64 (ha.fBytes+hg)),rB (!(ov (Bl ((Aj v hb).fInt)))),rB ha.fLong]) rfl (H':=[.blk hf (Ad (Aj v hb)) 89,.blk b2 [Aq (max ha.fDepth ((hd.length:Int)+1)),Aq (IntKind.wrap .i64 (ha.fBytes+hg)),rB (!(ov (Bl ((Aj v hb).fInt)))),rB ha.fLong] 128,.blk b1 [Aq 0,Aq 0,rB false,rB false] 128,.row he 152 5 (AD Av hd)]) rfl (Am (Gh (H':=[.blk hf (Ad (Aj v hb)) 89,.blk b2 [Aq (max ha.fDepth ((hd.length:Int)+1)),Aq (IntKind.wrap .i64 (ha.fBytes+hg)),rB (ha.fOutside||((decide (((Aj v hb).fKind)=3))&&(!(ov (Bl ((Aj v hb).fInt)))))),rB ha.fLong] 128,.blk b1 [Aq 0,Aq 0,rB false,rB false] 128,.row he 152 5 (AD Av hd)]) (by simp only[hm,hn,Uz,U8,UI,U0,UA,U9,UF,UG,Uu,UD,Ut,Un]) ?_))))))))))))));exact wt
        ·refine wf hn (wf hn (wf hn (wf hn (wo hm (wv (r:=rB false) (A1 rfl hn rfl) (DT rfl hm rfl (vF Dy rfl ED (CP (i:=1) ED rfl rfl (CI rfl) rfl rfl (cs':=[Aq (max ha.fDepth ((hd.length:Int)+1)),Aq (IntKind.wrap .i64 (ha.fBytes+hg)),rB false,rB ha.fLong]) rfl (H':=[.blk hf (Ad (Aj v hb)) 89,.blk b2 [Aq (max ha.fDepth ((hd.length:Int)+1)),Aq (IntKind.wrap .i64 (ha.fBytes+hg)),rB false,rB ha.fLong] 128,.blk b1 [Aq 0,Aq 0,rB false,rB false] 128,.row he 152 5 (AD Av hd)]) rfl (Am (Gh (H':=[.blk hf (Ad (Aj v hb)) 89,.blk b2 [Aq (max ha.fDepth ((hd.length:Int)+1)),Aq (IntKind.wrap .i64 (ha.fBytes+hg)),rB (ha.fOutside||((decide (((Aj v hb).fKind)=3))&&(!(ov (Bl ((Aj v hb).fInt)))))),rB ha.fLong] 128,.blk b1 [Aq 0,Aq 0,rB false,rB false] 128,.row he 152 5 (AD Av hd)]) (by simp only[hm,hn,Uz,U8,UI,U0,UA,U9,UF,UG,Uu,UD,Ut,Un]) ?_))))))))));exact wt
      refine AA [(0,AY 4 (AD Ad v)),(3,rP b1 0),(5,rP b2 0),(6,rv he),(7,Aq hb),(8,rP hf 0),(11,AY 4 (AD Ad v)),(12,Aq (v.length:Int)),(13,Aq hb),(92,rP b2 1),(93,Aq ha.fBytes),(94,Bf (Ad (Aj v hb))),(95,Aq hg),(96,Aq (IntKind.wrap .i64 (ha.fBytes+hg))),(97,rP b2 1)] [.blk hf (Ad (Aj v hb)) 89,.blk b2 [Aq (max ha.fDepth ((hd.length:Int)+1)),Aq (IntKind.wrap .i64 (ha.fBytes+hg)),rB (ha.fOutside||((decide (((Aj v hb).fKind)=3))&&(!(ov (Bl ((Aj v hb).fInt)))))),rB (ha.fLong||(decide (200<(((Aj v hb).fStr).length:Int))))] 128,.blk b1 [Aq 0,Aq 0,rB false,rB false] 128,.row he 152 5 (AD Av hd)] ?_ ?_
      ·refine An (vF Dy rfl ED (vL 1 L9 rfl (wm rfl (AH (ha.fLong) (λhp=>?_) (λhp=>?_)))))
       ·refine wf hp (wf hp (wf hp (wf hp (wv (r:=rB true) (Ao rfl hp rfl) (vF Dy rfl ED (CP (i:=1) ED rfl rfl (CI rfl) rfl rfl (cs':=[Aq (max ha.fDepth ((hd.length:Int)+1)),Aq (IntKind.wrap .i64 (ha.fBytes+hg)),rB (ha.fOutside||((decide (((Aj v hb).fKind)=3))&&(!(ov (Bl ((Aj v hb).fInt)))))),rB true]) rfl (H':=[.blk hf (Ad (Aj v hb)) 89,.blk b2 [Aq (max ha.fDepth ((hd.length:Int)+1)),Aq (IntKind.wrap .i64 (ha.fBytes+hg)),rB (ha.fOutside||((decide (((Aj v hb).fKind)=3))&&(!(ov (Bl ((Aj v hb).fInt)))))),rB true] 128,.blk b1 [Aq 0,Aq 0,rB false,rB false] 128,.row he 152 5 (AD Av hd)]) rfl (Am (Gh (H':=[.blk hf (Ad (Aj v hb)) 89,.blk b2 [Aq (max ha.fDepth ((hd.length:Int)+1)),Aq (IntKind.wrap .i64 (ha.fBytes+hg)),rB (ha.fOutside||((decide (((Aj v hb).fKind)=3))&&(!(ov (Bl ((Aj v hb).fInt)))))),rB (ha.fLong||(decide (200<(((Aj v hb).fStr).length:Int))))] 128,.blk b1 [Aq 0,Aq 0,rB false,rB false] 128,.row he 152 5 (AD Av hd)]) (by simp only[hp,Uz,U8,UI,U0,UA,U9,UF,UG,Uu,UD,Ut,Un]) ?_))))))));exact wt
       ·refine wo hp (vF Bh rfl D5 (wo hp (vL 0 DF rfl (wo hp (wv (B8 Es rfl) (wo hp (wv (Dl rfl rfl) (DT rfl hp rfl (vF Dy rfl ED (CP (i:=1) ED rfl rfl (CI rfl) rfl rfl (cs':=[Aq (max ha.fDepth ((hd.length:Int)+1)),Aq (IntKind.wrap .i64 (ha.fBytes+hg)),rB (ha.fOutside||((decide (((Aj v hb).fKind)=3))&&(!(ov (Bl ((Aj v hb).fInt)))))),rB (decide (200<(((Aj v hb).fStr).length:Int)))]) rfl (H':=[.blk hf (Ad (Aj v hb)) 89,.blk b2 [Aq (max ha.fDepth ((hd.length:Int)+1)),Aq (IntKind.wrap .i64 (ha.fBytes+hg)),rB (ha.fOutside||((decide (((Aj v hb).fKind)=3))&&(!(ov (Bl ((Aj v hb).fInt)))))),rB (decide (200<(((Aj v hb).fStr).length:Int)))] 128,.blk b1 [Aq 0,Aq 0,rB false,rB false] 128,.row he 152 5 (AD Av hd)]) rfl (Am (Gh (H':=[.blk hf (Ad (Aj v hb)) 89,.blk b2 [Aq (max ha.fDepth ((hd.length:Int)+1)),Aq (IntKind.wrap .i64 (ha.fBytes+hg)),rB (ha.fOutside||((decide (((Aj v hb).fKind)=3))&&(!(ov (Bl ((Aj v hb).fInt)))))),rB (ha.fLong||(decide (200<(((Aj v hb).fStr).length:Int))))] 128,.blk b1 [Aq 0,Aq 0,rB false,rB false] 128,.row he 152 5 (AD Av hd)]) (by simp only[hp,Uz,U8,UI,U0,UA,U9,UF,UG,Uu,UD,Ut,Un]) ?_))))))))))));exact wt
      refine At (Al (vF Bh rfl Cv (vL 0 CC rfl (wv (Dl rfl rfl) (Aw (cz gv rfl (λgw gx=>?_) (λgw gy=>?_)))))))
      ·refine At (Al (vF Bh rfl Cv (vL 0 CC rfl (wm rfl (wv (B1 (ys:=v) (enc:=Ad) CR rfl) (wv (Dl rfl rfl) (Aw (cz gx rfl (λgz g0=>?_) (λgz g1=>?_)))))))))
       ·refine At (G9 (H1:=[.blk hf (Ad (Aj v hb)) 89,.blk b2 [Aq (max ha.fDepth ((hd.length:Int)+1)),Aq (IntKind.wrap .i64 (ha.fBytes+hg)),rB (ha.fOutside||((decide (((Aj v hb).fKind)=3))&&(!(ov (Bl ((Aj v hb).fInt)))))),rB (ha.fLong||(decide (200<(((Aj v hb).fStr).length:Int))))] 128,.blk b1 [Aq (max ha.fDepth ((hd.length:Int)+1)),Aq (IntKind.wrap .i64 (ha.fBytes+hg)),rB (ha.fOutside||((decide (((Aj v hb).fKind)=3))&&(!(ov (Bl ((Aj v hb).fInt)))))),rB (ha.fLong||(decide (200<(((Aj v hb).fStr).length:Int))))] 128,.row he 152 5 (AD Av hd)]) [3,5] [⟨[],Bf [Aq (max ha.fDepth ((hd.length:Int)+1)),Aq (IntKind.wrap .i64 (ha.fBytes+hg)),rB (ha.fOutside||((decide (((Aj v hb).fKind)=3))&&(!(ov (Bl ((Aj v hb).fInt)))))),rB (ha.fLong||(decide (200<(((Aj v hb).fStr).length:Int))))],1⟩,⟨[],Aq 0,0⟩,⟨[0],rv undef,2⟩,⟨[],rB false,0⟩] (rle [(3,_),(2,[.blk hf (Ad (Aj v hb)) 89,.blk b2 [Aq (max ha.fDepth ((hd.length:Int)+1)),Aq (IntKind.wrap .i64 (ha.fBytes+hg)),rB (ha.fOutside||((decide (((Aj v hb).fKind)=3))&&(!(ov (Bl ((Aj v hb).fInt)))))),rB (ha.fLong||(decide (200<(((Aj v hb).fStr).length:Int))))] 128,.blk b1 [Aq (max ha.fDepth ((hd.length:Int)+1)),Aq (IntKind.wrap .i64 (ha.fBytes+hg)),rB (ha.fOutside||((decide (((Aj v hb).fKind)=3))&&(!(ov (Bl ((Aj v hb).fInt)))))),rB (ha.fLong||(decide (200<(((Aj v hb).fStr).length:Int))))] 128,.row he 152 5 (AD Av hd)])]) [2,4,3] ?_ ?_)
        ·refine of (Bo (i:=1) He Ed rfl rfl rfl rfl) (oq (AK rfl) (JM rfl (Mi (CL (i:=2) Ed rfl rfl rfl (BV.c rfl) rfl rfl (cs':=[Aq (max ha.fDepth ((hd.length:Int)+1)),Aq (IntKind.wrap .i64 (ha.fBytes+hg)),rB (ha.fOutside||((decide (((Aj v hb).fKind)=3))&&(!(ov (Bl ((Aj v hb).fInt)))))),rB (ha.fLong||(decide (200<(((Aj v hb).fStr).length:Int))))]) rfl (H':=[.blk hf (Ad (Aj v hb)) 89,.blk b2 [Aq (max ha.fDepth ((hd.length:Int)+1)),Aq (IntKind.wrap .i64 (ha.fBytes+hg)),rB (ha.fOutside||((decide (((Aj v hb).fKind)=3))&&(!(ov (Bl ((Aj v hb).fInt)))))),rB (ha.fLong||(decide (200<(((Aj v hb).fStr).length:Int))))] 128,.blk b1 [Aq (max ha.fDepth ((hd.length:Int)+1)),Aq (IntKind.wrap .i64 (ha.fBytes+hg)),rB (ha.fOutside||((decide (((Aj v hb).fKind)=3))&&(!(ov (Bl ((Aj v hb).fInt)))))),rB (ha.fLong||(decide (200<(((Aj v hb).fStr).length:Int))))] 128,.row he 152 5 (AD Av hd)]) rfl)) ?_));refine oq (AK rfl) ?_;exact EW
        refine AQ (Az (Af (Af (A9 (Af (Af (Bi ?_)))))));have g2:=BC g0 hx hy;refine A9 (Af (HE ?_));obtain rfl:=A2 g2;exact Ay (SU Px (AT rfl) (J8 (i:=2) He Ed rfl rfl rfl) (AT rfl)) (sS (sS (sS (sS sN)))) ⟨rfl,rfl⟩
       ·refine A0 (AQ (Al (wm rfl (vF Bh rfl DH (vL 0 DI rfl (wv (Bj rfl rfl) (vF Bh rfl Cv (vL 0 CC rfl (vF Bh rfl DH (vL 0 DI rfl (wv (Bj rfl rfl) (wv (r:=Bf [rB (decide (((Aj v hb).fKind)=6)),Aq ((Aj v hb).fN),rB (decide (((Aj v hb).fKind)=6)),rS ([]:Ak),rB false]) (I1 rfl rfl rfl rfl rfl rfl) (Co (ys:=([(Ax.mk (decide (((Aj v hb).fKind)=6)) ((Aj v hb).fN) (decide (((Aj v hb).fKind)=6)) ([]:Ak) false)]:List Ax)) (enc:=Av) (css:=[[rB (decide (((Aj v hb).fKind)=6)),Aq ((Aj v hb).fN),rB (decide (((Aj v hb).fKind)=6)),rS ([]:Ak),rB false]]) (xs:=[.tmp 139]) Gv LG Tryz.zeroValue152 rfl rfl rfl ⟨QR.agg ⟨Up.refl _,Up.refl _,Up.refl _,Up.refl _,Up.refl _,trivial⟩,trivial⟩ rfl G0 rfl rfl rfl (λg3=>?_))))))))))))));refine ck g1 λg4 g5=>Exists.elim RH λinf hinf=>CW (xs:=hd) (ys:=([(Ax.mk (decide (((Aj v hb).fKind)=6)) ((Aj v hb).fN) (decide (((Aj v hb).fKind)=6)) ([]:Ak) false)]:List Ax)) (enc:=Av) (i:=4) Gv hinf.1 hinf.2.1 hinf.2.2.1 hinf.2.2.2 rfl rfl rfl rfl rfl (MM.w (i:=0) rfl rfl) G0 IT g4 rfl (λh9=>?_);exact wa rfl (Aw (Bu (A4 (Ba (Cn (H2:=[.blk b2 [Aq (max ha.fDepth ((hd.length:Int)+1)),Aq (IntKind.wrap .i64 (ha.fBytes+hg)),rB (ha.fOutside||((decide (((Aj v hb).fKind)=3))&&(!(ov (Bl ((Aj v hb).fInt)))))),rB (ha.fLong||(decide (200<(((Aj v hb).fStr).length:Int))))] 128,.blk b1 [Aq 0,Aq 0,rB false,rB false] 128,.row h9 152 5 (AD Av (hd++([(Ax.mk (decide (((Aj v hb).fKind)=6)) ((Aj v hb).fN) (decide (((Aj v hb).fKind)=6)) ([]:Ak) false)]:List Ax))),.row (.slice (some ⟨g3,0,none⟩) 1 1) 152 5 (AD Av ([(Ax.mk (decide (((Aj v hb).fKind)=6)) ((Aj v hb).fN) (decide (((Aj v hb).fKind)=6)) ([]:Ak) false)]:List Ax)),.blk hf (Ad (Aj v hb)) 89]) ((Ar (i:=3) rfl).trans (Uf _ ((Ar (i:=3) rfl).trans (Uf _ (Ug _))))) (A5 (AE ((hd++([(Ax.mk (decide (((Aj v hb).fKind)=6)) ((Aj v hb).fN) (decide (((Aj v hb).fKind)=6)) ([]:Ak) false)]:List Ax),(A6.mk (max ha.fDepth ((hd.length:Int)+1)) (IntKind.wrap .i64 (ha.fBytes+hg)) (ha.fOutside||((decide (((Aj v hb).fKind)=3))&&(!(ov (Bl ((Aj v hb).fInt)))))) (ha.fLong||(decide (200<(((Aj v hb).fStr).length:Int)))))),h9) g5 (AF.c rfl (AF.c rfl (AF.c5 rfl rfl rfl rfl rfl AF.nil))) (sC (sC (sC (sS (sS sN))))))))))))
      ·refine A0 (AQ (Al (wm rfl (ob gy λhw g6 g7=>Gw (Hr:=[.blk hf (Ad (Aj v hb)) 89,.blk b2 [Aq (max ha.fDepth ((hd.length:Int)+1)),Aq (IntKind.wrap .i64 (ha.fBytes+hg)),rB (ha.fOutside||((decide (((Aj v hb).fKind)=3))&&(!(ov (Bl ((Aj v hb).fInt)))))),rB (ha.fLong||(decide (200<(((Aj v hb).fStr).length:Int))))] 128,.blk b1 [Aq 0,Aq 0,rB false,rB false] 128]) Tryz.call114 (Or F he hd hw g6) rfl ((Ar (i:=3) rfl).trans (Uf _ (Ug _))) rfl ?_))));rintro _ _ ⟨hz,rfl,rfl⟩;refine wa rfl (BW (wm rfl (wv (BF (ys:=hw) (enc:=Av) (i:=0) Gv rfl rfl) (wv (Bj rfl rfl) (Aw (cz g7 rfl (λg8 g9=>?_) (λg8 gA=>?_)))))))
       ·refine At (ck g9 λgB gC=>G9 (H1:=[.row hz 152 5 (AD Av hw),.blk hf (Ad (Aj v hb)) 89,.blk b2 [Aq (max ha.fDepth ((hd.length:Int)+1)),Aq (IntKind.wrap .i64 (ha.fBytes+hg)),rB (ha.fOutside||((decide (((Aj v hb).fKind)=3))&&(!(ov (Bl ((Aj v hb).fInt)))))),rB (ha.fLong||(decide (200<(((Aj v hb).fStr).length:Int))))] 128,.blk b1 [Aq (max ha.fDepth ((hd.length:Int)+1)),Aq (IntKind.wrap .i64 (ha.fBytes+hg)),rB (ha.fOutside||((decide (((Aj v hb).fKind)=3))&&(!(ov (Bl ((Aj v hb).fInt)))))),rB (ha.fLong||(decide (200<(((Aj v hb).fStr).length:Int))))] 128]) [3,5,7] [⟨[],Aq hb,0⟩,⟨[0],Aq (hb+1),0⟩,⟨[],Bf [Aq (max ha.fDepth ((hd.length:Int)+1)),Aq (IntKind.wrap .i64 (ha.fBytes+hg)),rB (ha.fOutside||((decide (((Aj v hb).fKind)=3))&&(!(ov (Bl ((Aj v hb).fInt)))))),rB (ha.fLong||(decide (200<(((Aj v hb).fStr).length:Int))))],1⟩,⟨[1],Aq (hb+1),0⟩,⟨[2],rv undef,2⟩,⟨[],rB true,0⟩] (rle [(5,_),(2,[.row hz 152 5 (AD Av hw),.blk hf (Ad (Aj v hb)) 89,.blk b2 [Aq (max ha.fDepth ((hd.length:Int)+1)),Aq (IntKind.wrap .i64 (ha.fBytes+hg)),rB (ha.fOutside||((decide (((Aj v hb).fKind)=3))&&(!(ov (Bl ((Aj v hb).fInt)))))),rB (ha.fLong||(decide (200<(((Aj v hb).fStr).length:Int))))] 128,.blk b1 [Aq (max ha.fDepth ((hd.length:Int)+1)),Aq (IntKind.wrap .i64 (ha.fBytes+hg)),rB (ha.fOutside||((decide (((Aj v hb).fKind)=3))&&(!(ov (Bl ((Aj v hb).fInt)))))),rB (ha.fLong||(decide (200<(((Aj v hb).fStr).length:Int))))] 128])]) [2,4,3] ?_ ?_)
        ·refine oq (A3 rfl) (oq (Bt rfl rfl gB) (of (Bo (i:=2) He Ed rfl rfl rfl rfl) (oq (AK rfl) (JM rfl (Mi (CL (i:=3) Ed rfl rfl rfl (BV.c rfl) rfl rfl (cs':=[Aq (max ha.fDepth ((hd.length:Int)+1)),Aq (IntKind.wrap .i64 (ha.fBytes+hg)),rB (ha.fOutside||((decide (((Aj v hb).fKind)=3))&&(!(ov (Bl ((Aj v hb).fInt)))))),rB (ha.fLong||(decide (200<(((Aj v hb).fStr).length:Int))))]) rfl (H':=[.row hz 152 5 (AD Av hw),.blk hf (Ad (Aj v hb)) 89,.blk b2 [Aq (max ha.fDepth ((hd.length:Int)+1)),Aq (IntKind.wrap .i64 (ha.fBytes+hg)),rB (ha.fOutside||((decide (((Aj v hb).fKind)=3))&&(!(ov (Bl ((Aj v hb).fInt)))))),rB (ha.fLong||(decide (200<(((Aj v hb).fStr).length:Int))))] 128,.blk b1 [Aq (max ha.fDepth ((hd.length:Int)+1)),Aq (IntKind.wrap .i64 (ha.fBytes+hg)),rB (ha.fOutside||((decide (((Aj v hb).fKind)=3))&&(!(ov (Bl ((Aj v hb).fInt)))))),rB (ha.fLong||(decide (200<(((Aj v hb).fStr).length:Int))))] 128]) rfl)) ?_))));refine oq (AK rfl) ?_;exact EW
        refine AQ (Az (A9 (Af (Af (Bi ?_)))));have gD:=BC gC hx hy;refine A9 (Af (HE ?_));obtain rfl:=A2 gD;exact Ay (SU Px (AT rfl) (J8 (i:=3) He Ed rfl rfl rfl) (AT rfl)) (sS (sS (sS (sS sN)))) ⟨rfl,rfl⟩
       ·exact A0 (AO (Cn (H2:=[.blk b2 [Aq (max ha.fDepth ((hd.length:Int)+1)),Aq (IntKind.wrap .i64 (ha.fBytes+hg)),rB (ha.fOutside||((decide (((Aj v hb).fKind)=3))&&(!(ov (Bl ((Aj v hb).fInt)))))),rB (ha.fLong||(decide (200<(((Aj v hb).fStr).length:Int))))] 128,.blk b1 [Aq 0,Aq 0,rB false,rB false] 128,.row hz 152 5 (AD Av hw),.blk hf (Ad (Aj v hb)) 89]) ((Ar (i:=2) rfl).trans (Uf _ ((Ar (i:=2) rfl).trans (Uf _ (Ug _))))) (A5 (AE ((hw,(A6.mk (max ha.fDepth ((hd.length:Int)+1)) (IntKind.wrap .i64 (ha.fBytes+hg)) (ha.fOutside||((decide (((Aj v hb).fKind)=3))&&(!(ov (Bl ((Aj v hb).fInt)))))) (ha.fLong||(decide (200<(((Aj v hb).fStr).length:Int)))))),hz) gA (AF.c rfl (AF.c rfl (AF.c5 rfl rfl rfl rfl rfl AF.nil))) (sC (sC (sC (sS sN))))))))
   ·rintro⟨⟨h6,h7⟩,h8⟩ h2;refine Ca (l':=[(0,AY 4 (AD Ad v)),(3,rP b1 0),(5,rP b2 0),(6,rv h8),(11,AY 4 (AD Ad v)),(12,Aq (v.length:Int)),(13,Aq hb)]) (H':=[.blk b2 (AL h7) 128,.blk b1 [Aq 0,Aq 0,rB false,rB false] 128,.row h8 152 5 (AD Av h6)]) rfl rfl ?_;replace h2:Ds hb h6 h7=some h4:=h2;unfold Ds at h2;refine An (ck h2 λgE gF=>wv (Bt rfl rfl gE) (wm rfl (Am ?_)));have gG:=Be gF hx;exact A5 (AE (hD,(h6,hb+1,h7),h8) ⟨gG,Ur _⟩ (AF.c rfl (AF.c rfl (AF.c5 rfl rfl rfl rfl rfl AF.nil))) (sC (sC (sC sN))))
  ·refine Bu (A4 ?_);have gH:=BY hH hx hy;exact A4 (Bb (AE (ha,()) gH (AF.c rfl (AF.c rfl AF.nil)) (sC (sC (sS sN)))))
 ·rintro⟨hq,⟨⟩⟩ h3;refine C7 (l':=[(3,rP b1 0),(5,rP b2 0)]) (H':=[.blk b2 (AL hq) 128,.blk b1 [Aq 0,Aq 0,rB false,rB false] 128]) rfl rfl ?_;replace h3:HH hq=some r:=h3;unfold HH at h3;refine Ba (AQ (At (G9 (H1:=[.blk b2 (AL hq) 128,.blk b1 (AL hq) 128]) [3,5] [⟨[],Bf (AL hq),1⟩,⟨[],Aq 0,0⟩,⟨[0],rv undef,2⟩,⟨[],rB false,0⟩] (rle [(3,_),(2,[.blk b2 (AL hq) 128,.blk b1 (AL hq) 128])]) [2,4,3] ?_ ?_)))
  ·refine of (Bo (i:=0) He Ed rfl rfl rfl rfl) (oq (AK rfl) (JM rfl (Mi (CL (i:=1) Ed rfl rfl rfl (BV.c rfl) rfl rfl (cs':=[Aq hq.fDepth,Aq hq.fBytes,rB hq.fOutside,rB hq.fLong]) rfl (H':=[.blk b2 (AL hq) 128,.blk b1 (AL hq) 128]) rfl)) ?_));refine oq (AK rfl) ?_;exact EW
  refine AQ (Az (HE ?_));obtain rfl:=A2 h3;exact Ay (SU Px (AT rfl) (J8 (i:=1) He Ed rfl rfl rfl) (AT rfl)) (sS (sS sN)) ⟨rfl,rfl⟩
theorem P8 (F:Nat)(v:(List Ac))(r:Int)(h:J0 F v=some r):Fn Tryz.prog GE 63 [AY 4 (AD Ad v)] [] (λR H=>R=Aq r∧H=[]):=by
 refine enter (n:=42) Tryz.func63 rfl Tryz.ntmps63 rfl (λw Z=>?_);unfold J0 at h;refine Al (wa rfl (BW (wm rfl (ob h λr1 e3 h2=>CS Tryz.call88 (Ri F v r1 e3) rfl (wm rfl (wv (Bp rfl rfl) (wv (Bp rfl rfl) (wv (Bp rfl rfl) (CO (cs:=[Aq 0,Aq 0,rB false,rB false]) Tryz.zeroValue128 rfl rfl (λb4=>?_))))))))));refine wa rfl (BJ (i:=0) Ed rfl rfl rfl (BV.c rfl) rfl rfl (cs':=[Aq r1.2.1.fDepth,Aq r1.2.1.fBytes,rB r1.2.1.fOutside,rB r1.2.1.fLong]) rfl (H':=[.blk b4 (AL r1.2.1) 128]) rfl (wa rfl (Aw (At (AJ (AA [(0,AY 4 (AD Ad v)),(4,rP b4 0),(12,rB ((!r1.2.2)||(!decide (r1.1=(v.length:Int)))))] [.blk b4 (AL r1.2.1) 128] ?_ ?_))))))
 ·refine An (wm rfl (wv (BD rfl) (wm rfl (AH (!r1.2.2) (λc5=>?_) (λc5=>?_)))))
  ·refine wf c5 (wf c5 (wf c5 (wf c5 (wv (r:=rB true) (Ao rfl c5 rfl) (wa rfl (Am ?_))))));exact BA c5
  ·refine wo c5 (wm rfl (wo c5 (wm rfl (wo c5 (wv (B1 (ys:=v) (enc:=Ad) CR rfl) (wo c5 (wv (Eb rfl rfl) (DT rfl c5 rfl (wa rfl (Am ?_))))))))));exact BA c5
 refine cz h2 rfl (λc6 h7=>?_) (λc6 h8=>?_)
 ·refine Al (wa rfl (Aw (Az (A9 (Af ?_)))));obtain rfl:=A2 h7;exact Ay (Bw QX (AT rfl)) (sS sN) ⟨rfl,rfl⟩
 ·refine Al (vF Dy rfl ED (vL 0 L9 rfl (wa rfl (Aw (cz h8 rfl (λc9 he=>?_) (λc9 hf=>?_))))))
  ·refine Al (wa rfl (Aw (Az (A9 (Af ?_)))));obtain rfl:=A2 he;exact Ay (Bw QX (AT rfl)) (sS sN) ⟨rfl,rfl⟩
  ·refine AA [(24,rB (r1.2.1.fLong||((decide (200<(v.length:Int)))||((decide (8<r1.2.1.fDepth))||(decide (4000<r1.2.1.fBytes))))))] [] ?_ ?_
   ·refine An (vF Dy rfl ED (vL 0 L9 rfl (wm rfl (AH (r1.2.1.fLong) (λha=>?_) (λha=>?_)))))
    ·refine wf ha (wf ha (wf ha (wv (r:=rB true) (Ao rfl ha rfl) (wm rfl (wz rfl rfl (wz rfl rfl (wz rfl rfl (wv (r:=rB true) (Ao (b:=true) rfl rfl rfl) (wm rfl (wz rfl rfl (wz rfl rfl (wz rfl rfl (wv (r:=rB true) (Ao (b:=true) rfl rfl rfl) (wa rfl (Am ?_)))))))))))))));exact BA ha
    ·refine wo ha (wm rfl (wo ha (wv (B1 (ys:=v) (enc:=Ad) CR rfl) (wo ha (wv (Dl rfl rfl) (DT rfl ha rfl (wm rfl (AH (decide (200<(v.length:Int))) (λhb=>?_) (λhb=>?_)))))))))
     ·refine wf hb (wf hb (wf hb (wv (r:=rB true) (Ao rfl hb rfl) (wm rfl (wz rfl rfl (wz rfl rfl (wz rfl rfl (wv (r:=rB true) (Ao (b:=true) rfl rfl rfl) (wa rfl (Am ?_))))))))));exact BA (And.intro ha hb)
     ·refine wo hb (vF Dy rfl Cv (wo hb (vL 0 CC rfl (wo hb (wv (Dl rfl rfl) (DT rfl hb rfl (wm rfl (AH (decide (8<r1.2.1.fDepth)) (λhd=>?_) (λhd=>?_)))))))))
      ·refine wf hd (wf hd (wf hd (wv (r:=rB true) (Ao rfl hd rfl) (wa rfl (Am ?_)))));exact BA (And.intro ha (And.intro hb hd))
      ·refine wo hd (vF Dy rfl Cv (wo hd (vL 0 CC rfl (wo hd (wv (Dl rfl rfl) (DT rfl hd rfl (wa rfl (Am ?_))))))));exact BA (And.intro ha (And.intro hb hd))
   refine cz hf rfl (λhg hh=>?_) (λhg hi=>?_)
   ·refine Al (wa rfl (Aw (Az (A9 (Af ?_)))));obtain rfl:=A2 hh;exact Ay (Bw QX (AT rfl)) sN ⟨rfl,rfl⟩
   ·refine A0 (AO (AQ (Al (wa rfl (Aw (Az ?_))))));obtain rfl:=A2 hi;exact Ay (Bw QX (AT rfl)) sN ⟨rfl,rfl⟩
end Go.Proofs.YtmmbdclkpijkpaaGreatDoor.Q
namespace Go.Proofs.YtmmbdclkpijkpaaGreatDoor
open Go
set_option linter.unusedVariables false
end Go.Proofs.YtmmbdclkpijkpaaGreatDoor
namespace Go.Proofs.YtmmbdclkpijkpaaGreatDoor.Q
open Go Go.RowKit
set_option linter.unusedVariables false
set_option linter.unusedSimpArgs false
set_option maxRecDepth 100000
set_option maxHeartbeats 4000000
end Go.Proofs.YtmmbdclkpijkpaaGreatDoor.Q
namespace Go.Proofs.YtmmbdclkpijkpaaGreatDoor
open Go
set_option linter.unusedVariables false
end Go.Proofs.YtmmbdclkpijkpaaGreatDoor
namespace Go.Proofs.YtmmbdclkpijkpaaGreatDoor.Q
open Go Go.RowKit
set_option linter.unusedVariables false
set_option linter.unusedSimpArgs false
set_option maxRecDepth 100000
set_option maxHeartbeats 4000000
end Go.Proofs.YtmmbdclkpijkpaaGreatDoor.Q
namespace Go.Proofs.YtmmbdclkpijkpaaGreatDoor
open Go
set_option linter.unusedVariables false
end Go.Proofs.YtmmbdclkpijkpaaGreatDoor
namespace Go.Proofs.YtmmbdclkpijkpaaGreatDoor.Q
open Go Go.RowKit
set_option linter.unusedVariables false
set_option linter.unusedSimpArgs false
set_option maxRecDepth 100000
set_option maxHeartbeats 4000000
end Go.Proofs.YtmmbdclkpijkpaaGreatDoor.Q
namespace Go.Proofs.YtmmbdclkpijkpaaGreatDoor
open Go
set_option linter.unusedVariables false
end Go.Proofs.YtmmbdclkpijkpaaGreatDoor
namespace Go.Proofs.YtmmbdclkpijkpaaGreatDoor.Q
open Go Go.RowKit
set_option linter.unusedVariables false
set_option linter.unusedSimpArgs false
set_option maxRecDepth 100000
set_option maxHeartbeats 4000000
end Go.Proofs.YtmmbdclkpijkpaaGreatDoor.Q
namespace Go.Proofs.YtmmbdclkpijkpaaGreatDoor
open Go
set_option linter.unusedVariables false
set_option linter.unusedSimpArgs false
section
variable {T S : Type}
def Bx:List (Ak×T)→Ak→Option T
 | [],_=>none
 | p::r,k=>bif decide (p.1=k) then some p.2 else Bx r k
def AN (xs:List (Ak×T))(k:Ak)(z:T):T:=(Bx xs k).getD z
def DM (xs:List (Ak×T))(k:Ak):Bool:=(Bx xs k).isSome
def mins (k:Ak)(v:T):List (Ak×T)→List (Ak×T)
 | []=>[(k,v)]
 | p::r=>bif Bz k p.1 then(k,v)::p::r else p::mins k v r
def mput (xs:List (Ak×T))(k:Ak)(v:T):List (Ak×T):=xs.map λp=>bif decide (p.1=k) then(k,v) else p
def mset (xs:List (Ak×T))(k:Ak)(v:T):List (Ak×T):=bif DM xs k then mput xs k v else mins k v xs
def mdel (xs:List (Ak×T))(k:Ak):List (Ak×T):=xs.filter λp=>!decide (p.1=k)
def AV (f:T→S)(xs:List (Ak×T)):List (Ak×S):=xs.map λp=>(p.1,f p.2)
theorem GG (f:T→S):∀(xs:List (Ak×T)) (k:Ak),Bx (AV f xs) k=(Bx xs k).map f
 | [],k=>rfl
 | p::r,k=>by
  show(bif decide (p.1=k) then some (f p.2) else Bx (AV f r) k)=_;rw[Bx,GG f r k]
  cases decide (p.1=k)<;>rfl
theorem Qw (f:T→S)(xs:List (Ak×T))(k:Ak):DM (AV f xs) k=DM xs k:=by
 unfold DM;rw[GG];cases Bx xs k<;>rfl
theorem Mt (f:T→S)(k:Ak)(v:T):∀xs:List (Ak×T),AV f (mins k v xs)=mins k (f v) (AV f xs)
 | []=>rfl
 | p::r=>by
  show AV f (bif Bz k p.1 then(k,v)::p::r else p::mins k v r)=(bif Bz k p.1 then(k,f v)::(p.1,f p.2)::AV f r else(p.1,f p.2)::mins k (f v) (AV f r));rw[← Mt f k v r]
  cases Bz k p.1<;>rfl
theorem Qt (f:T→S)(xs:List (Ak×T))(k:Ak)(v:T):AV f (mset xs k v)=mset (AV f xs) k (f v):=by
 unfold mset;rw[Qw]
 cases DM xs k with
 | false=>exact Mt f k v xs
 | true=>
  show AV f (mput xs k v)=mput (AV f xs) k (f v);unfold AV mput;rw[US,US];refine List.map_congr_left λp _=>?_;show _=(bif decide (p.1=k) then(k,f v) else(p.1,f p.2));simp only[Function.comp]
  cases decide (p.1=k)<;>rfl
theorem Qx (f:T→S)(xs:List (Ak×T))(k:Ak):AV f (mdel xs k)=mdel (AV f xs) k:=by
 unfold AV mdel;rw[List.filter_map];rfl
theorem GH (f:T→S)(xs:List (Ak×T)):(AV f xs).length=xs.length:=by simp[AV]
theorem I2 (k:Ak)(v:T):∀xs:List (Ak×T),(mins k v xs).Perm ((k,v)::xs)
 | []=>Ug _
 | p::r=>by
  rw[mins]
  cases Bz k p.1 with
  | true=>exact Ug _
  | false=>exact((I2 k v r).cons p).trans (List.Perm.swap _ _ _)
def Eh (x:T):List T→List (List T)
 | []=>[[x]]
 | y::r=>(x::y::r)::(Eh x r).map (y::·)
def Hl:List T→List (List T)
 | []=>[[]]
 | x::r=>(Hl r).flatMap (Eh x)
theorem IL (x:T):∀(a b:List T),a++x::b∈Eh x (a++b)
 | [],[]=>by simp[Eh]
 | [],y::b=>by simp[Eh]
 | y::a,b=>by
  simp only[UR,Eh,UM,List.mem_map];exact .inr ⟨_,IL x a b,rfl⟩
theorem KC:∀(xs ys:List T),ys.Perm xs→ys∈Hl xs
 | [],ys,h=>by rw[h.eq_nil];simp[Hl]
 | x::r,ys,h=>by
  have hx:x∈ys:=h.symm.subset (List.mem_cons_self ..);obtain⟨a,b,rfl⟩:=List.append_of_mem hx;have h2:(a++b).Perm r:=(List.perm_middle.symm.trans h).cons_inv;simp only[Hl,List.mem_flatMap];exact⟨a++b,KC r _ h2,IL x a b⟩
def OO {R:Type}[DecidableEq R](xs:List T)(K:List T→Option R):Option R:=match K xs with
 | none=>none
 | some r=>bif (Hl xs).all (λp=>decide (K p=some r)) then some r else none
theorem Qv {R:Type}[DecidableEq R]{xs:List T}{K:List T→Option R}{r:R}(h:OO xs K=some r):∀p:List T,p.Perm xs→K p=some r:=λp hp=>by
 unfold OO at h
 cases hk:K xs with
 | none=>rw[hk] at h;cases h
 | some q=>
  rw[hk] at h;simp only at h
  cases ha:(Hl xs).all (λp=>decide (K p=some q)) with
  | false=>rw[ha] at h;cases h
  | true=>
   rw[ha] at h;cases h;exact of_decide_eq_true (List.all_eq_true.1 ha p (KC xs p hp))
theorem EX (x:T):∀(xs ys:List T),ys∈Eh x xs→ys.Perm (x::xs)
 | [],ys,h=>by simp[Eh] at h;rw[h]
 | y::r,ys,h=>by
  simp only[Eh,UM,List.mem_map] at h;rcases h with rfl | ⟨z,hz,rfl⟩
  ·exact Ug _
  ·exact((EX x r z hz).cons y).trans (List.Perm.swap _ _ _)
theorem JK:∀(xs ys:List T),ys∈Hl xs→ys.Perm xs
 | [],ys,h=>by simp[Hl] at h;rw[h]
 | x::r,ys,h=>by
  simp only[Hl,List.mem_flatMap] at h;obtain⟨z,hz,hy⟩:=h;exact(EX x z ys hy).trans ((JK r z hz).cons x)
theorem Qu {R:Type}[DecidableEq R]{xs:List T}{K:List T→Option R}{r:R}(h:∀p:List T,p.Perm xs→K p=some r):OO xs K=some r:=by
 unfold OO;rw[h xs (Ug _)];have:(Hl xs).all (λp=>decide (K p=some r))=true:=List.all_eq_true.2 λp hp=>Ul (h p (JK xs p hp));simp only[this];rfl
def NS {St O:Type}(body:T→St→Option (Stp St (Out O St))):List T→St→Option (Out O St)
 | [],s=>some (.go s)
 | x::r,s=>match body x s with
  | none=>none
  | some (.next s')=>NS body r s'
  | some (.out o)=>some o
def T4 {St R:Type}(body:T→St→Option (Stp St (Out R St)))(ys:List T)(K:St→Option R)(r:R):Stp St (Out R St)→Prop
 | .next s'=>∀q:List T,q.Perm ys→B0 (NS body q s') (B9 K)=some r
 | .out o=>B9 K o=some r
theorem Ti {St R:Type}{body:T→St→Option (Stp St (Out R St))}{ys ys':List T}{p:T}{s:St}{K:St→Option R}{r:R}(h:∀q:List T,q.Perm ys→B0 (NS body q s) (B9 K)=some r)(hp:ys.Perm (p::ys')):∃t,body p s=some t∧T4 body ys' K r t:=by
 have h1:∀q:List T,q.Perm ys'→B0 (NS body (p::q) s) (B9 K)=some r:=λq hq=>h _ ((hq.cons p).trans hp.symm)
 cases hb:body p s with
 | none=>
  have:=h1 ys' (Ug _);rw[NS,hb] at this;cases this
 | some t=>
  refine⟨t,rfl,?_⟩
  cases t with
  | next s'=>
   intro q hq;have:=h1 q hq;rw[NS,hb] at this;exact this
  | out o=>
   have:=h1 ys' (Ug _);rw[NS,hb] at this;exact this
theorem RC {St R:Type}{body:T→St→Option (Stp St (Out R St))}{ys:List T}{s:St}{K:St→Option R}{r:R}(h:∀q:List T,q.Perm ys→B0 (NS body q s) (B9 K)=some r)(hy:ys=[]):K s=some r:=by
 subst hy;exact h [] (Ug _)
theorem OW {St R:Type}{body:T→St→Option (Stp St (Out R St))}{ys:List T}{s':St}{K:St→Option R}{r:R}{t:Stp St (Out R St)}(h:some (Stp.next s')=some t)(ht:T4 body ys K r t):∀q:List T,q.Perm ys→B0 (NS body q s') (B9 K)=some r:=by cases h;exact ht
theorem R1 {ys ys':List T}{p:T}(h:ys.Perm (p::ys')):ys'.length<ys.length:=by rw[h.length_eq];exact Ur _
end
section
variable {T S : Type}
def HP (lt:T→T→Bool)(x:T):List T→List T
 | []=>[x]
 | y::r=>bif lt y x then y::HP lt x r else x::y::r
def srt (lt:T→T→Bool):List T→List T
 | []=>[]
 | x::r=>HP lt x (srt lt r)
theorem EM (lt:T→T→Bool)(x:T):∀xs:List T,(HP lt x xs).Perm (x::xs)
 | []=>Ug _
 | y::r=>by
  rw[HP]
  cases lt y x with
  | true=>exact((EM lt x r).cons y).trans (List.Perm.swap _ _ _)
  | false=>exact Ug _
theorem GA (lt:T→T→Bool):∀xs:List T,(srt lt xs).Perm xs
 | []=>Ug _
 | x::r=>(EM lt x _).trans ((GA lt r).cons x)
def EO (lt:T→T→Bool):List T→Bool
 | []=>true
 | x::r=>r.all (λy=>lt x y||lt y x)&&EO lt r
structure RZ (lt:T→T→Bool):Prop where
 irrefl:∀x,lt x x=false
 ntrans:∀x y z,lt x y=false→lt y z=false→lt x z=false
 asym:∀x y,lt x y=true→lt y x=false
theorem Hx {lt:T→T→Bool}:∀{xs:List T},EO lt xs=true→xs.Pairwise λx y=>(lt x y||lt y x)=true
 | [],_=>List.Pairwise.nil
 | x::r,h=>by
  simp only[EO,Ui,U2] at h;exact List.pairwise_cons.2 ⟨λy hy=>h.1 y hy,Hx h.2⟩
theorem JL {R:T→T→Prop}(hs:∀x y,R x y→R y x):∀{xs:List T},xs.Pairwise R→∀a b,a∈xs→b∈xs→a=b∨R a b
 | [],_,a,b,h,_=>by cases h
 | x::r,h,a,b,ha,hb=>by
  rw[List.pairwise_cons] at h;rcases List.mem_cons.1 ha with e | ha1
  ·rcases List.mem_cons.1 hb with e2 | hb1
   ·exact .inl (e.trans e2.symm)
   ·exact .inr (e▸h.1 b hb1)
  ·rcases List.mem_cons.1 hb with e2 | hb1
   ·exact .inr (hs _ _ (e2▸h.1 a ha1))
   ·exact JL hs h.2 a b ha1 hb1
theorem GB {lt:T→T→Bool}(L:RZ lt)(x:T):∀{xs:List T},(xs.Pairwise λx y=>lt y x=false)→(HP lt x xs).Pairwise λx y=>lt y x=false
 | [],_=>List.pairwise_singleton _ _
 | y::r,h=>by
  rw[List.pairwise_cons] at h;rw[HP]
  cases hy:lt y x with
  | true=>
   refine List.pairwise_cons.2 ⟨λz hz=>?_,GB L x h.2⟩;rcases List.mem_cons.1 ((EM lt x r).subset hz) with e | h1
   ·rw[e];exact L.asym _ _ hy
   ·exact h.1 z h1
  | false=>
   refine List.pairwise_cons.2 ⟨λz hz=>?_,List.pairwise_cons.2 h⟩;rcases List.mem_cons.1 hz with e | h1
   ·rw[e];exact hy
   ·exact L.ntrans _ _ _ (h.1 z h1) hy
theorem Hv {lt:T→T→Bool}(L:RZ lt):∀xs:List T,(srt lt xs).Pairwise λx y=>lt y x=false
 | []=>List.Pairwise.nil
 | x::r=>GB L x (Hv L r)
theorem Nc {lt:T→T→Bool}(L:RZ lt){xs ys:List T}(hd:EO lt xs=true)(hp:ys.Perm xs)(hs:ys.Pairwise λx y=>lt y x=false):ys=srt lt xs:=by
 refine List.Perm.eq_of_pairwise (le:=λx y=>lt y x=false) ?_ hs (Hv L xs) (hp.trans (GA lt xs).symm);intro a b ha hb h2 h3;have hb':b∈xs:=(GA lt xs).subset hb;rcases JL (R:=λx y=>(lt x y||lt y x)=true) (λx y h=>by rw[Bool.or_comm];exact h) (Hx hd) a b (hp.subset ha) hb' with h | h
 ·exact h
 ·rw[h2,h3] at h;cases h
theorem Nd {lt:T→T→Bool}{xs ys:List T}(hd:EO lt xs=true)(hp:ys.Perm xs):EO lt ys=true:=by
 have h1:=(hp.symm.pairwise_iff (R:=λx y=>(lt x y||lt y x)=true) (fun {x y} h=>by rw[Bool.or_comm];exact h)).1 (Hx hd);clear hd hp
 induction ys with
 | nil=>rfl
 | cons x r ih=>
  rw[List.pairwise_cons] at h1;simp only[EO,Ui,U2];exact⟨h1.1,ih h1.2⟩
theorem Oy {lt:T→T→Bool}(L:RZ lt){xs ys:List T}(hd:EO lt xs=true)(hp:ys.Perm xs):srt lt ys=srt lt xs:=Nc L hd ((GA lt ys).trans hp) (Hv L ys)
inductive All2 (R:T→S→Prop):List T→List S→Prop
 | nil:All2 R [] []
 | cons {x y xs ys}:R x y→All2 R xs ys→All2 R (x::xs) (y::ys)
theorem All2.length {R:T→S→Prop}{xs:List T}{ys:List S}(h:All2 R xs ys):xs.length=ys.length:=by
 induction h with
 | nil=>rfl
 | cons _ _ ih=>simp[ih]
theorem All2.perm {R:T→S→Prop}{ys zs:List S}(hp:ys.Perm zs):∀{xs:List T},All2 R xs ys→∃xs',xs'.Perm xs∧All2 R xs' zs:=by
 induction hp with
 | nil=>intro xs h;exact⟨xs,Ug _,h⟩
 | cons a _ ih=>
  intro xs h
  cases h with
  | cons h1 h2=>obtain⟨x',p,h3⟩:=ih h2;exact⟨_,p.cons _,.cons h1 h3⟩
 | swap a b l=>
  intro xs h
  cases h with
  | cons h1 h2=>cases h2 with
   | cons h3 h4=>exact⟨_,List.Perm.swap _ _ _,.cons h3 (.cons h1 h4)⟩
 | trans _ _ ih1 ih2=>
  intro xs h;obtain⟨x1,p1,h1⟩:=ih1 h;obtain⟨x2,p2,h2⟩:=ih2 h1;exact⟨x2,p2.trans p1,h2⟩
theorem All2.pairwise {R:T→S→Prop}{p:T→T→Prop}{q:S→S→Prop}(hpq:∀x x' y y',R x y→R x' y'→q y y'→p x x'){xs:List T}{ys:List S}(h:All2 R xs ys):ys.Pairwise q→xs.Pairwise p:=by
 have key:∀{xs:List T} {ys:List S},All2 R xs ys→∀x∈xs,∃y∈ys,R x y:=fun {xs ys} h=>by
  induction h with
  | nil=>intro x hx;cases hx
  | cons h1 _ ih=>
   intro x hx;rcases List.mem_cons.1 hx with rfl | hx
   ·exact⟨_,List.mem_cons_self ..,h1⟩
   ·obtain⟨y,hy,hr⟩:=ih x hx;exact⟨y,List.mem_cons_of_mem _ hy,hr⟩
 induction h with
 | nil=>intro _;exact List.Pairwise.nil
 | cons h1 h2 ih=>
  intro hq;rw[List.pairwise_cons] at hq ⊢;refine⟨λx' hx'=>?_,ih hq.2⟩;obtain⟨y',hy',hr⟩:=key h2 x' hx';exact hpq _ _ _ _ h1 hr (hq.1 y' hy')
end
theorem Hw:∀a:Ak,Bz a a=false
 | []=>rfl
 | x::a=>by
  show Op.bytesLess (x::a) (x::a)=false;have h : ¬ x<x:=λh=>absurd h (by simp);have ih:Op.bytesLess a a=false:=Hw a;simp[Op.bytesLess,h,ih]
theorem Lb (x y:UInt8)(a b:Ak):Bz (x::a) (y::b)=(decide (x<y)||(decide (x=y)&&Bz a b)):=by
 show Op.bytesLess (x::a) (y::b)=_;simp only[Op.bytesLess]
 by_cases h:x<y
 ·simp[h]
 ·by_cases e:x=y
  ·subst e;simp[h]
  ·have:y<x:=by
    rcases Nat.lt_trichotomy x.toNat y.toNat with h1 | h1 | h1
    ·exact absurd (UInt8.lt_iff_toNat_lt.2 h1) h
    ·exact absurd (UInt8.toNat_inj.1 h1) e
    ·exact UInt8.lt_iff_toNat_lt.2 h1
   simp[h,e,this]
theorem EL:∀{a b c:Ak},Bz a b=true→Bz b c=true→Bz a c=true
 | [],[],_,h,_=>by cases h
 | [],_::_,[],_,h=>by cases h
 | [],_::_,_::_,_,_=>rfl
 | _::_,[],_,h,_=>by cases h
 | _::_,_::_,[],_,h=>by cases h
 | x::a,y::b,z::c,h,h'=>by
  rw[Lb] at h h' ⊢;simp only[UC,Ud,Ui] at h h' ⊢;have t:∀{u v:UInt8},u<v↔u.toNat<v.toNat:=UInt8.lt_iff_toNat_lt;rcases h with h | ⟨rfl,h⟩
  ·rcases h' with h' | ⟨rfl,h'⟩
   ·exact .inl (t.2 (Nat.lt_trans (t.1 h) (t.1 h')))
   ·exact .inl h
  ·rcases h' with h' | ⟨rfl,h'⟩
   ·exact .inl h'
   ·exact .inr ⟨rfl,EL h h'⟩
theorem HO:∀(a b:Ak),Bz a b=true∨a=b∨Bz b a=true
 | [],[]=>.inr (.inl rfl)
 | [],_::_=>.inl rfl
 | _::_,[]=>.inr (.inr rfl)
 | x::a,y::b=>by
  rw[Lb,Lb];simp only[UC,Ud,Ui];rcases Nat.lt_trichotomy x.toNat y.toNat with h1 | h1 | h1
  ·exact .inl (.inl (UInt8.lt_iff_toNat_lt.2 h1))
  ·have e:=UInt8.toNat_inj.1 h1;subst e;rcases HO a b with h | rfl | h
   ·exact .inl (.inr ⟨rfl,h⟩)
   ·exact .inr (.inl rfl)
   ·exact .inr (.inr (.inr ⟨rfl,h⟩))
  ·exact .inr (.inr (.inl (UInt8.lt_iff_toNat_lt.2 h1)))
theorem PK {a b:Ak}(h:Bz a b=true):Bz b a=false:=by
 cases h':Bz b a with
 | false=>rfl
 | true=>have:=EL h h';rw[Hw] at this;cases this
theorem SZ {a b:Ak}(h:Bz a b=true):a≠b:=λe=>by subst e;rw[Hw] at h;cases h
section
variable {T : Type}
def Ms (xs:List (Ak×T)):Prop:=xs.Pairwise λp q=>Bz p.1 q.1=true
theorem Ms.nil:Ms ([]:List (Ak×T)):=List.Pairwise.nil
theorem Ms.nodup {xs:List (Ak×T)}(h:Ms xs):(xs.map (·.1)).Nodup:=by
 rw[List.Nodup,List.pairwise_map];exact h.imp λhpq=>SZ hpq
theorem Gn {xs:List (Ak×T)}{k:Ak}:Bx xs k=none↔∀p∈xs,p.1≠k:=by
 induction xs with
 | nil=>simp[Bx]
 | cons p r ih=>
  rw[Bx]
  by_cases h:p.1=k
  ·rw[Ul h];simp[h]
  ·rw[Uh h];simp[h,ih]
theorem DV {xs:List (Ak×T)}{k:Ak}{v:T}(h:Bx xs k=some v):(k,v)∈xs:=by
 induction xs with
 | nil=>cases h
 | cons p r ih=>
  rw[Bx] at h
  by_cases e:p.1=k
  ·rw[Ul e] at h;cases h;subst e;exact List.mem_cons_self ..
  ·rw[Uh e] at h;exact List.mem_cons_of_mem _ (ih h)
theorem GF {xs:List (Ak×T)}{k:Ak}{v:T}(hn:(xs.map (·.1)).Nodup)(h:(k,v)∈xs):Bx xs k=some v:=by
 induction xs with
 | nil=>cases h
 | cons p r ih=>
  rw[UH,List.nodup_cons] at hn;rw[Bx];rcases List.mem_cons.1 h with h | h
  ·subst h;rw[Ul rfl];rfl
  ·have hne : ¬ p.1=k:=λe=>hn.1 (by rw[e];exact List.mem_map.2 ⟨(k,v),h,rfl⟩);rw[Uh hne];exact ih hn.2 h
theorem OS (xs:List (Ak×T))(k k':Ak)(v:T):Bx (mput xs k v) k'=bif decide (k'=k) then(Bx xs k).map (λ_=>v) else Bx xs k':=by
 induction xs with
 | nil=>cases decide (k'=k)<;>rfl
 | cons p r ih=>
  show Bx ((bif decide (p.1=k) then(k,v) else p)::mput r k v) k'=_
  by_cases h:p.1=k
  ·rw[Ul h];simp only[Ut,Bx]
   by_cases e:k'=k
   ·subst e;rw[Ul rfl,h,Ul rfl];rfl
   ·rw[Uh (Ne.symm e),Uh e,ih,Uh e,h,Uh (Ne.symm e)];rfl
  ·rw[Uh h];simp only[Un,Bx];rw[ih]
   by_cases e:k'=k
   ·subst e;rw[Ul rfl,Uh h];rfl
   ·rw[Uh e]
    cases decide (p.1=k')<;>rfl
theorem OT (xs:List (Ak×T))(k k':Ak)(v:T)(h:Bx xs k=none):Bx (mins k v xs) k'=bif decide (k'=k) then some v else Bx xs k':=by
 induction xs with
 | nil=>
  show(bif decide (k=k') then some v else none)=bif decide (k'=k) then some v else none
  by_cases e:k'=k
  ·rw[Ul e,Ul e.symm]
  ·rw[Uh e,Uh (Ne.symm e)]
 | cons p r ih=>
  rw[Bx] at h
  by_cases hk:p.1=k
  ·rw[Ul hk] at h;cases h
  ·rw[Uh hk] at h;rw[mins]
   cases Bz k p.1 with
   | true=>
    simp only[Ut,Bx]
    by_cases e:k'=k
    ·subst e;rw[Ul rfl]
     try rfl
    ·rw[Uh e,Uh (Ne.symm e)]
     try rfl
   | false=>
    simp only[Un,Bx];rw[ih h]
    by_cases e:k'=k
    ·subst e;rw[Ul rfl,Uh hk];rfl
    ·rw[Uh e]
     cases decide (p.1=k')<;>rfl
theorem OR (xs:List (Ak×T))(k k':Ak)(v:T):Bx (mset xs k v) k'=bif decide (k'=k) then some v else Bx xs k':=by
 unfold mset DM
 cases h:Bx xs k with
 | none=>exact OT xs k k' v h
 | some w=>
  simp only[Option.isSome_some,Ut];rw[OS,h]
  cases decide (k'=k)<;>rfl
theorem Mv {k:Ak}{v:T}{q:Ak×T}:∀{xs:List (Ak×T)},q∈mins k v xs→q=(k,v)∨q∈xs
 | [],h=>by simp[mins] at h;exact .inl h
 | p::r,h=>by
  rw[mins] at h
  cases hs:Bz k p.1 with
  | true=>rw[hs] at h;simpa using h
  | false=>
   rw[hs] at h;rcases List.mem_cons.1 h with h | h
   ·exact .inr (by rw[h];exact List.mem_cons_self ..)
   ·rcases Mv h with h | h
    ·exact .inl h
    ·exact .inr (List.mem_cons_of_mem _ h)
theorem Ms.mins {k:Ak}{v:T}:∀{xs:List (Ak×T)},Ms xs→Bx xs k=none→Ms (mins k v xs)
 | [],_,_=>List.pairwise_singleton ..
 | p::r,h,hk=>by
  obtain⟨h1,h2⟩:=List.pairwise_cons.1 h;rw[Bx] at hk
  by_cases e:p.1=k
  ·rw[Ul e] at hk;cases hk
  ·rw[Uh e] at hk;rw[Proofs.YtmmbdclkpijkpaaGreatDoor.mins]
   cases hs:Bz k p.1 with
   | true=>exact List.pairwise_cons.2 ⟨λq hq=>by
     rcases List.mem_cons.1 hq with rfl | hq
     ·exact hs
     ·exact EL hs (h1 q hq),h⟩
   | false=>
    have hp:Bz p.1 k=true:=by
     rcases HO p.1 k with h | h | h
     ·exact h
     ·exact absurd h e
     ·rw[h] at hs;cases hs
    exact List.pairwise_cons.2 ⟨λq hq=>by
     rcases Mv hq with rfl | hq
     ·exact hp
     ·exact h1 q hq,Ms.mins h2 hk⟩
theorem Ms.mput {xs:List (Ak×T)}(h:Ms xs)(k:Ak)(v:T):Ms (mput xs k v):=by
 unfold Proofs.YtmmbdclkpijkpaaGreatDoor.mput;unfold Ms;rw[List.pairwise_map];refine h.imp fun {p q} hpq=>?_;have e:∀p:Ak×T,(bif decide (p.1=k) then(k,v) else p).1=p.1:=λp=>by
  by_cases hp:p.1=k
  ·rw[Ul hp];exact hp.symm
  ·rw[Uh hp];rfl
 rw[e,e];exact hpq
theorem Ms.mset {xs:List (Ak×T)}(h:Ms xs)(k:Ak)(v:T):Ms (mset xs k v):=by
 unfold Proofs.YtmmbdclkpijkpaaGreatDoor.mset DM
 cases hk:Bx xs k with
 | none=>exact h.mins hk
 | some w=>exact h.mput k v
theorem Ms.mdel {xs:List (Ak×T)}(h:Ms xs)(k:Ak):Ms (mdel xs k):=h.sublist (List.filter_sublist ..)
theorem Ms.ext:∀{xs ys:List (Ak×T)},Ms xs→Ms ys→(∀k,Bx xs k=Bx ys k)→xs=ys
 | [],[],_,_,_=>rfl
 | [],q::s,_,_,h=>by
  have:=h q.1;rw[Bx,Bx,Ul rfl] at this;cases this
 | p::r,[],_,_,h=>by
  have:=h p.1;rw[Bx,Bx,Ul rfl] at this;cases this
 | p::r,q::s,hx,hy,h=>by
  obtain⟨x1,x2⟩:=List.pairwise_cons.1 hx;obtain⟨y1,y2⟩:=List.pairwise_cons.1 hy;have hpq:p.1=q.1:=by
   have a1:=h p.1;have a2:=h q.1;rw[Bx,Ul rfl] at a1;rw[show Bx (q::s) q.1=bif decide (q.1=q.1) then some q.2 else Bx s q.1 from rfl,Ul rfl] at a2;simp only[Ut] at a1 a2;have m1:=DV a1.symm;have m2:=DV a2;rcases List.mem_cons.1 m1 with e | m1
   ·exact congrArg Prod.fst e
   ·rcases List.mem_cons.1 m2 with e | m2
    ·exact(congrArg Prod.fst e).symm
    ·have c1:=y1 _ m1;have c2:=x1 _ m2;have:=EL c1 c2;rw[Hw] at this;cases this
  have e:p=q:=by
   have a1:=h p.1;rw[Bx,Ul rfl,Bx,Ul hpq.symm] at a1;simp only[Ut,Option.some.injEq] at a1;exact Prod.ext hpq a1
  subst e;rw[Ms.ext x2 y2 λk=>by
   have a1:=h k;rw[Bx,Bx] at a1
   by_cases e:p.1=k
   ·have n1:Bx r k=none:=Gn.2 λz hz e'=>by have:=x1 z hz;rw[e',← e,Hw] at this;cases this
    have n2:Bx s k=none:=Gn.2 λz hz e'=>by have:=y1 z hz;rw[e',← e,Hw] at this;cases this
    rw[n1,n2]
   ·rw[Uh e] at a1;exact a1]
end
def CQ (n1 n2:Int)(s1 s2:Ak):Bool:=decide (n1<n2)||(decide (n1=n2)&&Bz s1 s2)
theorem KF {n1 n2:Int}{s1 s2:Ak}:CQ n1 n2 s1 s2=true↔n1<n2∨(n1=n2∧Bz s1 s2=true):=by
 unfold CQ;simp
theorem Jj {n1 n2:Int}{s1 s2:Ak}:CQ n1 n2 s1 s2=false↔¬ n1<n2∧(n1=n2→Bz s1 s2=false):=by
 unfold CQ;simp
theorem KE (n:Int)(s:Ak):CQ n n s s=false:=Jj.2 ⟨Int.lt_irrefl n,λ_=>Hw s⟩
theorem Oz {a b c:Ak}(h1:Bz a b=false)(h2:Bz b c=false):Bz a c=false:=by
 cases h:Bz a c with
 | false=>rfl
 | true=>
  rcases HO a b with h3 | h3 | h3
  ·rw[h3] at h1;cases h1
  ·subst h3;rw[h] at h2;cases h2
  ·have:=EL h3 h;rw[this] at h2;cases h2
theorem Ii {n1 n2 n3:Int}{s1 s2 s3:Ak}(h1:CQ n1 n2 s1 s2=false)(h2:CQ n2 n3 s2 s3=false):CQ n1 n3 s1 s3=false:=by
 rw[Jj] at *;refine⟨by omega,λe=>?_⟩;have e1:n1=n2:=by omega
 have e2:n2=n3:=by omega
 exact Oz (h1.2 e1) (h2.2 e2)
theorem My {n1 n2 n3:Int}{s1 s2 s3:Ak}(h1:CQ n1 n2 s1 s2=true)(h2:CQ n2 n3 s2 s3=true):CQ n1 n3 s1 s3=true:=by
 rw[KF] at *;rcases h1 with h1 | ⟨e1,h1⟩
 ·rcases h2 with h2 | ⟨e2,h2⟩
  ·exact .inl (by omega)
  ·exact .inl (by omega)
 ·rcases h2 with h2 | ⟨e2,h2⟩
  ·exact .inl (by omega)
  ·exact .inr ⟨by omega,EL h1 h2⟩
theorem Nq {n1 n2:Int}{s1 s2:Ak}(h:CQ n1 n2 s1 s2=true):CQ n2 n1 s2 s1=false:=by
 rw[KF] at h;rw[Jj];rcases h with h | ⟨e,h⟩
 ·exact⟨by omega,λe=>by omega⟩
 ·exact⟨by omega,λ_=>PK h⟩
theorem Mz {n1 n2:Int}{s1 s2:Ak}(h1:CQ n1 n2 s1 s2=false)(h2:CQ n2 n1 s2 s1=false):n1=n2∧s1=s2:=by
 rw[Jj] at *;have e:n1=n2:=by omega
 refine⟨e,?_⟩;rcases HO s1 s2 with h | h | h
 ·rw[h1.2 e] at h;cases h
 ·exact h
 ·rw[h2.2 e.symm] at h;cases h
theorem Np {T:Type}(n:T→Int)(s:T→Ak):RZ λx y=>CQ (n x) (n y) (s x) (s y):=⟨λx=>KE _ _,λx y z h1 h2=>Ii h1 h2,λx y h=>Nq h⟩
structure Ab where
 fID:Ak
 fAt:Int
 fTenant:Ak
 fSource:Ak
 fBody:(List Ac)
 deriving DecidableEq,Inhabited
def Kd (ys:(List Ac)):Option ((List Ac)):=
 Bk (LA 40 (([]:List Ac).length+ys.length))<|some (([]:List Ac)++ys)
def Cw (c:Int):Option (Bool):=
 some ((decide (97≤c))&&(decide (c≤122)))
def DA (c:Int):Option (Bool):=
 some ((decide (48≤c))&&(decide (c≤57)))
def B7 (ha:Bool):Option (Bool):=
 some ha
def Ls (c:Int):Option (Bool):=
 B0 (Cw c) λha=>Bm (ha) (B7 true) (Bm (decide (65≤c)) (Bm (decide (c≤90)) (B7 true) (B0 (DA c) λhb=>Bm (hb) (B7 true) (Bm (decide (c=45)) (B7 true) (Bm (decide (c=95)) (B7 true) (Bm (decide (c=46)) (B7 true) (Bm (decide (c=58)) (B7 true) (B7 (decide (c=47))))))))) (B0 (DA c) λhd=>Bm (hd) (B7 true) (Bm (decide (c=45)) (B7 true) (Bm (decide (c=95)) (B7 true) (Bm (decide (c=46)) (B7 true) (Bm (decide (c=58)) (B7 true) (B7 (decide (c=47)))))))))
def Ej (s:Ak)(ha:Int):Option (Stp (Int) (Out (Bool) (Unit))):=
 Bm (decide (ha<(s.length:Int))) (Bk (D2 ha (s.length:Int))<|B0 (Ls (DC s ha)) λhb=>Bm (!hb) (some (.out (.ret false))) (Bk (BH .i64 (ha+1))<|some (.next (ha+1)))) (some (.out (.go ())))
def Jm :Option (Bool):=
 some true
def QC (F:Nat)(s:Ak):Option (Bool):=
 Bm (((decide ((s.length:Int)<1))||(decide (64<(s.length:Int))))) (some false) (B0 (Cu (λσ=>Ej s σ) F 0) (B9 λν=>Jm ))
def D3 (s:Ak)(ha:Int):Option (Stp (Int) (Out (Bool) (Unit))):=
 Bm (decide (ha<(s.length:Int))) (Bk (D2 ha (s.length:Int))<|Bk ((Cw (DC s ha)).isSome)<|Bk (imp (!(ov (Cw (DC s ha)))) ((DA (DC s ha)).isSome))<|Bm (((!(ov (Cw (DC s ha))))&&((!(ov (DA (DC s ha))))&&((!decide ((DC s ha)=45))&&(!decide ((DC s ha)=95)))))) (some (.out (.ret false))) (Bk (BH .i64 (ha+1))<|some (.next (ha+1)))) (some (.out (.go ())))
def GZ :Option (Bool):=
 some true
def D9 (F:Nat)(s:Ak):Option (Bool):=
 Bk (imp (!(decide ((s.length:Int)<1))) (imp (!(decide (24<(s.length:Int)))) (D2 0 (s.length:Int))))<|Bk (imp (!(decide ((s.length:Int)<1))) (imp (!(decide (24<(s.length:Int)))) ((Cw (DC s 0)).isSome)))<|Bm (((decide ((s.length:Int)<1))||((decide (24<(s.length:Int)))||(!(ov (Cw (DC s 0))))))) (some false) (B0 (Cu (λσ=>D3 s σ) F 1) (B9 λν=>GZ ))
def Hh (n:Int):Option (Bool):=
 some ((decide (0≤n))&&(decide (n≤1073741824)))
def J6 (F:Nat)(t:Ab):Option (Int):=
 Bm (!(Pa t.fID)) (some 4) (B0 (Hh t.fAt) λr5=>Bm (!r5) (some 2) (Bm (((!(C9 t.fTenant))||(!(C9 t.fSource)))) (some 4) (B0 (J0 F t.fBody) λha=>some ha)))
def Ow (t:Ab):Option (Ab):=
 B0 (Kd t.fBody) λr3=>some (Ab.mk t.fID t.fAt t.fTenant t.fSource r3)
end Go.Proofs.YtmmbdclkpijkpaaGreatDoor
namespace Go.Proofs.YtmmbdclkpijkpaaGreatDoor.Q
open Go Go.RowKit
set_option linter.unusedVariables false
set_option linter.unusedSimpArgs false
def Ly (ops:List Oper)(N:Nat):Bool:=
 let cl:=HC ops []
 (List.range ops.length).all (λi=>(Do (ops.getD i default)).all (·<i))&&
 (List.range ops.length).all (λi=>i<N||(List.range i).all (λj=>(cl.getD i 0).testBit j))
section
variable {P : Program} {Q : Exit → Act → World → Prop}
theorem MI {listed:Array Bool}{len m:Nat}(hs:listed.size=len)(hm:m≤len)(h:∀j,j<len→(listed.getD j true=true↔j<m)):listed.toList.count false=len-m:=by
 have:listed.toList=List.replicate m true++List.replicate (len-m) false:=by
  apply List.ext_getElem
  ·simp[hs];omega
  ·intro j h1 h2;have hj:j<len:=by simpa[hs] using h1
   have:=h j hj;rw[Array.getD_eq_getD_getElem?,Array.getElem?_eq_getElem (by omega)] at this;simp only[U6] at this;rw[Array.getElem_toList,List.getElem_append]
   split
   ·rename_i h3
    simp at h3;simp[this.2 h3]
   ·rename_i h3
    simp at h3;simp only[List.getElem_replicate]
    cases hb:listed[j] with
    | false=>rfl
    | true=>have:=this.1 hb;omega
 rw[this];simp[List.count_append,List.count_replicate]
theorem NY {listed:Array Bool}{j:Nat}(h:j<listed.size)(d d':Bool):listed.getD j d=listed.getD j d':=by
 simp[Array.getD_eq_getD_getElem?,Array.getElem?_eq_getElem h]
theorem Ke {ops:List Oper}{listed:Array Bool}{i:Nat}{o:Oper}(ho:ops[i]? =some o)(hb:∀e∈Do o,listed.getD e true=true)
  (hcl:∀j o,ops[j]? =some o→listed.getD j true=true→∀e∈Do o,listed.getD e true=true) (j:Nat) (h:((HC ops []).getD i 0).testBit j=true):j=i∨listed.getD j true=true:=
 DR ops (λk=>k=i∨listed.getD k true=true) ops [] (λt o' ht e he hF=>by
  rcases hF with hF | hF
  ·simp at hF;subst hF;rw[ho] at ht;simp at ht;subst ht;exact .inr (hb e he)
  ·exact .inr (hcl t o' ht (by simpa using hF) e he)) (λj i hb=>by simp at hb) i j h (.inl rfl)
theorem Hz {ops:List Oper}{listed:Array Bool}{i:Nat}(hsz:listed.size=ops.length)(hlt:∀i,i<ops.length→∀e∈Do (ops.getD i default),e<i)(h:i∈Region.ready .any ops.toArray listed) :
  listed.getD i true=false∧i<ops.length∧∃o,ops[i]? =some o∧∀e∈Do o,listed.getD e true=true:=by
 obtain⟨h1,o,ho,h2⟩:=mem_ready.1 h;have ho':ops[i]? =some o:=by simpa using ho
 have hil:=(List.getElem?_eq_some_iff.1 ho').1;refine⟨h1,hil,o,ho',λe he=>?_⟩;have hei:=hlt i hil e (by rw[Uk,ho'];exact he);simp only[Do,List.mem_map,List.mem_filter] at he;obtain⟨x,⟨hx1,hx2⟩,rfl⟩:=he;have h3:=h2 x (by simpa using hx1) hx2;rw[NY (by omega) true false];exact h3
theorem Hm {ops:List Oper}{listed:Array Bool}(hsz:listed.size=ops.length)(hlt:∀i,i<ops.length→∀e∈Do (ops.getD i default),e<i)(h:Region.ready .any ops.toArray listed=[]) :
  ∀j,j<ops.length→listed.getD j true=true:=by
 intro j
 induction j using Nat.strongRecOn with
 | ind j ih=>
  intro hj
  cases hb:listed.getD j true with
  | true=>rfl
  | false=>
   have:j∈Region.ready .any ops.toArray listed:=mem_ready.2 ⟨hb,ops[j],by simp[hj],λe he hbn=>by
    have hel:e.on<j:=hlt j hj e.on (by
     rw[Uk,Uj hj];simp only[Do,U6,List.mem_map,List.mem_filter];exact⟨e,⟨by simpa using he,hbn⟩,rfl⟩)
    rw[NY (by omega) false true];exact ih e.on hel (by omega)⟩
   rw[h] at this;cases this
theorem Jc {listed:Array Bool}{i j:Nat}(hi:i<listed.size):(listed.setIfInBounds i true).getD j true=true↔(j=i∨listed.getD j true=true):=by
 by_cases hj:i=j
 ·subst hj;simp[hi]
 ·rw[getD_set_ne true hj];exact⟨.inr,λh=>h.elim (λh=>absurd h.symm hj) id⟩
theorem O0 {listed:Array Bool}{i fuel:Nat}(hi:i<listed.size)(hun:listed.getD i true=false)(hc:listed.toList.count false=fuel+1):(listed.setIfInBounds i true).toList.count false=fuel:=by
 have hfi:listed.toList[i]? =some false:=by
  rw[Array.getD_eq_getD_getElem?,Array.getElem?_eq_getElem hi] at hun;simp at hun;simp[hi,hun]
 rw[Array.toList_setIfInBounds];have h1:=List.count_set (a:=true) (b:=false) (l:=listed.toList) (i:=i) (by simpa using hi);have h2:listed.toList[i]'(by simpa using hi)=false:=by
  have:=List.getElem?_eq_some_iff.1 hfi;exact this.2
 rw[h1,h2,hc];rfl
theorem IG {ops:List Oper}{N:Nat}(hlt:∀i,i<ops.length→∀e∈Do (ops.getD i default),e<i)
  (hch:∀i,N≤i→i<ops.length→∀j,j<i→((HC ops []).getD i 0).testBit j=true):∀(k m:Nat) (listed:Array Bool) (a:Act) (w:World),m+k=ops.length→N≤m→listed.size=ops.length→
   (∀j,j<ops.length→(listed.getD j true=true↔j<m))→(∀j o,ops[j]? =some o→listed.getD j true=true→∀e∈Do o,listed.getD e true=true)→wpList P ops.toArray Q (ops.drop m) a w→wpAny P .any ops.toArray Q k listed a w
 | 0,m,listed,a,w,hk,hN,hsz,hl,hcl,h=>by
  refine⟨?_,?_⟩
  ·cases hr:Region.ready .any ops.toArray listed with
   | nil=>rfl
   | cons i r=>
    obtain⟨h1,h2,_⟩:=Hz hsz hlt (i:=i) (by rw[hr];simp);rw[(hl i h2).2 (by omega)] at h1;cases h1
  ·rw[List.drop_of_length_le (by omega)] at h;exact h
 | k+1,m,listed,a,w,hk,hN,hsz,hl,hcl,h=>by
  refine⟨λhr=>?_,λi hi=>?_⟩
  ·have:=(hl m (by omega)).1 (Hm hsz hlt hr m (by omega));omega
  ·obtain⟨h1,h2,o,ho,hb⟩:=Hz hsz hlt hi;have him:i=m:=by
    have hmi : ¬ i<m:=λh'=>by rw[(hl i h2).2 h'] at h1;cases h1
    by_cases e:i=m
    ·exact e
    ·rcases Ke ho hb hcl m (hch i (by omega) h2 m (by omega)) with h3 | h3
     ·exact h3.symm
     ·have:=(hl m (by omega)).1 h3;omega
   subst him;have hd:ops.drop i=o::ops.drop (i+1):=by
    rw[List.drop_eq_getElem_cons h2]
    congr 1
    exact(List.getElem?_eq_some_iff.1 ho).2
   rw[hd] at h;have ih:∀a' w',wpList P ops.toArray Q (ops.drop (i+1)) a' w'→wpAny P .any ops.toArray Q k (listed.setIfInBounds i true) a' w':=λa' w' h'=>by
    refine IG hlt hch k (i+1) _ a' w' (by omega) (by omega) (by simpa using hsz) (λj hj=>?_) (λj o' hj hlj e he=>?_) h'
    ·rw[Jc (by omega),hl j hj];omega
    ·rw[Jc (by omega)] at hlj ⊢;rcases hlj with rfl | hlj
     ·rw[ho] at hj;simp at hj;subst hj;exact .inr (hb e he)
     ·exact .inr (hcl j o' hj hlj e he)
   unfold wpOp;have hoA:ops.toArray[i]? =some o:=by simpa using ho
   simp only[hoA];simp only[wpList] at h
   split
   ·rename_i hw'
    rw[if_pos hw'] at h;exact h.imp (λh=>Oper.wp_mono ih h) (λh=>h)
   ·rename_i hw'
    rw[UP hw'] at h;exact ih _ _ h
theorem P0 {id:Nat}{ops:List Oper}{N:Nat}(hm:P.follows .mixedOrders=true)(hB:Ly ops N=true)(hN:N≤ops.length)(I:(Nat→Bool)→Act→World→Prop)
  (hext:∀S S' a w,(∀j,j<N→S j=S' j)→I S a w→I S' a w) {a:Act} {w:World} (h0:I (λ_=>false) a { w with drawn:=w.drawn+1 })
  (step:∀S i o a w,i<N→S i=false→ops[i]? =some o→(∀e∈Do o,e<i∧S e=true)→I S a w→∀K:Act→World→Prop,(∀a' w',I (λj=>j ==i||S j) a' w'→K a' w')→
   (Region.wanted o (yielded ops.toArray a.tmps)=true→o.wp P a w K Q)∧(Region.wanted o (yielded ops.toArray a.tmps)=false→K (a.put o.dst undef) w))
  (fin:∀a w,I (λ_=>true) a w→wpList P ops.toArray Q (ops.drop N) a w):(Code.region id ops.toArray true).wp P Q a w:=by
 simp only[Ly,Ui,U2,List.mem_range,Ud,UC] at hB;obtain⟨hlt,hch0⟩:=hB;have hch:∀i,N≤i→i<ops.length→∀j,j<i→((HC ops []).getD i 0).testBit j=true:=λi h1 h2 j hj=>by
  rcases hch0 i h2 with h3 | h3
  ·omega
  ·exact h3 j hj
 refine wp_region_any hm ?_;have main:∀(fuel:Nat) (listed:Array Bool) (a:Act) (w:World),listed.size=ops.length→listed.toList.count false=fuel→I (λj=>listed.getD j true) a w→
   (∀j o,ops[j]? =some o→listed.getD j true=true→∀e∈Do o,listed.getD e true=true)→(∀j,N≤j→j<ops.length→listed.getD j true=false)→wpAny P .any ops.toArray Q fuel listed a w:=by
  intro fuel;have allin:∀(fuel:Nat) (listed:Array Bool) (a:Act) (w:World),listed.size=ops.length→listed.toList.count false=fuel→I (λj=>listed.getD j true) a w→
   (∀j o,ops[j]? =some o→listed.getD j true=true→∀e∈Do o,listed.getD e true=true)→(∀j,N≤j→j<ops.length→listed.getD j true=false)→(∀j,j<N→listed.getD j true=true)→wpAny P .any ops.toArray Q fuel listed a w:=by
   intro fuel listed a w hsz hc hI hcl hlast hall;have hl:∀j,j<ops.length→(listed.getD j true=true↔j<N):=λj hj=>by
    constructor
    ·intro h
     by_cases hjN:j<N
     ·exact hjN
     ·rw[hlast j (by omega) hj] at h;cases h
    ·exact hall j
   have:=MI hsz hN hl;refine IG hlt hch fuel N listed a w (by omega) (Uv _) hsz hl hcl (fin a w (hext _ _ a w (λj hj=>hall j hj) hI))
  induction fuel with
  | zero=>
   intro listed a w hsz hc hI hcl hlast;refine allin 0 listed a w hsz hc hI hcl hlast (λj hj=>?_)
   cases hb:listed.getD j true with
   | true=>rfl
   | false=>
    have:false∈listed.toList:=by
     rw[Array.getD_eq_getD_getElem?,Array.getElem?_eq_getElem (by omega)] at hb;simp at hb;rw[← hb];simp
    have:=List.count_pos_iff.2 this;omega
  | succ fuel ih=>
   intro listed a w hsz hc hI hcl hlast
   by_cases hall:∀j,j<N→listed.getD j true=true
   ·exact allin (fuel+1) listed a w hsz hc hI hcl hlast hall
   ·refine⟨λhr=>absurd (λj hj=>Hm hsz hlt hr j (by omega)) hall,λi hi=>?_⟩;obtain⟨h1,h2,o,ho,hb⟩:=Hz hsz hlt hi;have hiN:i<N:=by
     by_cases h:i<N
     ·exact h
     ·refine absurd (λj hj=>?_) hall;rcases Ke ho hb hcl j (hch i (by omega) h2 j (by omega)) with h3 | h3
      ·omega
      ·exact h3
    have K':∀a' w',I (λj=>j ==i||listed.getD j true) a' w'→wpAny P .any ops.toArray Q fuel (listed.setIfInBounds i true) a' w':=λa' w' hI'=>by
     refine ih _ a' w' (by simpa using hsz) (O0 (by omega) h1 hc) (hext _ _ a' w' (λj hj=>?_) hI') (λj o' hj hlj e he=>?_) (λj h3 h4=>?_)
     ·have:=Jc (listed:=listed) (i:=i) (j:=j) (by omega)
      cases hq:(listed.setIfInBounds i true).getD j true with
      | true=>
       rw[hq] at this;rcases this.1 rfl with h | h
       ·simp[h]
       ·simp[h]
      | false=>
       rw[hq] at this;have h5 : ¬ (j=i∨listed.getD j true=true):=λh=>by have:=this.2 h;cases this
       cases hz:listed.getD j true with
       | true=>exact absurd (.inr hz) h5
       | false=>
        have:j≠i:=λh=>h5 (.inl h);simp[this]
     ·rw[Jc (by omega)] at hlj ⊢;rcases hlj with rfl | hlj
      ·rw[ho] at hj;simp at hj;subst hj;exact .inr (hb e he)
      ·exact .inr (hcl j o' hj hlj e he)
     ·rw[getD_set_ne true (by omega)];exact hlast j h3 h4
    obtain⟨k1,k2⟩:=step _ i o a w hiN h1 ho (λe he=>⟨hlt i h2 e (by rw[Uk,ho];exact he),hb e he⟩) hI _ K';unfold wpOp;have hoA:ops.toArray[i]? =some o:=by simpa using ho
    simp only[hoA]
    split
    ·rename_i hw';exact .inl (k1 hw')
    ·rename_i hw';exact k2 (by simpa using hw')
 have e0:∀j,j<ops.length→(Array.replicate ops.length false).getD j true=false:=λj hj=>by simp[hj]
 have hsz0:ops.toArray.size=ops.length:=by simp
 rw[hsz0];refine main ops.length (Array.replicate ops.length false) a _ (by simp) (by simp) (hext _ _ _ _ (λj hj=>(e0 j (by omega)).symm) h0) (λj o hj hl=>?_) (λj _ h2=>e0 j h2);rw[e0 j (List.getElem?_eq_some_iff.1 hj).1] at hl;cases hl
end
structure Sa where
 deps:List Nat
 r:Rp
 al:Option (List Rp×TypeId):=none
 late:Option (Nat×List Rp):=none
 sto:Option Nat:=none
def DU (sp:List Sa)(i:Nat):Sa:=sp.getD i { deps:=[],r:=rv undef }
def QS (sp:List Sa):List Sp:=sp.map λs=>⟨s.deps,s.r,0⟩
def Iu (β:Nat→Nat)(s:Sa)(i:Nat):Rp:=match s.al with
 | none=>s.r
 | some _=>rv (.pointer (some ⟨β i,0,none⟩))
def IA (S:Nat→Bool)(late:Option (Nat×List Rp))(cs:List Rp):List Rp:=match late with
 | none=>cs
 | some q=>if S q.1 then q.2 else cs
def Ek (S:Nat→Bool)(β:Nat→Nat):List Sa→Nat→List Ent
 | [],_=>[]
 | s::r,t=>match s.al with
  | some p=>if S t then .blk (β t) (IA S s.late p.1) p.2::Ek S β r (t+1) else Ek S β r (t+1)
  | none=>Ek S β r (t+1)
def Pf (β:Nat→Nat):List Sa→Nat→List Ent
 | [],_=>[]
 | s::r,t=>match s.al with
  | some p=>.blk (β t) (match s.late with | none=>p.1 | some q=>q.2) p.2::Pf β r (t+1)
  | none=>Pf β r (t+1)
def IR (β:Nat→Nat):List Oper→List Sa→Nat→Fr→Fr
 | o::os,s::sp,i,l=>match o.dst with
  | some d=>(d,Iu β s i)::IR β os sp (i+1) l
  | none=>IR β os sp (i+1) l
 | _,_,_,l=>l
theorem HB {S S':Nat→Bool}{late:Option (Nat×List Rp)}{cs:List Rp}(h:∀q,late=some q→S q.1=S' q.1):IA S late cs=IA S' late cs:=by
 unfold IA
 cases late with
 | none=>rfl
 | some q=>simp only[];rw[h q rfl]
theorem D4 (S:Nat→Bool)(β:Nat→Nat)(s:Sa)(r:List Sa)(t:Nat):Ek S β (s::r) t=match s.al with
  | some p=>if S t then .blk (β t) (IA S s.late p.1) p.2::Ek S β r (t+1) else Ek S β r (t+1)
  | none=>Ek S β r (t+1):=rfl
theorem E4 {S S':Nat→Bool}{β β':Nat→Nat}:∀(r:List Sa) (t0:Nat),(∀(t:Nat) (s:Sa),r[t]? =some s→s.al≠none→S (t0+t)=S' (t0+t)∧(S (t0+t)=true→β (t0+t)=β' (t0+t)∧∀q,s.late=some q→S q.1=S' q.1))→Ek S β r t0=Ek S' β' r t0
 | [],_,_=>rfl
 | s::r,t0,h=>by
  have ih:=E4 r (t0+1) (λt s hs hn=>by
   have:=h (t+1) s (by simpa using hs) hn;rw[show t0+1+t=t0+(t+1) from by omega];exact this)
  unfold Ek;rw[ih]
  cases ha:s.al with
  | none=>rfl
  | some p=>
   obtain⟨h1,h2⟩:=h 0 s rfl (by rw[ha];exact nofun);simp only[Nat.add_zero] at h1 h2;simp only[];rw[← h1]
   split
   ·rename_i hS;rw[(h2 hS).1,HB (h2 hS).2]
   ·rfl
theorem MH (β:Nat→Nat):∀(r:List Sa) (t0:Nat),Ek (λ_=>true) β r t0=Pf β r t0
 | [],_=>rfl
 | s::r,t0=>by
  unfold Ek Pf;rw[MH β r (t0+1)]
  cases s.al with
  | none=>rfl
  | some p=>cases hl:s.late<;>simp[IA,hl]
theorem KK (β:Nat→Nat):∀(r:List Sa) (t0:Nat),Ek (λ_=>false) β r t0=[]
 | [],_=>rfl
 | s::r,t0=>by
  unfold Ek;rw[KK β r (t0+1)]
  cases s.al<;>simp
theorem MG {S:Nat→Bool}{β:Nat→Nat}{i b:Nat}{p:List Rp×TypeId}:∀(r:List Sa) (t0 k:Nat) (s:Sa),i=t0+k→r[k]? =some s→s.al=some p→S i=false→(∀(t:Nat) (s:Sa) (q:Nat×List Rp),r[t]? =some s→s.al≠none→s.late=some q→q.1≠i)→(∀q,s.late=some q→S q.1=false∧q.1≠i)→
  (Ek (λj=>j ==i||S j) (λj=>if j=i then b else β j) r t0).Perm (.blk b p.1 p.2::Ek S β r t0)
 | [],_,_,_,_,h,_,_,_,_=>by simp at h
 | s'::r,t0,0,s,hi,h,ha,hS,hne,hl=>by
  simp at h hi;subst h;subst hi;have e:=E4 (S:=λj=>j ==i||S j) (S':=S) (β:=λj=>if j=i then b else β j) (β':=β) r (i+1) (λt s hs hn=>by
   have:i+1+t≠i:=by omega
   refine⟨by simp[this],λ_=>⟨by simp[this],λq hq=>?_⟩⟩;have:=hne (t+1) s q (by simpa using hs) hn hq;simp[this])
  have ec:IA (λj=>j ==i||S j) s'.late p.1=p.1:=by
   unfold IA
   cases hq:s'.late with
   | none=>rfl
   | some q=>
    obtain⟨h1,h2⟩:=hl q hq;simp[h1,h2]
  unfold Ek;rw[e,ha];simp only[hS,BEq.rfl,UI,if_true,ec];simp
 | s'::r,t0,k+1,s,hi,h,ha,hS,hne,hl=>by
  have ih:=MG (S:=S) (β:=β) (i:=i) (b:=b) (p:=p) r (t0+1) k s (by omega) (by simpa using h) ha hS (λt s q hs=>hne (t+1) s q (by simpa using hs)) hl;have hne0:t0≠i:=by omega
  have hne':(t0 ==i)=false:=by simpa using hne0
  unfold Ek
  cases ha':s'.al with
  | none=>exact ih
  | some q=>
   simp only[hne',U0,UP hne0];rw[HB (S:=λj=>j ==i||S j) (S':=S) (λq hq=>by
    have:=hne 0 s' q rfl (by rw[ha'];exact nofun) hq;simp[this])]
   cases hS':S t0 with
   | true=>simpa using(Uf _ ih).trans (List.Perm.swap _ _ _)
   | false=>simpa using ih
theorem MF {S:Nat→Bool}{β:Nat→Nat}{i j:Nat}{p:List Rp×TypeId}{ncs:List Rp}:∀(r:List Sa) (t0 k:Nat) (s:Sa),j=t0+k→r[k]? =some s→s.al=some p→s.late=some (i,ncs)→S j=true→S i=false→(∀(t:Nat) (s:Sa) (q:Nat×List Rp),r[t]? =some s→s.al≠none→s.late=some q→t0+t≠j→q.1≠i)→(∀(t:Nat) (s:Sa),r[t]? =some s→s.al≠none→t0+t≠i)→
  ∃H',(Ek S β r t0).Perm (.blk (β j) p.1 p.2::H')∧(Ek (λj=>j ==i||S j) β r t0).Perm (.blk (β j) ncs p.2::H')
 | [],_,_,_,_,h,_,_,_,_,_,_=>by simp at h
 | s'::r,t0,0,s,hj,h,ha,hl,hSj,hSi,hne,hni=>by
  simp at h hj;subst h;subst hj;have e:=E4 (S:=λx=>x ==i||S x) (S':=S) (β:=β) (β':=β) r (j+1) (λt s hs hn=>by
   have h1:=hni (t+1) s (by simpa using hs) hn;have h1':j+1+t≠i:=by omega
   refine⟨by simp[h1'],λ_=>⟨rfl,λq hq=>?_⟩⟩;have:=hne (t+1) s q (by simpa using hs) hn hq (by omega);simp[this])
  refine⟨Ek S β r (j+1),?_,?_⟩
  ·rw[D4];rw[ha];simp[hSj,IA,hl,hSi]
  ·rw[D4];rw[ha,e];simp[hSj,IA,hl]
 | s'::r,t0,k+1,s,hj,h,ha,hl,hSj,hSi,hne,hni=>by
  obtain⟨H',h1,h2⟩:=MF (S:=S) (β:=β) (i:=i) (j:=j) (p:=p) (ncs:=ncs) r (t0+1) k s (by omega) (by simpa using h) ha hl hSj hSi (λt s q hs hn hq hx=>hne (t+1) s q (by simpa using hs) hn hq (by omega)) (λt s hs hn=>by
   have:=hni (t+1) s (by simpa using hs) hn;omega)
  cases ha':s'.al with
  | none=>exact⟨H',by rw[D4,ha'];exact h1,by rw[D4,ha'];exact h2⟩
  | some q=>
   have hi0:=hni 0 s' rfl (by rw[ha'];exact nofun);have hi0':(t0 ==i)=false:=by simpa using hi0
   have ec:IA (λx=>x ==i||S x) s'.late q.1=IA S s'.late q.1:=HB (λq hq=>by
    have:=hne 0 s' q rfl (by rw[ha'];exact nofun) hq (by omega);simp[this])
   cases hS':S t0 with
   | true=>
    refine⟨.blk (β t0) (IA S s'.late q.1) q.2::H',?_,?_⟩
    ·rw[D4];rw[ha'];simpa[hS'] using(Uf _ h1).trans (List.Perm.swap _ _ _)
    ·rw[D4];rw[ha'];simp only[hi0',U0,hS',if_true,ec];exact(Uf _ h2).trans (List.Perm.swap _ _ _)
   | false=>
    refine⟨H',?_,?_⟩
    ·rw[D4];rw[ha'];simpa[hS'] using h1
    ·rw[D4];rw[ha'];simp only[hi0',U0,hS'];simpa using h2
def TJ (n:Nat)(ops:List Oper)(N:Nat)(keys:List Nat)(deps:List (List Nat))(als:List Bool)(lates stos:List (Option Nat)):Bool:=
 Ly ops N&&decide (N≤ops.length)&&
 (List.range N).all (λi=>match BS ops i with
  | some d=>decide (d<n)&&!keys.contains d&&(List.range N).all (λj=>j ==i||BS ops j !=some d)
  | none=>true)&&
 (List.range N).all (λi=>(deps.getD i []).all (λj=>decide (j<N)&&(Do (ops.getD i default)).contains j&&!als.getD j true))&&
 (List.range N).all (λi=>match stos.getD i none with
  | some j=>decide (j<N)&&(Do (ops.getD i default)).contains j&&als.getD j false&&!als.getD i true
  | none=>true)&&
 (List.range N).all (λj=>match lates.getD j none with
  | some k=>decide (k<N)&&als.getD j false&&stos.getD k none ==some j
  | none=>true)
def ST (P:Program)(n:Nat)(c:Cx)(opsA:Array Oper)(Q:Exit→Act→World→Prop)(o:Oper)(p:List Rp×TypeId):Prop:=
 ∀H a w Z (K:Act→World→Prop),St c H Z w→(∀b w',St c (.blk b p.1 p.2::H) Z w'→K (a.put o.dst (.pointer (some ⟨b,0,none⟩))) w')→
  Region.wanted o (yielded opsA a.tmps)=true∧o.wp P a w K Q
def Sl (P:Program)(n:Nat)(c:Cx)(opsA:Array Oper)(Q:Exit→Act→World→Prop)(ops:List Oper)(sp:List Sa)(l0:Fr)(H:List Ent)(i:Nat)(o:Oper):Prop:=
 match (DU sp i).sto with
 | some j=>o.dst=none∧∃d p ncs,BS ops j=some d∧(DU sp j).al=some p∧(DU sp j).late=some (i,ncs)∧
   ∀b H,DD P n c opsA Q ((d,rv (.pointer (some ⟨b,0,none⟩)))::B2 ops (QS sp) (DU sp i).deps l0) (.blk b p.1 p.2::H) o (rv undef) (.blk b ncs p.2::H)
 | none=>match (DU sp i).al with
  | none=>∀E,DD P n c opsA Q (B2 ops (QS sp) (DU sp i).deps l0) (H++E) o (DU sp i).r (H++E)
  | some p=>ST P n c opsA Q o p
def GK (P:Program)(n:Nat)(c:Cx)(opsA:Array Oper)(Q:Exit→Act→World→Prop)(ops:List Oper)(sp:List Sa)(l0:Fr)(H:List Ent):Nat→List Oper→Prop
 | i,o::rest=>Sl P n c opsA Q ops sp l0 H i o∧GK P n c opsA Q ops sp l0 H (i+1) rest
 | _,[]=>True
section
variable {P : Program} {n : Nat} {c : Cx} {opsA : Array Oper} {Q : Exit → Act → World → Prop} {l l0 : Fr} {H : List Ent} {sp : List Sa}
theorem GK.at {ops:List Oper}:∀{k:Nat} {rest:List Oper},GK P n c opsA Q ops sp l0 H k rest→∀(t:Nat) o,rest[t]? =some o→Sl P n c opsA Q ops sp l0 H (k+t) o
 | k,o::rest,⟨h1,h2⟩,t,o',ht=>by
  cases t with
  | zero=>simp at ht;subst ht;exact h1
  | succ t=>
   have:=GK.at h2 t o' (by simpa using ht);rw[show k+(t+1)=k+1+t from by omega];exact this
 | _,[],_,t,o,h=>by simp at h
theorem L5 {β:Nat→Nat}{a:Act}{Z:Fz}(h0:Cl n l0 a Z):∀(os:List Oper) (ss:List Sa) (k:Nat),(∀(t:Nat) o s d,os[t]? =some o→ss[t]? =some s→o.dst=some d→∃v,a.tmps[d]? =some v∧(Iu β s (k+t)).p Z v)→Cl n (IR β os ss k l0) a Z
 | [],_,_,_=>by unfold IR;exact h0
 | _::_,[],_,_=>by unfold IR;exact h0
 | o::os,s::ss,k,h=>by
  have ih:=L5 h0 os ss (k+1) (λt o' s' d h1 h2 h3=>by
   have:=h (t+1) o' s' d (by simpa using h1) (by simpa using h2) h3;rw[show k+1+t=k+(t+1) from by omega];exact this)
  unfold IR
  cases hd:o.dst with
  | none=>exact ih
  | some d=>
   refine⟨ih.size,ih.defers,λi r hi=>?_⟩;rw[BG] at hi
   split at hi
   ·rename_i e;subst e;simp at hi;subst hi;exact h 0 o s d rfl rfl hd
   ·exact ih.tm i r hi
theorem Sr {id:Nat}{ops:List Oper}(N:Nat)(sp:List Sa)(hm:P.follows .mixedOrders=true)(hB:TJ n ops N (DP l0) (sp.map (·.deps)) (sp.map (·.al.isSome)) (sp.map (·.late.map (·.1))) (sp.map (·.sto))=true)(hl0:Po l0 l)(hsp:sp.length=N)
  (hob:GK P n c ops.toArray Q ops sp l0 H 0 (ops.take N)) (h:∀β,WL P n c ops.toArray Q (ops.drop N) (IR β (ops.take N) sp 0 l0) (H++Pf β sp 0)):WC P n c (.region id ops.toArray true) Q l H:=by
 intro a w Z ha hw;simp only[TJ,Ui,U2,List.mem_range,Ud] at hB;obtain⟨⟨⟨⟨⟨b1,bN⟩,b2⟩,b3⟩,b4⟩,b5⟩:=hB;have hget:∀i,i<N→(ops.take N)[i]? =ops[i]?:=λi hi=>by rw[UB,if_pos hi]
 have hsa:∀i,i<N→sp[i]? =some (DU sp i):=λi hi=>by
  simp[DU,Uk,Uj (show i<sp.length by omega)]
 have hspq:∀i,i<N→(CT (QS sp) i)=⟨(DU sp i).deps,(DU sp i).r,0⟩:=λi hi=>by
  simp[CT,QS,Uk,U4,hsa i hi]
 have hals:∀j b,j<N→(sp.map (·.al.isSome)).getD j b=(DU sp j).al.isSome:=λj b hj=>by simp[Uk,U4,hsa j hj]
 have hstos:∀j,j<N→(sp.map (·.sto)).getD j none=(DU sp j).sto:=λj hj=>by simp[Uk,U4,hsa j hj]
 have hlates:∀j,j<N→(sp.map (·.late.map (·.1))).getD j none=(DU sp j).late.map (·.1):=λj hj=>by simp[Uk,U4,hsa j hj]
 have S1:∀i o j,i<N→ops[i]? =some o→(DU sp i).sto=some j→j<N∧j∈Do o∧(DU sp j).al≠none∧(DU sp i).al=none:=λi o j hi ho hs=>by
  have h1:=b4 i hi;rw[hstos i hi,hs] at h1;simp only[Ui,U1,Ud] at h1;obtain⟨⟨⟨h2,h3⟩,h4⟩,h5⟩:=h1;rw[hals j _ h2] at h4;rw[hals i _ hi] at h5;rw[Uk,ho,U6,List.contains_iff_mem] at h3;exact⟨h2,h3,λe=>(by rw[e] at h4;cases h4),(by simpa using h5)⟩
 have L1:∀t q,t<N→(DU sp t).late=some q→q.1<N∧(DU sp q.1).sto=some t:=λt q ht hq=>by
  have h1:=b5 t ht;rw[hlates t ht,hq] at h1;simp only[Option.map_some,Ui,Ud,beq_iff_eq] at h1;obtain⟨⟨h2,h3⟩,h4⟩:=h1;rw[hstos _ h2] at h4;exact⟨h2,h4⟩
 have hops:∀j,j<N→∃o,ops[j]? =some o:=λj hj=>⟨ops[j]'(by omega),Uj (by omega)⟩
 have lt_of:∀(t:Nat) (s:Sa),sp[t]? =some s→t<N∧s=DU sp t:=λt s hs=>by
  have h1:t<N:=by have:=(List.getElem?_eq_some_iff.1 hs).1;omega
  refine⟨h1,?_⟩;rw[hsa t h1] at hs;simpa using hs.symm
 have hdst:∀i o d,i<N→ops[i]? =some o→o.dst=some d→(d<n∧d ∉ DP l0)∧∀j,j<N→j≠i→BS ops j≠some d:=λi o d hi ho hd=>by
  have h3:=b2 i hi;have:BS ops i=some d:=by simp[BS,ho,hd]
  rw[this] at h3;simp only[Ui,U1,U2,List.mem_range,Ud] at h3;refine⟨⟨h3.1.1,λhmem=>by rw[← List.contains_iff_mem] at hmem;rw[hmem] at h3;cases h3.1.2⟩,λj hj hne he=>?_⟩;have:=h3.2 j hj;simp[hne,he] at this
 refine P0 (N:=N) hm b1 bN (λS a w=>∃ (β:Nat→Nat) (Z:Fz),St c (H++Ek S β sp 0) Z w∧Cl n l0 a Z∧(∀j o d,j<N→S j=true→ops[j]? =some o→o.dst=some d→∃v,a.tmps[d]? =some v∧(Iu β (DU sp j) j).p Z v)∧
   ∀k j,k<N→(DU sp k).sto=some j→S k=true→S j=true)
  (λS S' a w hS hI=>?_) ⟨λ_=>0,Z,?_,ha.subL hl0,λj o d _ hS=>(by cases hS),λk j _ _ hS=>(by cases hS)⟩ (λS i o a w hi hun ho hb hI K hK=>?_) (λa w hI=>?_)
 ·obtain⟨β,Z,h1,h2,h3,h4⟩:=hI;refine⟨β,Z,?_,h2,λj o d hj hS'=>h3 j o d hj (by rw[hS j hj];exact hS'),λk j hk hs hSk=>?_⟩
  ·rw[← E4 (S:=S) (β:=β) (β':=β) sp 0 (λt s hs _=>by
    obtain⟨ht,rfl⟩:=lt_of t s hs;exact⟨hS _ (by omega),λ_=>⟨rfl,λq hq=>hS _ (L1 t q ht hq).1⟩⟩)]
   exact h1
  ·obtain⟨o,ho⟩:=hops k hk;rw[← hS j (S1 k o j hk ho hs).1];exact h4 k j hk hs (by rw[hS k hk];exact hSk)
 ·rw[KK,UO];exact hw.drawn _
 ·obtain⟨β,Z,h1,h2,h3,hx⟩:=hI;have hput:∀k u v,a.tmps[k]? =some u→o.dst≠some k→(a.put o.dst v).tmps[k]? =some u:=λk u v hk hne=>by
   cases hd:o.dst with
   | none=>simpa[Act.put] using hk
   | some d=>
    simp only[Act.put,Array.getElem?_setIfInBounds];rw[UP (λe=>hne (by rw[hd,e]))];exact hk
  have hagr:∀v Z',Fz.le Z Z'→Cl n l0 (a.put o.dst v) Z':=λv Z' hz=>by
   refine⟨?_,?_,λk r hk=>?_⟩
   ·cases o.dst<;>simp[Act.put,h2.size]
   ·cases o.dst<;>simp[Act.put,h2.defers]
   ·obtain⟨u,hu,hpu⟩:=h2.tm k r hk;exact⟨u,hput k u v hu (λe=>((hdst i o k hi ho e).1).2 (Ih hk)),r.mono hz hpu⟩
  have hvals:∀(v:Value) (Z':Fz) (β':Nat→Nat),Fz.le Z Z'→(∀j,j≠i→β' j=β j)→(o.dst≠none→(Iu β' (DU sp i) i).p Z' v)→∀j o' d,j<N→(j ==i||S j)=true→ops[j]? =some o'→o'.dst=some d→∃u,(a.put o.dst v).tmps[d]? =some u∧(Iu β' (DU sp j) j).p Z' u:=by
   intro v Z' β' hz hβ hp j o' d hj hS' ho' hd
   by_cases hji:j=i
   ·subst hji;rw[ho] at ho';simp at ho';subst ho';refine⟨v,?_,hp (by simp[hd])⟩;have hdn:d<a.tmps.size:=by rw[h2.size];exact(hdst j o d hi ho hd).1.1
    simp[Act.put,hd,hdn]
   ·have hSj:S j=true:=by simpa[hji] using hS'
    obtain⟨u,hu,hpu⟩:=h3 j o' d hj hSj ho' hd;refine⟨u,hput d u v hu (λe=>(hdst i o d hi ho e).2 j hj hji (by simp[BS,ho',hd])),?_⟩;have:Iu β' (DU sp j) j=Iu β (DU sp j) j:=by unfold Iu;rw[hβ j hji]
    rw[this];exact(Iu β (DU sp j) j).mono hz hpu
  have hx':∀k j,k<N→(DU sp k).sto=some j→(k ==i||S k)=true→(j ==i||S j)=true:=λk j hk hs hSk=>by
   by_cases hki:k=i
   ·subst hki;have:=(hb j (S1 k o j hk ho hs).2.1).2;simp[this]
   ·have:S j=true:=hx k j hk hs (by simpa[hki] using hSk);simp[this]
  have hat:=hob.at i o (by rw[hget i hi];exact ho);rw[UE] at hat;unfold Sl at hat;have hag':Cl n (B2 ops (QS sp) (DU sp i).deps l0) a Z:=Io h2 (λj hj d hd=>by
    have h4:=b3 i hi j (by simpa[Uk,U4,hsa i hi] using hj);simp only[Ui,U1,Ud] at h4;obtain⟨⟨h5,h6⟩,h7⟩:=h4;rw[Uk,ho,U6,List.contains_iff_mem] at h6;have hjal:(DU sp j).al=none:=by
     rw[hals j _ h5] at h7;simpa using h7
    obtain⟨o2,ho2⟩:=hops j h5;obtain⟨v,hv1,hv2⟩:=h3 j o2 d h5 (hb j h6).2 ho2 (by simpa[BS,ho2] using hd);refine⟨v,hv1,?_⟩;rw[hspq j h5];simpa[Iu,hjal] using hv2)
  cases hst:(DU sp i).sto with
  | some j=>
   rw[hst] at hat;obtain⟨hod,d,p,ncs,hd,hal,hlate,hok⟩:=hat;obtain⟨hjN,hjb,_,hial⟩:=S1 i o j hi ho hst;have hSj:=(hb j hjb).2;obtain⟨H',p1,p2⟩:=MF (S:=S) (β:=β) (i:=i) (j:=j) (p:=p) (ncs:=ncs) sp 0 j (DU sp j) (by omega) (hsa j hjN) hal hlate hSj hun (λt s q hs _ hq hne he=>by
     obtain⟨ht,rfl⟩:=lt_of t s hs;have:=(L1 t q ht hq).2;rw[he,hst] at this;simp at this;omega) (λt s hs hn he=>by
     obtain⟨ht,rfl⟩:=lt_of t s hs;rw[UE] at he;subst he;exact hn hial)
   obtain⟨o2,ho2⟩:=hops j hjN;obtain⟨v,hv1,hv2⟩:=h3 j o2 d hjN hSj ho2 (by simpa[BS,ho2] using hd);have hag2:Cl n ((d,rv (.pointer (some ⟨β j,0,none⟩)))::B2 ops (QS sp) (DU sp i).deps l0) a Z:=⟨hag'.size,hag'.defers,λk r hk=>by
    rw[BG] at hk
    split at hk
    ·rename_i e;subst e;simp at hk;subst hk
     exact⟨v,hv1,by simpa[Iu,hal] using hv2⟩
    ·exact hag'.tm k r hk⟩
   refine hok (β j) (H++H') a w Z K hag2 (h1.perm ((List.Perm.append_left H p1).trans List.perm_middle)) (λv w' Z' hz _ hs'=>hK _ _ ⟨β,Z',?_,hagr v Z' hz,hvals v Z' β hz (λ_ _=>rfl) (λhne=>absurd hod hne),hx'⟩);exact hs'.perm (List.perm_middle.symm.trans (List.Perm.append_left H p2.symm))
  | none=>
   rw[hst] at hat;have latene:∀t q,t<N→(DU sp t).late=some q→q.1≠i:=λt q ht hq he=>by
    have:=(L1 t q ht hq).2;rw[he,hst] at this;cases this
   cases hal:(DU sp i).al with
   | none=>
    rw[hal] at hat;refine hat _ a w Z K hag' h1 (λv w' Z' hz hp hst'=>hK _ _ ⟨β,Z',?_,hagr v Z' hz,hvals v Z' β hz (λ_ _=>rfl) (λ_=>by unfold Iu;rw[hal];exact hp),hx'⟩);rw[E4 (S':=S) (β':=β) sp 0 (λt s hs hn=>by
     obtain⟨ht,rfl⟩:=lt_of t s hs;have:t≠i:=λe=>by subst e;exact hn hal
     refine⟨by simp[this],λ_=>⟨rfl,λq hq=>?_⟩⟩;have:=latene t q ht hq;simp[this])]
    exact hst'
   | some p=>
    rw[hal] at hat;have key:=λK' hK'=>hat (H++Ek S β sp 0) a w Z K' h1 hK';have h5:∀b w',St c (.blk b p.1 p.2::(H++Ek S β sp 0)) Z w'→K (a.put o.dst (.pointer (some ⟨b,0,none⟩))) w':=λb w' hst'=>by
     refine hK _ _ ⟨λj=>if j=i then b else β j,Z,?_,hagr _ Z (Fz.le.refl _),hvals _ Z _ (Fz.le.refl _) (λj hj=>by simp[hj]) (λ_=>by simp[Iu,hal,rv]),hx'⟩;have hp:=MG (S:=S) (β:=β) (i:=i) (b:=b) (p:=p) sp 0 i (DU sp i) (by omega) (hsa i hi) hal hun (λt s q hs _ hq=>by
      obtain⟨ht,rfl⟩:=lt_of t s hs;exact latene t q ht hq) (λq hq=>by
       refine⟨?_,latene i q hi hq⟩
       cases hS:S q.1 with
       | false=>rfl
       | true=>
        obtain⟨h6,h7⟩:=L1 i q hi hq;have:=hx q.1 i h6 h7 hS;rw[this] at hun;cases hun)
     exact hst'.perm ((List.perm_middle.symm).trans (List.Perm.append_left H hp.symm))
    refine⟨λ_=>(key K h5).2,λhw'=>?_⟩;rw[(key K h5).1] at hw';cases hw'
 ·obtain⟨β,Z,h1,h2,h3,_⟩:=hI;refine h β a w Z (L5 h2 _ _ 0 (λt o s d ht hs hd=>?_)) (by rw[← MH];exact h1);obtain⟨htN,rfl⟩:=lt_of t s hs;rw[UE];exact h3 t o d htN rfl (by rw[← hget t htN];exact ht) hd
end
theorem Tz {P:Program}{n:Nat}{c:Cx}{opsA:Array Oper}{Q:Exit→Act→World→Prop}{d:Nat}{e:TypeId}{ty:TypeId}{pos:String}{af:Array Edge}{z:Value}{cs:List Rp}(hz:∀w,(zeroValue e).run P w = .ok z w)(hcs:z.cells.toList.map rv=cs) :
  ST P n c opsA Q { dst:=some d,op:=.alloc e,type:=ty,pos:=pos,after:=af,guard:=none } (cs,e):=λH a w Z K hw hK=>by
 refine⟨by simp[Region.wanted],?_⟩;unfold Oper.wp;rw[show(execOp a.eval { dst:=some d,op:=.alloc e,type:=ty,pos:=pos,after:=af,guard:=none }).run P w = .ok (.value (.pointer (some ⟨w.heap.size,0,none⟩))) (w.alloc (.cells z.cells e)) from by simp[execOp,Instr.alloc,hz,newVar,newRow,newObj,Sem.run,Sem.run_bind]];exact hK _ _ (hw.alloc _ (e:=.blk w.heap.size cs e) ⟨z.cells.toList,by simpa using heap_alloc_new w _,by subst hcs;exact AS.rvs Z _⟩ rfl)
section
variable {P : Program} {n : Nat} {c : Cx} {opsA : Array Oper} {Q : Exit → Act → World → Prop} {l l0 : Fr} {H : List Ent} {sp : List Sa}
theorem IY {id:Nat}{ops:List Oper}(N:Nat)(ks0:List Nat)(sp:List Sa)(hob:GK P n c ops.toArray Q ops sp l0 H 0 (ops.take N))(h:∀β,WL P n c ops.toArray Q (ops.drop N) (IR β (ops.take N) sp 0 l0) (H++Pf β sp 0))
  (h0:Kp ks0 l l0:=by repeat (first | exact M5 | (apply JV;rfl) | (apply Kq;rfl))) (hm:P.follows .mixedOrders=true:=by kernel_rfl) (hB:TJ n ops N (DP l0) (sp.map (·.deps)) (sp.map (·.al.isSome)) (sp.map (·.late.map (·.1))) (sp.map (·.sto))=true:=by kernel_rfl)
  (hsp:sp.length=N:=by rfl):WC P n c (.region id ops.toArray true) Q l H:=Sr N sp hm hB h0.one hsp hob h
theorem Ji {all rest:List Oper}{d:Nat}{op:Op}{ty:TypeId}{pos:String}{af:Array Edge}{i:Nat}
  (hr:∀{H},Bc P n c (B2 all (QS sp) (DU sp i).deps l0) H { dst:=some d,op:=op,type:=ty,pos:=pos,after:=af,guard:=none } (DU sp i).r) (h:GK P n c opsA Q all sp l0 H (i+1) rest) (ha:(DU sp i).al=none:=by rfl) (hs:(DU sp i).sto=none:=by rfl) :
  GK P n c opsA Q all sp l0 H i ({ dst:=some d,op:=op,type:=ty,pos:=pos,after:=af,guard:=none }::rest):=by
 refine⟨?_,h⟩;unfold Sl;rw[hs,ha];exact λ_=>BK hr
theorem Sf {all rest:List Oper}{d:Nat}{op:Op}{ty:TypeId}{pos:String}{af:Array Edge}{i:Nat}
  (hr:∀{E},Bc P n c (B2 all (QS sp) (DU sp i).deps l0) (H++E) { dst:=some d,op:=op,type:=ty,pos:=pos,after:=af,guard:=none } (DU sp i).r) (h:GK P n c opsA Q all sp l0 H (i+1) rest) (ha:(DU sp i).al=none:=by rfl) (hs:(DU sp i).sto=none:=by rfl) :
  GK P n c opsA Q all sp l0 H i ({ dst:=some d,op:=op,type:=ty,pos:=pos,after:=af,guard:=none }::rest):=by
 refine⟨?_,h⟩;unfold Sl;rw[hs,ha];exact λ_=>BK hr
theorem TZ {all rest:List Oper}{o:Oper}{p:List Rp×TypeId}{i:Nat}(hr:ST P n c opsA Q o p)(h:GK P n c opsA Q all sp l0 H (i+1) rest)(ha:(DU sp i).al=some p:=by rfl)(hs:(DU sp i).sto=none:=by rfl):GK P n c opsA Q all sp l0 H i (o::rest):=by
 refine⟨?_,h⟩;unfold Sl;rw[hs,ha];exact hr
theorem TY {all rest:List Oper}{op:Op}{ty:TypeId}{pos:String}{af:Array Edge}{g:Option (Nat×Bool)}{i j d:Nat}{p:List Rp×TypeId}{ncs:List Rp}
  (hr:∀{b H},DD P n c opsA Q ((d,rv (.pointer (some ⟨b,0,none⟩)))::B2 all (QS sp) (DU sp i).deps l0) (.blk b p.1 p.2::H) { dst:=none,op:=op,type:=ty,pos:=pos,after:=af,guard:=g } (rv undef) (.blk b ncs p.2::H))
  (h:GK P n c opsA Q all sp l0 H (i+1) rest) (hs:(DU sp i).sto=some j:=by rfl) (hd:BS all j=some d:=by rfl) (ha:(DU sp j).al=some p:=by rfl) (hl:(DU sp j).late=some (i,ncs):=by rfl) :
  GK P n c opsA Q all sp l0 H i ({ dst:=none,op:=op,type:=ty,pos:=pos,after:=af,guard:=g }::rest):=by
 refine⟨?_,h⟩;unfold Sl;rw[hs];exact⟨rfl,d,p,ncs,hd,ha,hl,λ_ _=>hr⟩
theorem T9 {all:List Oper}{i:Nat}:GK P n c opsA Q all sp l0 H i []:=trivial
end
structure QW (ks:List Nat) (β:Nat→Nat) (os:List Oper) (sp:List Sa) (i:Nat) (l0 l1:Fr):Prop where
 go:Kp ks (IR β os sp i l0) l1
section
variable {ks : List Nat} {β : Nat → Nat} {os : List Oper} {sp : List Sa} {i d : Nat} {l0 l1 : Fr} {ds : List Nat} {r : Rp} {p : List Rp × TypeId} {lt : Option (Nat × List Rp)} {so : Option Nat} {op : Op} {ty : TypeId} {pos : String} {af : Array Edge} {g : Option (Nat × Bool)}
theorem Tj (h:ks.contains d=true)(t:QW ks β os sp (i+1) l0 l1):QW ks β ({ dst:=some d,op:=op,type:=ty,pos:=pos,after:=af,guard:=g }::os) ({ deps:=ds,r:=r,sto:=so }::sp) i l0 ((d,r)::l1):=⟨JV h t.go⟩
theorem Tm (h:ks.contains d=true)(t:QW ks β os sp (i+1) l0 l1):QW ks β ({ dst:=some d,op:=op,type:=ty,pos:=pos,after:=af,guard:=g }::os) ({ deps:=ds,r:=r,al:=some p,late:=lt,sto:=so }::sp) i l0 ((d,rv (.pointer (some ⟨β i,0,none⟩)))::l1):=⟨JV h t.go⟩
theorem Tl {s:Sa}(h:ks.contains d=false)(t:QW ks β os sp (i+1) l0 l1):QW ks β ({ dst:=some d,op:=op,type:=ty,pos:=pos,after:=af,guard:=g }::os) (s::sp) i l0 l1:=⟨Kq h t.go⟩
theorem Tk {s:Sa}(t:QW ks β os sp (i+1) l0 l1):QW ks β ({ dst:=none,op:=op,type:=ty,pos:=pos,after:=af,guard:=g }::os) (s::sp) i l0 l1:=⟨t.go⟩
theorem Tn (t:Kp ks l0 l1):QW ks β [] [] i l0 l1:=⟨t⟩
theorem G8 {P:Program}{n:Nat}{c:Cx}{opsA:Array Oper}{Q:Exit→Act→World→Prop}{rest:List Oper}{H H1:List Ent}(ks:List Nat)(h:WL P n c opsA Q rest l1 H1)
  (hz:QW ks β os sp i l0 l1:=by repeat (first | (apply Tj;rfl) | (apply Tm;rfl) | (apply Tl;rfl) | apply Tk | apply Tn | exact M5 | (apply JV;rfl) | (apply Kq;rfl))) (hH:H=H1:=by rfl) :
  WL P n c opsA Q rest (IR β os sp i l0) H:=λa w Z ha hw=>h a w Z (ha.subL hz.go.one) (hH▸hw)
end
section
variable {P : Program} {n : Nat} {c : Cx} {opsA : Array Oper} {Q : Exit → Act → World → Prop} {l l0 : Fr} {H : List Ent} {sp : List Sa}
theorem Ua {all rest:List Oper}{o:Oper}{i:Nat}(hr:∀{E},DD P n c opsA Q (B2 all (QS sp) (DU sp i).deps l0) (H++E) o (DU sp i).r (H++E))(h:GK P n c opsA Q all sp l0 H (i+1) rest)(ha:(DU sp i).al=none:=by rfl)(hs:(DU sp i).sto=none:=by rfl):GK P n c opsA Q all sp l0 H i (o::rest):=by
 refine⟨?_,h⟩;unfold Sl;rw[hs,ha];exact λ_=>hr
end
def TV (p:Bool→Prop):Rp:=⟨λ_ v=>∃b,v = .bool b∧p b,λ_ h=>h,true,λ_ Z v ⟨b,e,_⟩=>by rw[e];rfl⟩
section
variable {P : Program} {n : Nat} {c : Cx} {ops : Array Oper} {Q : Exit → Act → World → Prop} {rest : List Oper} {l : Fr} {H : List Ent} {d : Option Nat} {ty rty t e : TypeId} {pos : String} {af : Array Edge} {g : Option (Nat × Bool)} {r : Rp} {x : Operand} {cx cy : Code} {sz : Nat} {xs : List (List Rp)}
theorem P6 {o:Operand}{p:Bool→Prop}(ho:ev l o=some (TV p))(h1:p true→WC P n c cx Q l H)(h2:p false→WC P n c cy Q l H):WC P n c (.cond o cx cy) Q l H:=λa w Z ha hw=>by
 obtain⟨b,e,hp⟩:=ha.ev ho;exact wp_cond_split e (λe=>h1 (e▸hp) a w Z ha hw) (λe=>h2 (e▸hp) a w Z ha hw)
theorem OH (ht:P.underlying t=some (.slice e))(h:ev l x=some (AY sz xs)):Bc P n c l H { dst:=d,op:=.binOp .eql t x (.const (.slice none 0 0)) rty,type:=ty,pos:=pos,after:=af,guard:=g } (TV (λb=>b=true→xs=[])):=λa w Z ha hw=>by
 obtain⟨A,cap,e1,h1,h2,h3,h4⟩:=ha.ev h;refine⟨.bool A.isNone,⟨_,rfl,λhb=>?_⟩,?_⟩
 ·cases A with
  | some a=>cases hb
  | none=>
   have:=h3 rfl;exact List.length_eq_zero_iff.1 (by omega)
 ·have:=run_equal_slice_nil (P:=P) w t e A xs.length cap ht;have e2:a.eval (.const (.slice none 0 0)) = .slice none 0 0:=rfl;simp[execOp,e1,e2,binOp,this,eqGuard]
end
section
variable {P : Program} {n : Nat} {c : Cx} {l : Fr} {H : List Ent} {d : Option Nat} {ty rty t e : TypeId} {pos : String} {af : Array Edge} {g : Option (Nat × Bool)} {x : Operand} {sz : Nat}
end
theorem D1 (s:ByteArray):MapKept.IsKey .string (.string s):=by simp[MapKept.IsKey]
theorem G5.keys {Z:Fz}:∀{f:List (List UInt8×Rp)} {es:List MapEntry},G5 Z f es→∀x∈es,MapKept.IsKey .string x.key
 | [],[],_,x,hx=>by cases hx
 | p::f,e::es,⟨⟨h1,h2⟩,h3⟩,x,hx=>by
  rcases List.mem_cons.1 hx with rfl | hx
  ·rw[h1];exact D1 _
  ·exact G5.keys h3 x hx
theorem G5.at {Z:Fz}:∀{f:List (List UInt8×Rp)} {es:List MapEntry},G5 Z f es→f.length=es.length∧∀(j:Nat) (e:MapEntry),es[j]? =some e→∃k r,f[j]? =some (k,r)∧e.key = .string (B k)∧r.p Z e.val
 | [],[],_=>⟨rfl,λj e h=>by simp at h⟩
 | p::f,e::es,⟨⟨h1,h2⟩,h3⟩=>by
  obtain⟨hl,ha⟩:=G5.at h3;refine⟨by simp[hl],λj e' hj=>?_⟩
  cases j with
  | zero=>simp at hj;subst hj;exact⟨p.1,p.2,rfl,h1,h2⟩
  | succ j=>simp at hj;simpa using ha j e' hj
theorem G5.of {Z:Fz}:∀{f:List (List UInt8×Rp)} {es:List MapEntry},f.length=es.length→(∀(j:Nat) (e:MapEntry),es[j]? =some e→∃k r,f[j]? =some (k,r)∧e.key = .string (B k)∧r.p Z e.val)→G5 Z f es
 | [],[],_,_=>trivial
 | p::f,e::es,hl,h=>by
  obtain⟨k,r,h1,h2,h3⟩:=h 0 e rfl;simp at h1;subst h1;exact⟨⟨h2,h3⟩,G5.of (by simpa using hl) λj e' hj=>by simpa using h (j+1) e' (by simpa using hj)⟩
 | [],_::_,hl,_=>by simp at hl
 | _::_,[],hl,_=>by simp at hl
theorem G5.snoc {Z:Fz}{k:List UInt8}{r:Rp}{e:MapEntry}(h1:e.key = .string (B k))(h2:r.p Z e.val):∀{f:List (List UInt8×Rp)} {es:List MapEntry},G5 Z f es→G5 Z (f++[(k,r)]) (es++[e])
 | [],[],_=>⟨⟨h1,h2⟩,trivial⟩
 | p::f,e'::es,⟨h,h3⟩=>⟨h,G5.snoc h1 h2 h3⟩
theorem G5.filter {Z:Fz}(q:MapEntry→Bool):∀{f:List (List UInt8×Rp)} {es:List MapEntry},G5 Z f es→∃g,G5 Z g (es.filter q)∧g.Sublist f
 | [],[],_=>⟨[],trivial,List.Sublist.refl _⟩
 | p::f,e::es,⟨h,h3⟩=>by
  obtain⟨g,hg,hs⟩:=G5.filter q h3
  cases hq:q e with
  | true=>exact⟨p::g,by rw[List.filter_cons_of_pos hq];exact⟨h,hg⟩,hs.cons_cons p⟩
  | false=>exact⟨g,by rw[List.filter_cons_of_neg (by simp[hq])];exact hg,hs.cons p⟩
theorem Mu {T:Type}:∀{m:List (Ak×T)} {k:Ak} {r:T},(m.map (·.1)).Nodup→(k,r)∈m→Bx m k=some r
 | p::m,k,r,hn,h=>by
  rw[UH,List.nodup_cons] at hn;rw[Bx];rcases List.mem_cons.1 h with h | h
  ·subst h;rw[Ul rfl];rfl
  ·have hne : ¬ p.1=k:=λe=>hn.1 (by rw[e];exact List.mem_map.2 ⟨(k,r),h,rfl⟩);rw[Uh hne];exact Mu hn.2 h
theorem KB {T:Type}:∀{m:List (Ak×T)} {k:Ak},(∀p∈m,p.1≠k)→Bx m k=none
 | [],_,_=>rfl
 | p::m,k,h=>by
  rw[Bx,Uh (h p (by simp))];exact KB λq hq=>h q (by simp[hq])
theorem T5 {a b:List UInt8}(h:B a=B b):a=b:=by
 have:=congrArg ByteArray.toList h
 rwa [C5,C5] at this
theorem HN {a b:List UInt8}(h:Value.string (B a) = .string (B b)):a=b:=T5 (by cases h;rfl)
theorem Lv {Z:Fz}{m:List (List UInt8×Rp)}{es:List MapEntry}{ck:Nat}(h:DE Z m es ck)(k:List UInt8) :
  (Instr.findNow .string (.string (B k)) es 0=some none∧Bx m k=none∧∀p∈m,p.1≠k)∨∃j e r,Instr.findNow .string (.string (B k)) es 0=some (some (j,e.val))∧es[j]? =some e∧e.key = .string (B k)∧Bx m k=some r∧r.p Z e.val:=by
 obtain⟨h1,h2,h3,f,h4,h5⟩:=h;obtain⟨hl,ha⟩:=h5.at;rcases MapKept.findNow_spec (D1 (B k)) es 0 h5.keys with⟨q1,q2⟩ | ⟨j,e,q1,q2,q3⟩
 ·have hne:∀p∈m,p.1≠k:=λp hp e=>by
   obtain⟨j,hj⟩:=List.mem_iff_getElem?.1 (h4.symm.subset hp);have hjl:j<es.length:=by rw[← hl];exact(List.getElem?_eq_some_iff.1 hj).1
   obtain⟨k',r',e1,e2,_⟩:=ha j es[j] (Uj hjl);rw[hj] at e1;cases e1;exact q2 es[j] (List.getElem_mem hjl) (by rw[e2,← e])
  exact .inl ⟨q1,KB hne,hne⟩
 ·obtain⟨k',r,e1,e2,e3⟩:=ha j e q2;rw[q3] at e2;obtain rfl:=HN e2;exact .inr ⟨j,e,r,by simpa using q1,q2,q3,Mu h1 (h4.subset (Um e1)),e3⟩
section
variable {P : Program} {n : Nat} {c : Cx} {ops : Array Oper} {Q : Exit → Act → World → Prop} {rest : List Oper} {l : Fr} {H : List Ent} {d : Nat} {d' : Option Nat} {ty t kt et rty : TypeId} {pos : String} {af : Array Edge} {g : Option (Nat × Bool)} {x y u : Operand} {K : Act → World → Prop} {cx : Code}
variable {T : Type} {enc : T → Rp} {xs : List (Ak × T)} {z : T} {k : Ak} {zv : Value} {i b : Nat}
theorem Hi {Z:Fz}{w:World}{m:List (List UInt8×Rp)}{rz:Rp}(ht:P.underlying t=some (.map kt et))(hk:P.underlying kt=some .string)(hz:∀w,(zeroValue et).run P w = .ok zv w)(hzr:rz.p Z zv)(hm:(Ent.map b m).holds Z w)(ok:Bool) :
  ∃v,((Bx m k).getD rz).p Z v∧(Instr.lookup t (.map (some b)) (.string (B k)) ok).run P w = .ok (if ok then .tuple #[v,.bool (Bx m k).isSome] else v) w:=by
 obtain⟨es,ck,h1,h2⟩:=hm;rcases Lv h2 k with⟨q1,q2,_⟩ | ⟨j,e,r,q1,_,_,q2,q3⟩
 ·exact⟨zv,by rw[q2];exact hzr,by simp[Instr.lookup,run_underlying ht,MapKept.run_getObj_map h1,MapKept.run_checkKey hk (D1 _),MapKept.run_findKey hk q1,hz,q2]⟩
 ·exact⟨e.val,by rw[q2];exact q3,by simp[Instr.lookup,run_underlying ht,MapKept.run_getObj_map h1,MapKept.run_checkKey hk (D1 _),MapKept.run_findKey hk q1,q2]⟩
theorem MA (enc:T→Rp)(xs:List (Ak×T))(k:Ak)(z:T):(Bx (AV enc xs) k).getD (enc z)=enc (AN xs k z):=by
 rw[GG];unfold AN;cases Bx xs k<;>rfl
theorem Nr (enc:T→Rp)(xs:List (Ak×T))(k:Ak):(Bx (AV enc xs) k).isSome=DM xs k:=by
 rw[GG];unfold DM;cases Bx xs k<;>rfl
theorem NN (ht:P.underlying t=some (.map kt et))(hk:P.underlying kt=some .string)(hz:∀w,(zeroValue et).run P w = .ok zv w)(hzr:∀Z,(enc z).p Z zv)(hx:ev l x=some (rv (.map (some b))))(hi:H[i]? =some (.map b (AV enc xs)))(hy:ev l y=some (rS k)) :
  Bc P n c l H { dst:=d',op:=.lookup t x y true,type:=ty,pos:=pos,after:=af,guard:=g } (Hb [enc (AN xs k z),rB (DM xs k)]):=λa w Z ha hw=>by
 obtain⟨v,h1,h2⟩:=Hi (k:=k) ht hk hz (hzr Z) (hw.ent hi) true;rw[MA] at h1;refine⟨.tuple #[v,.bool (DM xs k)],⟨[v,.bool (DM xs k)],rfl,h1,rfl,trivial⟩,?_⟩;rw[Nr] at h2;simp[execOp,ha.eval hx,ha.eval hy,h2]
theorem Qn (ht:P.underlying t=some (.map kt et))(hk:P.underlying kt=some .string)(hz:∀w,(zeroValue et).run P w = .ok zv w)(hzr:∀Z,(enc z).p Z zv)(hx:ev l x=some (rv (.map (some b))))(hi:H[i]? =some (.map b (AV enc xs)))(hy:ev l y=some (rS k)) :
  Bc P n c l H { dst:=d',op:=.lookup t x y false,type:=ty,pos:=pos,after:=af,guard:=g } (enc (AN xs k z)):=λa w Z ha hw=>by
 obtain⟨v,h1,h2⟩:=Hi (k:=k) ht hk hz (hzr Z) (hw.ent hi) false;rw[MA] at h1;simp only[UJ,UT] at h2;exact⟨v,h1,by simp[execOp,ha.eval hx,ha.eval hy,h2]⟩
theorem DE.length {Z:Fz}{m:List (List UInt8×Rp)}{es:List MapEntry}{ck:Nat}(h:DE Z m es ck):es.length=m.length:=by
 obtain⟨_,_,_,f,h4,h5⟩:=h;rw[← h5.at.1,h4.length_eq]
theorem SB {m:List (List UInt8×Rp)}{N:Nat}(ht:P.underlying t=some (.map kt et))(hx:ev l x=some (rv (.map (some b))))(hi:H[i]? =some (.map b m))(hN:m.length=N) :
  Bc P n c l H { dst:=d',op:=.call { callee:=.builtin .len,args:=#[x],argTypes:=#[t] },type:=ty,pos:=pos,after:=af,guard:=g } (rI .i64 N):=λa w Z ha hw=>Dk<|by
 obtain⟨es,ck,h1,h2⟩:=hw.ent hi;have hl:es.size=N:=by rw[← hN,← h2.length];simp
 simp[execOp,resolve,invoke,builtin,ha.eval hx,Builtin.len_,run_underlying ht,goInt,MapKept.run_getObj_map h1,hl]
theorem OJ {v:Option Nat}(ht:P.underlying t=some (.map kt et))(hx:ev l x=some (rv (.map v))):Bc P n c l H { dst:=d',op:=.binOp .neq t x (.const (.map none)) rty,type:=ty,pos:=pos,after:=af,guard:=g } (rB (!v.isNone)):=λa w Z ha hw=>Dk<|by
 have e2:a.eval (.const (.map none)) = .map none:=rfl;have h:=run_equal_map_nil (P:=P) w t kt et v ht;simp[execOp,ha.eval hx,e2,eqGuard,binOp,h]
theorem Oo (hn:Nat.blt d n=true)(h:∀b,WL P n c ops Q rest ((d,rv (.map (some b)))::l) (.map b []::H)) :
  WL P n c ops Q ({ dst:=some d,op:=.makeMap t none,type:=ty,pos:=pos,after:=af,guard:=none }::rest) l H:=
 Ht (λa w Z ha hw=>⟨_,w.alloc (.map #[] 0),_,_,Z,by simp[execOp,run_makeMap],Fz.le.refl _,rfl,
  hw.alloc _ (e:=.map w.heap.size []) ⟨#[],0,by simpa using heap_alloc_new w _,by simp,by simp,by simp,[],Ug _,trivial⟩ rfl,h w.heap.size⟩) hn
theorem Qe {m f:List (Ak×Rp)}(h:f.Perm m)(k:Ak)(r:Rp):(mput f k r).Perm (mput m k r):=h.map _
theorem NP {T:Type}:∀{f:List (Ak×T)} {j:Nat} {k:Ak} {r0:T} (r:T),(f.map (·.1)).Nodup→f[j]? =some (k,r0)→mput f k r=f.set j (k,r)
 | p::f,0,k,r0,r,hn,h=>by
  simp at h;subst h;rw[UH,List.nodup_cons] at hn;have:mput f k r=f:=by
   unfold mput;rw[List.map_congr_left (g:=id) (λq hq=>?_),List.map_id];have hne : ¬ q.1=k:=λe=>hn.1 (by rw[← e];exact List.mem_map.2 ⟨q,hq,rfl⟩);rw[Uh hne];rfl
  show(bif decide (k=k) then(k,r) else(k,r0))::mput f k r=_;rw[Ul rfl,this];rfl
 | p::f,j+1,k,r0,r,hn,h=>by
  rw[UH,List.nodup_cons] at hn;simp at h;have hne : ¬ p.1=k:=λe=>hn.1 (by rw[e];exact List.mem_map.2 ⟨(k,r0),Um h,rfl⟩);show(bif decide (p.1=k) then(k,r) else p)::mput f k r=_;rw[Uh hne,NP r hn.2 h];rfl
theorem NQ {T:Type}:∀{f:List (Ak×T)} {j:Nat} {k:Ak} {r0:T},(f.map (·.1)).Nodup→f[j]? =some (k,r0)→mdel f k=f.eraseIdx j
 | p::f,0,k,r0,hn,h=>by
  simp at h;subst h;rw[UH,List.nodup_cons] at hn;have:f.filter (λq=>!decide (q.1=k))=f:=List.filter_eq_self.2 λq hq=>by
   have hne : ¬ q.1=k:=λe=>hn.1 (by rw[← e];exact List.mem_map.2 ⟨q,hq,rfl⟩);simp[hne]
  unfold mdel;rw[List.filter_cons_of_neg (by simp),this];rfl
 | p::f,j+1,k,r0,hn,h=>by
  rw[UH,List.nodup_cons] at hn;simp at h;have hne : ¬ p.1=k:=λe=>hn.1 (by rw[e];exact List.mem_map.2 ⟨(k,r0),Um h,rfl⟩);unfold mdel;rw[List.filter_cons_of_pos (by simp[hne])];show p::mdel f k=_;rw[NQ hn.2 h];rfl
theorem ON {T:Type}(m:List (Ak×T))(k:Ak)(r:T):(mput m k r).map (·.1)=m.map (·.1):=by
 unfold mput;rw[US];refine List.map_congr_left λp _=>?_;simp only[Function.comp]
 by_cases h:p.1=k
 ·rw[Ul h];exact h.symm
 ·rw[Uh h];rfl
theorem OP {T:Type}{m:List (Ak×T)}{k:Ak}{r:T}(h:Bx m k=some r):DM m k=true:=by unfold DM;rw[h];rfl
theorem OQ {T:Type}{m:List (Ak×T)}{k:Ak}(h:Bx m k=none):DM m k=false:=by unfold DM;rw[h];rfl
theorem DE.put {Z:Fz}{m:List (Ak×Rp)}{es:List MapEntry}{ck j:Nat}{e:MapEntry}{k:Ak}{r0 r:Rp}{v:Value}(h:DE Z m es ck)(he:es[j]? =some e)(hk:e.key = .string (B k))(hm:Bx m k=some r0)(hr:r.p Z v) :
  DE Z (mset m k r) (es.set j { e with key:=.string (B k),val:=v }) ck:=by
 obtain⟨h1,h2,h3,f,h4,h5⟩:=h;obtain⟨hl,ha⟩:=h5.at;have hjl:=(List.getElem?_eq_some_iff.1 he).1;unfold mset;rw[OP hm,Ut];obtain⟨k',r',e1,e2,_⟩:=ha j e he;rw[hk] at e2;obtain rfl:=HN e2;have hfn:(f.map (·.1)).Nodup:=(h4.map (·.1)).nodup_iff.2 h1;refine⟨by rw[ON];exact h1,?_,?_,f.set j (k,r),?_,G5.of (by simp[hl]) λi x hx=>?_⟩
 ·rw[List.map_set];have:(es.map (·.born)).set j e.born=es.map (·.born):=by
   apply List.ext_getElem?;intro i;rw[List.getElem?_set]
   split
   ·rename_i hij;subst hij
    simp[hjl,List.getElem?_eq_some_iff.1 he |>.2]
   ·rfl
  show((es.map (·.born)).set j e.born).Nodup;rw[this];exact h2
 ·intro x hx;rcases List.mem_or_eq_of_mem_set hx with hx | rfl
  ·exact h3 x hx
  ·exact h3 e (Um he)
 ·have:=Qe h4 k r
  rwa [NP r hfn e1] at this
 ·rw[List.getElem?_set] at hx ⊢
  split at hx
  ·rename_i hij;subst hij
   cases hx
   exact⟨k,r,by rw[if_pos rfl,if_pos (by rw[hl];exact hjl)],rfl,hr⟩
  ·rename_i hij
   rw[UP hij];exact ha i x hx
theorem DE.ins {Z:Fz}{m:List (Ak×Rp)}{es:List MapEntry}{ck:Nat}{k:Ak}{r:Rp}{v:Value}(h:DE Z m es ck)(hm:Bx m k=none)(hk:∀p∈m,p.1≠k)(hr:r.p Z v) :
  DE Z (mset m k r) (es++[{ key:=.string (B k),val:=v,born:=ck }]) (ck+1):=by
 obtain⟨h1,h2,h3,f,h4,h5⟩:=h;unfold mset;rw[OQ hm,Un];have hp:=I2 k r m;refine⟨?_,?_,?_,f++[(k,r)],?_,G5.snoc rfl hr h5⟩
 ·rw[(hp.map (·.1)).nodup_iff,UH,List.nodup_cons];exact⟨λhx=>by obtain⟨p,hp,e⟩:=List.mem_map.1 hx;exact hk p hp e,h1⟩
 ·rw[List.map_append,List.nodup_append];refine⟨h2,by simp,λa ha b hb e=>?_⟩;simp at hb;subst hb;obtain⟨x,hx,e'⟩:=List.mem_map.1 ha;have:=h3 x hx;omega
 ·intro x hx;rcases List.mem_append.1 hx with hx | hx
  ·have:=h3 x hx;omega
  ·simp at hx;subst hx;exact Ur _
 ·exact(List.perm_append_comm (l₁:=f) (l₂:=[(k,r)])).trans ((h4.cons (k,r)).trans hp.symm)
theorem DE.del {Z:Fz}{m:List (Ak×Rp)}{es:List MapEntry}{ck j:Nat}{e:MapEntry}{k:Ak}(h:DE Z m es ck)(he:es[j]? =some e)(hk:e.key = .string (B k)):DE Z (mdel m k) (es.eraseIdx j) ck:=by
 obtain⟨h1,h2,h3,f,h4,h5⟩:=h;obtain⟨hl,ha⟩:=h5.at;obtain⟨k',r',e1,e2,_⟩:=ha j e he;rw[hk] at e2;obtain rfl:=HN e2;have hfn:(f.map (·.1)).Nodup:=(h4.map (·.1)).nodup_iff.2 h1;have hs:=List.eraseIdx_sublist es j;refine⟨h1.sublist ((List.filter_sublist ..).map _),h2.sublist (hs.map _),λx hx=>h3 x (hs.subset hx),f.eraseIdx j,?_,G5.of (by rw[List.length_eraseIdx,List.length_eraseIdx,hl]) λi x hx=>?_⟩
 ·rw[← NQ hfn e1];exact h4.filter _
 ·rw[List.getElem?_eraseIdx] at hx ⊢
  split at hx
  ·rename_i hij;rw[if_pos hij];exact ha i x hx
  ·rename_i hij;rw[UP hij];exact ha (i+1) x hx
theorem OV {m:List (Ak×Rp)}{k:Ak}(hk:∀p∈m,p.1≠k):mdel m k=m:=List.filter_eq_self.2 λp hp=>by simp[hk p hp]
theorem St.mapset {Z:Fz}{w:World}(h:St c H Z w){m m':List (Ak×Rp)}(hi:H[i]? =some (.map b m)){es es':Array MapEntry}{ck ck':Nat}(h1:w.heap[b]? =some (.map es ck))(h2:DE Z m' es'.toList ck') :
  St c (H.set i (.map b m')) Z { w with heap:=w.heap.setIfInBounds b (.map es' ck') }:=by
 obtain⟨q1,q2⟩:=MapKept.heap_set (o':=.map es' ck') h1;exact h.set hi rfl rfl rfl (by simp) (λk _ hk=>q2 k (by simpa[Ent.foot] using hk)) ⟨es',ck',q1,h2⟩ (by simp[Ent.foot])
theorem Le (s:ByteArray):Instr.sameBits 10000 (.string s) (.string s)=true:=by
 show(s ==s)=true;exact(MapKept.bytes_beq s s).2 rfl |> λh=>by simpa using h
theorem Su {r:Rp}{m:List (Ak×Rp)}(ht:P.underlying t=some (.map kt et))(hk:P.underlying kt=some .string)(hx:ev l x=some (rv (.map (some b))))(hi:H[i]? =some (.map b m))(hy:ev l y=some (rS k))(hu:ev l u=some r){H':List Ent}(hH:H.set i (.map b (mset m k r))=H')(h:WL P n c ops Q rest l H') :
  WL P n c ops Q ({ dst:=none,op:=.mapUpdate t x y u,type:=ty,pos:=pos,after:=af,guard:=none }::rest) l H:=
 KW λa w Z ha hw=>by
  obtain⟨es,ck,h1,h2⟩:=hw.ent hi;have hv:=ha.ev hu;subst hH;rcases Lv h2 k with⟨q1,q2,q3⟩ | ⟨j,e,r0,q1,q2,q3,q4,_⟩
  ·refine⟨_,_,?_,hw.mapset hi h1 (es':=es.push { key:=.string (B k),val:=a.eval u,born:=ck }) (by simpa using h2.ins q2 q3 hv),h⟩;simp[execOp,ha.eval hx,ha.eval hy,Instr.mapUpdate,run_underlying ht,MapKept.run_getObj_map h1,MapKept.run_checkKey hk (D1 _),MapKept.run_findKey hk q1,MapKept.run_setObj_map _ h1]
  ·have hje:es[j]? =some e:=by simpa using q2
   refine⟨_,_,?_,hw.mapset hi h1 (es':=es.modify j λe=>{ e with key:=.string (B k),val:=a.eval u }) (ck':=ck) (by
    have:=h2.put q2 q3 q4 hv;have e1:(es.modify j λe=>{ e with key:=.string (B k),val:=a.eval u }).toList=es.toList.set j { e with key:=.string (B k),val:=a.eval u }:=by
     rw[Array.toList_modify];rw[List.modify_eq_set,q2];rfl
    rw[e1];exact this),h⟩
   have hkey:((es[j]?).map (·.key)).getD (.string (B k)) = .string (B k):=by rw[hje];exact q3
   simp[execOp,ha.eval hx,ha.eval hy,Instr.mapUpdate,run_underlying ht,MapKept.run_getObj_map h1,MapKept.run_checkKey hk (D1 _),MapKept.run_findKey hk q1,MapKept.run_setObj_map _ h1,hkey,Instr.keyThatStays,Le]
theorem Sb {op:Op}{ty:TypeId}{pos:String}{af:Array Edge}
  (hr:∀a w Z,Cl n l a Z→St c H Z w→∃v w' H',(execOp a.eval { dst:=none,op:=op,type:=ty,pos:=pos,after:=af,guard:=none }).run P w = .ok (.value v) w'∧St c H' Z w'∧WL P n c ops Q rest l H') :
  WL P n c ops Q ({ dst:=none,op:=op,type:=ty,pos:=pos,after:=af,guard:=none }::rest) l H:=λa w Z ha hw=>
 wpList_plain rfl λK hK=>by
  obtain⟨v,w',H',h1,h2,h3⟩:=hr a w Z ha hw;unfold Oper.wp;rw[h1];exact hK _ _ (h3 _ w' Z (ha.put_none _) h2)
theorem Sv {m:List (Ak×Rp)}(ht:P.underlying t=some (.map kt et))(hk:P.underlying kt=some .string){kt':TypeId}(hx:ev l x=some (rv (.map (some b))))(hi:H[i]? =some (.map b m))(hy:ev l y=some (rS k)){H':List Ent}(hH:H.set i (.map b (mdel m k))=H')(h:WL P n c ops Q rest l H') :
  WL P n c ops Q ({ dst:=none,op:=.call { callee:=.builtin .delete,args:=#[x,y],argTypes:=#[t,kt'] },type:=ty,pos:=pos,after:=af,guard:=none }::rest) l H:=
 Sb (λa w Z ha hw=>by
  obtain⟨es,ck,h1,h2⟩:=hw.ent hi;subst hH;rcases Lv h2 k with⟨q1,q2,q3⟩ | ⟨j,e,r0,q1,q2,q3,q4,_⟩
  ·refine⟨.tuple #[],_,_,?_,hw.mapset hi h1 (es':=es) (ck':=ck) (by rw[OV q3];exact h2),h⟩;simp[execOp,resolve,invoke,builtin,ha.eval hx,ha.eval hy,Builtin.delete_,run_underlying ht,MapKept.run_getObj_map h1,MapKept.run_checkKey hk (D1 _),MapKept.run_findKey hk q1,MapKept.run_setObj_map _ h1]
  ·refine⟨.tuple #[],_,_,?_,hw.mapset hi h1 (es':=es.eraseIdxIfInBounds j) (ck':=ck) (by
    have e1:(es.eraseIdxIfInBounds j).toList=es.toList.eraseIdx j:=by simp
    rw[e1];exact h2.del q2 q3),h⟩
   simp[execOp,resolve,invoke,builtin,ha.eval hx,ha.eval hy,Builtin.delete_,run_underlying ht,MapKept.run_getObj_map h1,MapKept.run_checkKey hk (D1 _),MapKept.run_findKey hk q1,MapKept.run_setObj_map _ h1])
theorem N5 {v:T}(ht:P.underlying t=some (.map kt et))(hk:P.underlying kt=some .string)(hx:ev l x=some (rv (.map (some b))))(hi:H[i]? =some (.map b (AV enc xs)))(hy:ev l y=some (rS k))(hu:ev l u=some (enc v)){H':List Ent}(hH:H.set i (.map b (AV enc (mset xs k v)))=H')(h:WL P n c ops Q rest l H') :
  WL P n c ops Q ({ dst:=none,op:=.mapUpdate t x y u,type:=ty,pos:=pos,after:=af,guard:=none }::rest) l H:=Su ht hk hx hi hy hu (by rw[← Qt];exact hH) h
theorem Rk (ht:P.underlying t=some (.map kt et))(hk:P.underlying kt=some .string){kt':TypeId}(hx:ev l x=some (rv (.map (some b))))(hi:H[i]? =some (.map b (AV enc xs)))(hy:ev l y=some (rS k)){H':List Ent}(hH:H.set i (.map b (AV enc (mdel xs k)))=H')(h:WL P n c ops Q rest l H') :
  WL P n c ops Q ({ dst:=none,op:=.call { callee:=.builtin .delete,args:=#[x,y],argTypes:=#[t,kt'] },type:=ty,pos:=pos,after:=af,guard:=none }::rest) l H:=Sv ht hk hx hi hy (by rw[← Qx];exact hH) h
end
theorem Ik {q:MapEntry→Bool}:∀{l:List MapEntry} {j:Nat} {e:MapEntry},(l.map (·.born)).Nodup→l[j]? =some e→l.filter (λx=>!(x.born ==e.born))=l.eraseIdx j
 | x::l,0,e,hn,h=>by
  simp at h;subst h;rw[UH,List.nodup_cons] at hn;rw[List.filter_cons_of_neg (by simp),List.filter_eq_self.2 λy hy=>?_];rfl;have:y.born≠x.born:=λe=>hn.1 (by rw[← e];exact List.mem_map.2 ⟨y,hy,rfl⟩);simp[this]
 | x::l,j+1,e,hn,h=>by
  rw[UH,List.nodup_cons] at hn;simp at h;have hne:x.born≠e.born:=λe'=>hn.1 (by rw[e'];exact List.mem_map.2 ⟨e,Um h,rfl⟩);rw[List.filter_cons_of_pos (by simp[hne]),Ik (q:=q) hn.2 h];rfl
theorem G5.erase {Z:Fz}:∀{f:List (List UInt8×Rp)} {es:List MapEntry} (j:Nat),G5 Z f es→G5 Z (f.eraseIdx j) (es.eraseIdx j)
 | [],[],j,_=>by simp[G5]
 | p::f,e::es,0,⟨_,h⟩=>h
 | p::f,e::es,j+1,⟨h,h3⟩=>⟨h,G5.erase j h3⟩
theorem NK {α:Type}:∀{l:List α} {j:Nat} {a:α},l[j]? =some a→l.Perm (a::l.eraseIdx j)
 | x::l,0,a,h=>by simp at h;subst h;exact Ug _
 | x::l,j+1,a,h=>by
  simp at h;exact((NK h).cons x).trans (List.Perm.swap a x _)
theorem Qf {T:Type}{enc:T→Rp}{ys:List (Ak×T)}{f:List (Ak×Rp)}{j:Nat}{k:Ak}{r:Rp}(h:f.Perm (AV enc ys))(hj:f[j]? =some (k,r)):∃ (p:Ak×T) (ys':List (Ak×T)),ys.Perm (p::ys')∧p.1=k∧enc p.2=r∧(f.eraseIdx j).Perm (AV enc ys'):=by
 have hm:(k,r)∈AV enc ys:=h.subset (Um hj);obtain⟨p,hp,e⟩:=List.mem_map.1 hm;simp only[Prod.mk.injEq] at e;obtain⟨a,b,rfl⟩:=List.append_of_mem hp;refine⟨p,a++b,List.perm_middle,e.1,e.2,?_⟩;have h1:f.Perm ((k,r)::f.eraseIdx j):=by
  exact NK hj
 have h2:(AV enc (a++p::b)).Perm ((k,r)::AV enc (a++b)):=by
  have:(AV enc (a++p::b)).Perm (AV enc (p::(a++b))):=List.perm_middle.map _;refine this.trans ?_;show((p.1,enc p.2)::AV enc (a++b)).Perm _;rw[e.1,e.2]
 exact((h1.symm.trans h).trans h2).cons_inv
section
variable {P : Program} {n : Nat} {c : Cx} {ops : Array Oper} {Q : Exit → Act → World → Prop} {rest : List Oper} {l : Fr} {H : List Ent} {d : Nat} {ty t kt et rty : TypeId} {pos : String} {af : Array Edge} {x y u : Operand} {K : Act → World → Prop} {cx : Code}
variable {T : Type} {enc : T → Rp} {xs ys : List (Ak × T)} {i b it : Nat} {m lf : List (List UInt8 × Rp)} {cur : Option (List UInt8 × Rp)} {k : Ak} {r : Rp}
theorem Rf (ht:P.underlying t=some (.map kt et))(hx:ev l x=some (rv (.map (some b))))(hi:H[i]? =some (.map b m))(hn:Nat.blt d n=true)(h:∀it,WL P n c ops Q rest ((d,rv (.pointer (some ⟨it,0,none⟩)))::l) (H.set i (.mit b it m m none))) :
  WL P n c ops Q ({ dst:=some d,op:=.range t x,type:=ty,pos:=pos,after:=af,guard:=none }::rest) l H:=
 Ht (λa w Z ha hw=>by
  obtain⟨es,ck,h1,h2⟩:=hw.ent hi;have hb:b<w.heap.size:=(Array.getElem?_eq_some_iff.1 h1).1;have hf:es.toList.filter (λe=>!(#[]:Array Nat).contains e.born)=es.toList:=List.filter_eq_self.2 λ_ _=>by simp
  obtain⟨f,h4,h5⟩:=h2.2.2.2;refine⟨.pointer (some ⟨w.heap.size,0,none⟩),w.alloc (.mapIter (some b) ck #[] ck),_,_,Z,?_,Fz.le.refl _,rfl,hw.set hi rfl rfl rfl (by simp) (λk hk _=>Below.heap_alloc w _ k hk) ?_ ?_,h w.heap.size⟩
  ·simp[execOp,ha.eval hx,run_range_map w t kt et b es ck ht h1]
  ·exact⟨es,ck,#[],ck,ck,(Below.heap_alloc w _ b hb).trans h1,by simpa using heap_alloc_new w _,h2,h2.2.2.1,Uv _,Uv _,Nat.ne_of_lt hb,⟨f,h4,by rw[hf];exact h5⟩,trivial⟩
  ·intro k hk;simp only[Ent.foot,UM,List.not_mem_nil,or_false] at hk;rcases hk with rfl | rfl
   ·exact .inl (by simp[Ent.foot])
   ·exact .inr (Uv _)) hn
theorem Ss (hx:ev l x=some (rv (.pointer (some ⟨it,0,none⟩))))(hi:H[i]? =some (.mit b it m (AV enc ys) cur))(hn:Nat.blt d n=true)
  (h0:ys=[]→WL P n c ops Q rest ((d,Hb [rB false])::l) H)
  (h1:∀p ys',ys.Perm (p::ys')→WL P n c ops Q rest ((d,Hb [rB true,rS p.1,enc p.2])::l) (H.set i (.mit b it m (AV enc ys') (some (p.1,enc p.2))))) :
  WL P n c ops Q ({ dst:=some d,op:=.next x false,type:=ty,pos:=pos,after:=af,guard:=none }::rest) l H:=
 Ht (λa w Z ha hw=>by
  obtain⟨es,ck,seen,since,c0,q1,q2,q3,q4,q5,q6,q7,⟨f,q8,q9⟩,_⟩:=hw.ent hi;have hlf:(leftOf es seen).toList=es.toList.filter λe=>!seen.contains e.born:=by simp[leftOf]
  rcases run_next_at (P:=P) w ty it b since c0 seen es ck q2 q1 q4 q5 with⟨r1,r2⟩ | ⟨e,r1,w1,r2,r3⟩
  ·have he:es.toList.filter (λe=>!seen.contains e.born)=[]:=by rw[← hlf];exact U7 (by simpa using r1)
   rw[he] at q9;have hf:f=[]:=by cases f with
    | nil=>rfl
    | cons _ _=>exact absurd q9 id
   subst hf;have hy:ys=[]:=by
    have:=q8.length_eq;rw[GH] at this;exact U7 this.symm
   exact⟨.tuple #[.bool false],w,Hb [rB false],H,Z,by simp[execOp,ha.eval hx,r2],Fz.le.refl _,⟨[.bool false],rfl,rfl,trivial⟩,hw,h0 hy⟩
  ·rw[hlf] at r1;obtain⟨j,hj⟩:=List.mem_iff_getElem?.1 r1;obtain⟨k,r,e1,e2,e3⟩:=q9.at.2 j e hj;obtain⟨p,ys',s1,s2,s3,s4⟩:=Qf q8 e1;have hnl:((es.toList.filter λe=>!seen.contains e.born).map (·.born)).Nodup:=q3.2.1.sublist ((List.filter_sublist ..).map _);have hleft:es.toList.filter (λx=>!(seen.push e.born).contains x.born)=(es.toList.filter λe=>!seen.contains e.born).eraseIdx j:=by
    rw[← Ik (q:=λ_=>true) hnl hj,List.filter_filter];refine List.filter_congr λx _=>?_;simp only[Array.contains_push,Bool.not_or];rw[Bool.and_comm]
   have hd:St c H Z w1:=by
    rcases r2 with rfl | rfl
    ·exact hw
    ·exact hw.drawn _
   have q2':w1.heap[it]? =some (.mapIter (some b) since seen c0):=by rcases r2 with rfl | rfl<;>exact q2
   have q1':w1.heap[b]? =some (.map es ck):=by rcases r2 with rfl | rfl<;>exact q1
   obtain⟨t1,t2⟩:=MapKept.heap_set (o':=.mapIter (some b) since (seen.push e.born) ck) q2';refine⟨.tuple #[.bool true,e.key,e.val],ChangeMaps.setBlock w1 it (.mapIter (some b) since (seen.push e.born) ck),Hb [rB true,rS p.1,enc p.2],H.set i (.mit b it m (AV enc ys') (some (p.1,enc p.2))),Z,by simp[execOp,ha.eval hx,r3],Fz.le.refl _,⟨[.bool true,e.key,e.val],rfl,rfl,?_,?_,trivial⟩,hd.set hi rfl rfl rfl (by simp[ChangeMaps.setBlock]) (λk' _ hk'=>t2 k' (λe'=>hk' (by simp[Ent.foot,e']))) ?_ (λk' hk'=>.inl (by simpa[Ent.foot] using hk')),h1 p ys' s1⟩
   ·show e.key = .string (B p.1);rw[s2];exact e2
   ·rw[s3];exact e3
   ·exact⟨es,ck,seen.push e.born,since,ck,(t2 b q7).trans q1',t1,q3,q4,Nat.le_trans q5 q6,Uv _,q7,⟨f.eraseIdx j,s4,by rw[hleft];exact q9.erase j⟩,rfl,seen,e,rfl,(List.mem_filter.1 r1).1,by rw[s2];exact e2,by rw[s3];exact e3⟩) hn
theorem St.unmit {Z:Fz}{w:World}(h:St c H Z w)(hi:H[i]? =some (.mit b it m lf cur)):St c (H.set i (.map b m)) Z w:=by
 obtain⟨es,ck,seen,since,c0,q1,q2,q3,_⟩:=h.ent hi;exact h.set hi rfl rfl rfl (Uv _) (λ_ _ _=>rfl) ⟨es,ck,q1,q3⟩ (by simp[Ent.foot])
theorem WK.unmit (hi:H[i]? =some (.mit b it m lf cur))(h:WK n c K l (H.set i (.map b m))):WK n c K l H:=λa w Z ha hw=>h a w Z ha (hw.unmit hi)
theorem WC.unmit (hi:H[i]? =some (.mit b it m lf cur))(h:WC P n c cx Q l (H.set i (.map b m))):WC P n c cx Q l H:=λa w Z ha hw=>h a w Z ha (hw.unmit hi)
theorem WL.unmit (hi:H[i]? =some (.mit b it m lf cur))(h:WL P n c ops Q rest l (H.set i (.map b m))):WL P n c ops Q rest l H:=λa w Z ha hw=>h a w Z ha (hw.unmit hi)
theorem St.uncur {Z:Fz}{w:World}(h:St c H Z w)(hi:H[i]? =some (.mit b it m lf cur)):St c (H.set i (.mit b it m lf none)) Z w:=by
 obtain⟨es,ck,seen,since,c0,q1,q2,q3,q4,q5,q6,q7,q8,_⟩:=h.ent hi;exact h.set hi rfl rfl rfl (Uv _) (λ_ _ _=>rfl) ⟨es,ck,seen,since,c0,q1,q2,q3,q4,q5,q6,q7,q8,trivial⟩ (λk hk=>.inl (by simpa[Ent.foot] using hk))
theorem WK.uncur (hi:H[i]? =some (.mit b it m lf cur))(h:WK n c K l (H.set i (.mit b it m lf none))):WK n c K l H:=λa w Z ha hw=>h a w Z ha (hw.uncur hi)
theorem R8 {dd:Option Nat}{g:Option (Nat×Bool)}(hx:ev l x=some (rv (.pointer (some ⟨it,0,none⟩))))(hi:H[i]? =some (.mit b it m lf (some (k,r)))) :
  Bc P n c l H { dst:=dd,op:=.entry x,type:=ty,pos:=pos,after:=af,guard:=g } (Hb [rS k,r]):=λa w Z ha hw=>by
 obtain⟨es,ck,seen,since,c0,q1,q2,q3,q4,q5,q6,q7,q8,rfl,s0,e,rfl,h1,h2,h3⟩:=hw.ent hi;exact⟨.tuple #[e.key,e.val],⟨[e.key,e.val],rfl,h2,h3,trivial⟩,by simp[execOp,ha.eval hx,run_entry_at w it b since s0 es c0 e q2 q1 h1 q3.2.1]⟩
end
section
variable {P : Program} {n : Nat} {c : Cx} {opsA : Array Oper} {Q : Exit → Act → World → Prop} {l : Fr} {H : List Ent} {d : Nat} {ty : TypeId} {pos : String} {af : Array Edge}
end
section
variable {P : Program} {n : Nat} {c : Cx} {ops : Array Oper} {Q : Exit → Act → World → Prop} {rest : List Oper} {l : Fr} {H H' : List Ent} {d : Nat} {d' : Option Nat} {x y z3 : Operand} {ty t t' e : TypeId} {pos : String} {af : Array Edge} {g : Option (Nat × Bool)} {v u : Value} {r : Rp} {sz : Nat}
theorem JO {α:Type}{ys:List α}{enc:α→List Rp}{k':IntKind}{j:Int}(ht:P.underlying t=some (.slice e))(hz:∀w,(sizeOf e).run P w = .ok sz w)(h:ev l x=some (AY sz (ys.map enc)))(hj:ev l z3=some (rI k' j))(hg2:Ki j (ys.length:Int)=true) :
  Bc P n c l H { dst:=d',op:=.slice t x none (some z3) none,type:=ty,pos:=pos,after:=af,guard:=g } (AY sz ((ys.take j.toNat).map enc)):=λa w Z ha hw=>by
 obtain⟨A,cap,e1,hc1,hc2,hA,hc⟩:=ha.ev h;have h2:=(Dn hg2).2;have hj0:0≤j:=(Dn hg2).1;simp only[Us] at e1 hc1;have h3:j≤(cap:Int):=by omega
 refine⟨.slice (if cap=0 then A else A.map (·.add (0*sz))) j.toNat cap,⟨if cap=0 then A else A.map (·.add (0*sz)),cap,?_,?_,by omega,?_,λq cl hq=>?_⟩,by simp[execOp,e1,ha.eval hj,Instr.sliceAt,Instr.slice,run_underlying ht,Instr.sliceBounds,B5 (m:=cap) _ _ hj0 h3,hz]⟩
 ·congr 1
  simp;omega
 ·simp;omega
 ·intro hn
  split at hn
  ·have:=hA hn;omega
  ·have:=hA (by simpa using hn);omega
 ·rw[U4] at hq
  cases hq':(List.take j.toNat ys)[q]? with
  | none=>rw[hq'] at hq;cases hq
  | some yy=>
   rw[hq'] at hq;simp only[Option.map_some,Option.some.injEq] at hq;subst hq;rw[UB] at hq'
   split at hq'
   ·rename_i hlt
    obtain⟨hl,ad,rfl,hs,hcs⟩:=hc q (enc yy) (by simp[hq']);obtain⟨b,off,spot⟩:=ad;simp only at hs;subst hs;have hne : ¬ cap=0:=by omega
    refine⟨hl,⟨b,off+0*sz,none⟩,by simp[hne,GJ],rfl,λq' r' hr'=>?_⟩;obtain⟨u,hu,hp⟩:=hcs q' r' hr';refine⟨u,?_,hp⟩;have:off+0*sz+(q*sz+q')=off+(q*sz+q'):=by omega
    simp only;rw[this];exact hu
   ·cases hq'
end
theorem AS.d1 {Z:Fz}{r0:Rp}{us:List Value}(h:AS Z [r0] us):∃y0,us=[y0]∧AS Z [r0] [y0]:=by
 match us,h.length with
 | [y0],_=>exact⟨_,rfl,h⟩
theorem AS.d2 {Z:Fz}{r0 r1:Rp}{us:List Value}(h:AS Z [r0,r1] us):∃y0 y1,us=[y0,y1]∧AS Z [r0,r1] [y0,y1]:=by
 match us,h.length with
 | [y0,y1],_=>exact⟨_,_,rfl,h⟩
theorem AS.d3 {Z:Fz}{r0 r1 r2:Rp}{us:List Value}(h:AS Z [r0,r1,r2] us):∃y0 y1 y2,us=[y0,y1,y2]∧AS Z [r0,r1,r2] [y0,y1,y2]:=by
 match us,h.length with
 | [y0,y1,y2],_=>exact⟨_,_,_,rfl,h⟩
theorem AS.d5 {Z:Fz}{r0 r1 r2 r3 r4:Rp}{us:List Value}(h:AS Z [r0,r1,r2,r3,r4] us):∃y0 y1 y2 y3 y4,us=[y0,y1,y2,y3,y4]∧AS Z [r0,r1,r2,r3,r4] [y0,y1,y2,y3,y4]:=by
 match us,h.length with
 | [y0,y1,y2,y3,y4],_=>exact⟨_,_,_,_,_,rfl,h⟩
theorem MB {α:Type}{sz:Nat}:∀{xs:List (List α)} (hs:∀c∈xs,c.length=sz) {k:Nat} {cl:List α},xs[k]? =some cl→∀(off m:Nat),off+m≤sz→((xs.flatten).drop (k*sz+off)).take m=(cl.drop off).take m
 | [],_,k,cl,h,_,_,_=>by simp at h
 | x::r,hs,0,cl,h,off,m,hm=>by
  simp at h;subst h;have hx:=hs x (by simp);simp only[List.flatten_cons,Nat.zero_mul,UE];rw[List.drop_append_of_le_length (by omega),List.take_append_of_le_length (by simp;omega)]
 | x::r,hs,k+1,cl,h,off,m,hm=>by
  have hx:=hs x (by simp);simp only[List.flatten_cons];have e:(k+1)*sz+off=x.length+(k*sz+off):=by rw[hx,Nat.succ_mul];omega
  rw[e,List.drop_length_add_append];exact MB (λc hc=>hs c (by simp[hc])) (by simpa using h) off m hm
theorem MC {α:Type}{sz:Nat}:∀{xs:List (List α)} (hs:∀c∈xs,c.length=sz) {k:Nat} {cl rs:List α},xs[k]? =some cl→∀(off:Nat),off+rs.length≤sz→(xs.set k (cl.take off++rs++cl.drop (off+rs.length))).flatten=xs.flatten.take (k*sz+off)++rs++xs.flatten.drop (k*sz+off+rs.length)
 | [],_,k,cl,rs,h,_,_=>by simp at h
 | x::r,hs,0,cl,rs,h,off,hm=>by
  simp at h;subst h;have hx:=hs x (by simp);simp only[List.set_cons_zero,List.flatten_cons,Nat.zero_mul,UE];rw[List.take_append_of_le_length (by omega),List.drop_append_of_le_length (by omega)];simp[U5]
 | x::r,hs,k+1,cl,rs,h,off,hm=>by
  have hx:=hs x (by simp);simp only[List.set_cons_succ,List.flatten_cons];have e:(k+1)*sz+off=x.length+(k*sz+off):=by rw[hx,Nat.succ_mul];omega
  have e2:x.length+(k*sz+off)+rs.length=x.length+(k*sz+off+rs.length):=by omega
  rw[MC (λc hc=>hs c (by simp[hc])) (by simpa using h) off hm,e,e2,List.take_length_add_append,List.drop_length_add_append];simp[U5]
section
variable {P : Program} {n : Nat} {c : Cx} {ops : Array Oper} {Q : Exit → Act → World → Prop} {rest : List Oper} {l : Fr} {H H' : List Ent} {d : Nat} {d' : Option Nat} {ty t e rty : TypeId} {pos : String} {af : Array Edge} {g : Option (Nat × Bool)} {x y u : Operand} {v : Value} {sz m : Nat}
theorem If {α:Type}[Inhabited α]{ys:List α}{enc:α→List Rp}{i off:Nat}{j:Int}{rs:List Rp}(hag:∀w,(isAgg t).run P w = .ok true w)(hsz:∀w,(sizeOf t).run P w = .ok m w)(hx:ev l x=some (rv (C6 sz v j.toNat off)))(hi:H[i]? =some (.row v e sz (ys.map enc)))(hg:D2 j (ys.length:Int)=true)
  (hle:Nat.ble (off+m) sz=true) (hr:((enc (Aj ys j)).drop off).take m=rs) :
  Bc P n c l H { dst:=d',op:=.load t x,type:=ty,pos:=pos,after:=af,guard:=g } (Bf rs):=λa w Z ha hw=>by
 obtain⟨hs,us,⟨h1,h2⟩,h3⟩:=hw.ent hi;have h0:=(Cr hg).1;have hlt:j.toNat<ys.length:=by have:=(Cr hg).2;omega
 have eat:Aj ys j=ys[j.toNat]:=by simp[Aj,hlt]
 have hle':off+m≤sz:=by simpa using hle
 have hcl:(ys.map enc)[j.toNat]? =some (enc ys[j.toNat]):=by simp[hlt]
 have hcz:(enc ys[j.toNat]).length=sz:=hs _ (Um hcl);have hseg:=MB hs hcl off m hle';rw[← eat,hr] at hseg;have h4:=(h3.drop (j.toNat*sz+off)).take m;rw[hseg] at h4;have hrl:rs.length=m:=by rw[← hr,eat];simp;omega
 rcases h2 with⟨rfl,hz⟩ | ⟨b,cap,cur,rfl,_,hg',hcap,hm,hcs,htk⟩
 ·simp at hz;subst hz;simp at hlt
 ·have h5:=run_loadCells_list (P:=P) w ⟨b,j.toNat*sz+off,none⟩ ((us.drop (j.toNat*sz+off)).take m) (λq w' hq=>by
   rw[GJ,cell_of_row w b _ cur e (0,0) hg'];rw[UB] at hq
   split at hq
   ·rw[List.getElem?_drop,← htk,UB] at hq
    split at hq
    ·simpa using hq
    ·cases hq
   ·cases hq)
  rw[h4.length,hrl] at h5;exact⟨.agg ((us.drop (j.toNat*sz+off)).take m).toArray,⟨_,rfl,h4⟩,by simp[execOp,ha.eval hx,C6,Instr.loadAt,Instr.sureAddr,loadVar,hag,hsz,h5]⟩
theorem Rj {α:Type}[Inhabited α]{ys:List α}{enc:α→List Rp}{i off:Nat}{j:Int}{rs:List Rp}{y':α}(hsz:∀w,(sizeOf t).run P w = .ok m w)(hx:ev l x=some (rv (C6 sz v j.toNat off)))(hy:ev l y=some (Bf rs))(hv:BV H rs)(hi:H[i]? =some (.row v e sz (ys.map enc)))(hg:D2 j (ys.length:Int)=true)
  (hl:rs.length=m) (hy':(enc (Aj ys j)).take off++rs++(enc (Aj ys j)).drop (off+m)=enc y') (hle:Nat.ble (off+m) sz=true) (hH:H.set i (.row v e sz ((ys.set j.toNat y').map enc))=H') (h:WL P n c ops Q rest l H') :
  WL P n c ops Q ({ dst:=none,op:=.store t x y,type:=ty,pos:=pos,after:=af,guard:=none }::rest) l H:=
 KW λa w Z ha hw=>by
  obtain⟨hs,us,⟨h1,h2⟩,h3⟩:=hw.ent hi;have h0:=(Cr hg).1;have hlj:j.toNat<ys.length:=by have:=(Cr hg).2;omega
  have hle':off+m≤sz:=by simpa using hle
  have eat:Aj ys j=ys[j.toNat]:=by simp[Aj,hlj]
  obtain⟨vs,e1,h4⟩:=ha.ev hy;have hvl:=h4.length;have hone:∀v∈vs,v.oneCell'=true:=λv hv'=>hv.at hw h4 v hv';have hcl:(ys.map enc)[j.toNat]? =some (enc ys[j.toNat]):=by simp[hlj]
  have hcz:(enc ys[j.toNat]).length=sz:=hs _ (Um hcl);rcases h2 with⟨rfl,hz⟩ | ⟨b,cap,cur,rfl,_,hg',hcap,hm,hcs,htk⟩
  ·simp at hz;subst hz;simp at hlj
  ·simp only[Us] at h1 hcap htk;have hin:j.toNat*sz+off+m≤ys.length*sz:=by
    have:(j.toNat+1)*sz≤ys.length*sz:=Nat.mul_le_mul_right _ hlj;rw[Nat.succ_mul] at this;omega
   have hlc:j.toNat*sz+off+m≤cur.size:=by
    have:ys.length*sz≤cap*sz:=Nat.mul_le_mul_right _ hcap;omega
   have hvm:vs.length=m:=by omega
   have h5:=run_storeCells_at P b (j.toNat*sz+off) e vs 0 cur w hg' (by omega) hone;simp only[Nat.add_zero] at h5;have hset:((ys.set j.toNat y').map enc).flatten=(ys.map enc).flatten.take (j.toNat*sz+off)++rs++(ys.map enc).flatten.drop (j.toNat*sz+off+m):=by
    have:=MC hs hcl (rs:=rs) off (by omega);rw[hl] at this;rw[← this,List.map_set,← hy',eat]
   refine⟨w.setRow b (cur.toList.take (j.toNat*sz+off)++vs++cur.toList.drop (j.toNat*sz+off+vs.length)).toArray,H',?_,?_,h⟩
   ·simp only[U5] at h5 ⊢;rw[hvm] at h5 ⊢;simp[execOp,ha.eval hx,e1,C6,Instr.storeAt,Instr.sureAddr,storeVar,hsz,Value.cells,hvm,h5]
   ·subst hH;refine hw.set hi rfl rfl rfl (by simp[World.setRow]) (λk _ hk=>?_) ⟨?_,us.take (j.toNat*sz+off)++vs++us.drop (j.toNat*sz+off+m),⟨?_,.inr ⟨b,cap,_,by simp,UL _,setRow_heap w b cur _ e (0,0) hg',by simpa using hcap,hm,?_,?_⟩⟩,?_⟩ (by simp[Ent.foot,Value.ownBlock])
    ·simp only[Ent.foot,Value.ownBlock,Option.mem_toList,Option.mem_def,Option.some.injEq] at hk;simp only[World.setRow,Array.getElem?_modify];rw[UP hk]
    ·intro cl hcl';rw[List.map_set] at hcl';rcases List.mem_or_eq_of_mem_set hcl' with h' | rfl
     ·exact hs cl h'
     ·rw[← hy',eat];simp;omega
    ·simp;omega
    ·simp;omega
    ·have hu1:us.take (j.toNat*sz+off)=cur.toList.take (j.toNat*sz+off):=by rw[← htk,List.take_take,Nat.min_eq_left (by omega)]
     have hu2:us.drop (j.toNat*sz+off+m)=(cur.toList.drop (j.toNat*sz+off+m)).take (ys.length*sz-(j.toNat*sz+off+m)):=by rw[← htk,List.drop_take]
     rw[hu1,hu2,Us,List.length_set,hvm];have e2:(List.take (j.toNat*sz+off) cur.toList++vs).length=j.toNat*sz+off+m:=by simp;omega
     have e3:ys.length*sz=(List.take (j.toNat*sz+off) cur.toList++vs).length+(ys.length*sz-(j.toNat*sz+off+m)):=by rw[e2];omega
     conv=>lhs;rw[show ys.length*sz=(List.take (j.toNat*sz+off) cur.toList++vs).length+(ys.length*sz-(j.toNat*sz+off+m)) from e3]
     rw[List.take_length_add_append]
    ·rw[hset];exact((h3.take _).append h4).append (h3.drop _)
def J7 (sz:Nat)(v:Value)(j:Nat):Value:=match v with
 | .slice A len cap=>.slice (if cap=j then A else A.map (·.add (j*sz))) (len-j) (cap-j)
 | v=>v
theorem SA {α:Type}{ys:List α}{enc:α→List Rp}{i:Nat}{k:IntKind}{j:Int}(ht:P.underlying t=some (.slice e))(hz:∀w,(sizeOf e).run P w = .ok sz w)(hx:ev l x=some (rv v))(hy:ev l y=some (rI k j))(hi:H[i]? =some (.row v e sz (ys.map enc)))(hg:Ki j (ys.length:Int)=true) :
  Bc P n c l H { dst:=d',op:=.slice t x (some y) none none,type:=ty,pos:=pos,after:=af,guard:=g } (rv (J7 sz v j.toNat)):=λa w Z ha hw=>Dk<|by
 obtain⟨h0,us,⟨h1,h2⟩,h3⟩:=hw.ent hi;have g0:=(Dn hg).1;have g1:=(Dn hg).2;rcases h2 with⟨rfl,hz0⟩ | ⟨b,cap,cur,rfl,_,hb,hcap,hm,hcs,htk⟩
 ·simp at hz0;subst hz0;obtain rfl:j=0:=by simp at g1;omega
  simp[execOp,ha.eval hx,ha.eval hy,Instr.sliceAt,Instr.slice,run_underlying ht,Instr.sliceBounds,B5 (m:=0) _ _ (Uw 0) (Uw 0),hz,J7]
 ·simp only[Us] at h1 hcap htk;simp[execOp,ha.eval hx,ha.eval hy,Instr.sliceAt,Instr.slice,run_underlying ht,Instr.sliceBounds,B5 (m:=ys.length) _ _ g0 g1,hz,J7]
theorem Kk (zc:List Value)(hz:0<zc.length):∀k,(Builtin.zeroCells zc.toArray k).toList=(List.replicate k zc).flatten:=by
 intro k;have hl:((List.replicate k zc).flatten).length=k*zc.length:=by simp
 apply List.ext_getElem
 ·simp[Builtin.zeroCells]
 ·intro i h1 h2;have hi:i<k*zc.length:=by rw[← hl];exact h2
  have hm:i % zc.length<zc.length:=Nat.mod_lt _ hz;have hq:i/zc.length<k:=by rw[Nat.div_lt_iff_lt_mul hz];exact hi
  have e1:(Builtin.zeroCells zc.toArray k).toList[i]=zc[i % zc.length]:=by
   simp[Builtin.zeroCells,hm]
  have e2:=Gb (sz:=zc.length) (vs:=List.replicate k zc) (λc hc=>by rw[List.eq_of_mem_replicate hc]) (i:=i/zc.length) (c:=zc) (by simp[hq]) (j:=i % zc.length) (u:=zc[i % zc.length]) (by simp[hm]);have e3:i/zc.length*zc.length+i % zc.length=i:=Nat.div_add_mod' i zc.length;rw[e3] at e2;rw[e1];exact(Option.some.inj ((Uj h2).symm.trans e2)).symm
theorem KY {α:Type}{ys:List α}{enc:α→List Rp}{i:Nat}{j:Int}{z0:α}{zz:Value}{zc:List Value}(ht:P.underlying t=some (.slice e))(hzv:∀w,(zeroValue e).run P w = .ok zz w)(hzz:zz.cells.toList=zc)(hzl:zc.length=sz)(hsz:Nat.blt 0 sz=true)(hone:∀v∈zc,v.oneCell'=true)(hzr:∀Z,AS Z (enc z0) zc)(hel:(enc z0).length=sz)
  (hx:ev l x=some (rv (J7 sz v j.toNat))) (hi:H[i]? =some (.row v e sz (ys.map enc))) (hg:Ki j (ys.length:Int)=true) (hH:H.set i (.row v e sz ((ys.take j.toNat++List.replicate (ys.length-j.toNat) z0).map enc))=H') (h:WL P n c ops Q rest l H') :
  WL P n c ops Q ({ dst:=none,op:=.call { callee:=.builtin .clear,args:=#[x],argTypes:=#[t] },type:=ty,pos:=pos,after:=af,guard:=none }::rest) l H:=
 Sb (λa w Z ha hw=>by
  obtain⟨h0,us,⟨h1,h2⟩,h3⟩:=hw.ent hi;have g0:=(Dn hg).1;have g1:=(Dn hg).2;subst hH;have hz0:0<sz:=by simpa using hsz
  have hcells:zz.cells=zc.toArray:=by rw[← hzz]
  rcases h2 with⟨rfl,hz1⟩ | ⟨b,cap,cur,rfl,_,hb,hcap,hm,hcs,htk⟩
  ·simp at hz1;subst hz1;refine⟨.tuple #[],w,_,?_,hw.set (e':=.row (.slice none 0 0) e sz ((([]:List α).take j.toNat++List.replicate (([]:List α).length-j.toNat) z0).map enc)) hi rfl rfl rfl (Uv _) (λ_ _ _=>rfl) ⟨by simp,[],⟨by simp,.inl ⟨rfl,by simp⟩⟩,by simp[AS]⟩ (by simp[Ent.foot,Value.ownBlock]),h⟩
   ·have e0:J7 sz (.slice none 0 0) j.toNat = .slice none 0 0:=by simp[J7]
    simp[execOp,resolve,invoke,builtin,ha.eval hx,e0,Builtin.clear_,run_underlying ht]
  ·simp only[Us] at h1 hcap htk;have hjl:j.toNat≤ys.length:=by omega
   by_cases hjn:ys.length=j.toNat
   ·refine⟨.tuple #[],w,_,?_,?_,h⟩
    ·have hn0:ys.length-j.toNat=0:=by omega
     simp only[execOp,resolve,invoke,builtin,ha.eval hx,J7,hn0]
     by_cases hc:cap=j.toNat
     ·simp[ha.eval hx,J7,hn0,hc,Builtin.clear_,run_underlying ht]
     ·simp[ha.eval hx,J7,hn0,hc,Builtin.clear_,run_underlying ht]
    ·have e0:ys.take j.toNat++List.replicate (ys.length-j.toNat) z0=ys:=by rw[← hjn];simp
     rw[e0];have:H.set i (.row (.slice (some ⟨b,0,none⟩) (ys.map enc).length cap) e sz (ys.map enc))=H:=by
      obtain⟨hl,he⟩:=List.getElem?_eq_some_iff.1 hi;rw[← he,List.set_getElem_self]
     rw[this];exact hw
   ·have hc : ¬ cap=j.toNat:=by omega
    obtain⟨q,hq⟩:∃q,ys.length-j.toNat=q+1:=⟨ys.length-j.toNat-1,by omega⟩
    have hin:j.toNat*sz+(q+1)*sz=ys.length*sz:=by rw[← Nat.add_mul];congr 1;omega
    have hlen:((List.replicate (q+1) zc).flatten).length=(q+1)*sz:=by simp[hzl]
    have hcc:ys.length*sz≤cap*sz:=Nat.mul_le_mul_right _ hcap;have h5:=run_storeCells_at P b (j.toNat*sz) e ((List.replicate (q+1) zc).flatten) 0 cur w hb (by rw[hlen];omega) (λv hv=>by
     obtain⟨cl,hcl,hv'⟩:=List.mem_flatten.1 hv;rw[List.eq_of_mem_replicate hcl] at hv';exact hone v hv')
    simp only[Nat.add_zero] at h5;rw[hlen,hin] at h5;refine⟨.tuple #[],w.setRow b (cur.toList.take (j.toNat*sz)++(List.replicate (q+1) zc).flatten++cur.toList.drop (ys.length*sz)).toArray,_,?_,?_,h⟩
    ·have hzc:=Kk zc (by omega) (q+1);have e1:(a.eval x) = .slice (some ⟨b,j.toNat*sz,none⟩) (q+1) (cap-j.toNat):=by
      rw[ha.eval hx];simp[J7,hc,hq,GJ]
     simp[execOp,resolve,invoke,builtin,e1,Builtin.clear_,run_underlying ht,hzv,hcells,hzc,h5]
    ·refine hw.set hi rfl rfl rfl (by simp[World.setRow]) (λk _ hk=>?_) ⟨?_,us.take (j.toNat*sz)++(List.replicate (q+1) zc).flatten,⟨?_,.inr ⟨b,cap,_,?_,UL _,setRow_heap w b cur _ e (0,0) hb,?_,hm,?_,?_⟩⟩,?_⟩ (by simp[Ent.foot,Value.ownBlock])
     ·simp only[Ent.foot,Value.ownBlock,Option.mem_toList,Option.mem_def,Option.some.injEq] at hk;simp only[World.setRow,Array.getElem?_modify];rw[UP hk]
     ·intro cl hcl;rw[List.map_append] at hcl;rcases List.mem_append.1 hcl with h' | h'
      ·rw[List.map_take] at h';exact h0 cl (List.mem_of_mem_take h')
      ·rw[List.map_replicate] at h';rw[List.eq_of_mem_replicate h'];exact hel
     ·rw[Uq,hlen];simp[Nat.min_eq_left hjl,h1,hq];have:j.toNat*sz≤ys.length*sz:=Nat.mul_le_mul_right _ hjl
      first | rw[← Nat.add_mul] | (rw[Nat.min_eq_left this,← Nat.add_mul])
     ·simp[Nat.min_eq_left hjl];omega
     ·simp;omega
     ·have:j.toNat*sz≤ys.length*sz:=Nat.mul_le_mul_right _ hjl;rw[List.size_toArray,Uq,Uq,hlen,List.length_take,List.length_drop,Array.length_toList,Nat.min_eq_left (by omega)];omega
     ·have:j.toNat*sz≤ys.length*sz:=Nat.mul_le_mul_right _ hjl;have e2:((ys.take j.toNat++List.replicate (ys.length-j.toNat) z0).map enc).length*sz=(cur.toList.take (j.toNat*sz)++(List.replicate (q+1) zc).flatten).length:=by
       rw[Uq,hlen];simp[Nat.min_eq_left hjl,hq];rw[Nat.min_eq_left (by omega),← Nat.add_mul]
      rw[e2,List.take_left' rfl]
      congr 1
      rw[← htk,List.take_take,Nat.min_eq_left this]
     ·rw[List.map_append,List.flatten_append,List.map_take,List.map_replicate,hq];refine AS.append ?_ ?_
      ·have:((ys.map enc).take j.toNat).flatten=(ys.map enc).flatten.take (j.toNat*sz):=by
        clear h3 h1 htk hcs hcap g1 hi hw h5 hin hcc hlen hjn hc hq hjl hm hb;generalize ys.map enc=zs at h0;have key:∀(zs:List (List Rp)) (k:Nat),(∀c∈zs,c.length=sz)→(zs.take k).flatten=zs.flatten.take (k*sz):=by
         intro zs
         induction zs with
         | nil=>intro k _;simp
         | cons z zs ih=>
          intro k hk
          cases k with
          | zero=>simp
          | succ k=>
           have hzl:=hk z (by simp);simp only[List.take_succ_cons,List.flatten_cons];rw[ih k (λc hc=>hk c (by simp[hc]))];have e1:(k+1)*sz=z.length+k*sz:=by rw[hzl,Nat.succ_mul];omega
           rw[e1,List.take_length_add_append]
        exact key zs _ h0
       rw[this];exact h3.take _
      ·clear h5 hin hlen hq;generalize q+1=k
       induction k with
       | zero=>exact trivial
       | succ k ih=>rw[List.replicate_succ,List.replicate_succ,List.flatten_cons,List.flatten_cons];exact(hzr Z).append ih)
end
end Go.Proofs.YtmmbdclkpijkpaaGreatDoor.Q
namespace Go.Proofs.YtmmbdclkpijkpaaGreatDoor
open Go
end Go.Proofs.YtmmbdclkpijkpaaGreatDoor
namespace Go.Proofs.YtmmbdclkpijkpaaGreatDoor.Q
open Go Go.RowKit
set_option linter.unusedVariables false
set_option linter.unusedSimpArgs false
section
variable {P : Program} {n : Nat} {c : Cx} {Q : Exit → Act → World → Prop} {l : Fr} {H : List Ent} {x rest' : Code} {K : Act → World → Prop}
end
section
variable {P : Program} {n : Nat} {c : Cx} {ops : Array Oper} {Q : Exit → Act → World → Prop} {rest : List Oper} {l : Fr} {H H' : List Ent} {d : Nat} {d' : Option Nat} {x y z3 z4 : Operand} {ty t t' e : TypeId} {pos : String} {af : Array Edge} {g : Option (Nat × Bool)} {v u : Value} {r : Rp} {sz : Nat}
theorem R7 {i:Nat}{rs:List Rp}{fs:Array Field}{f:Field}(hu:P.underlying t=some (.struct fs))(hf:fs[i]? =some f)(hag:∀w,(isAgg f.type).run P w = .ok false w)(hx:ev l x=some (Bf rs))(hr:rs[f.offset]? =some r) :
  Bc P n c l H { dst:=d',op:=.field t x i,type:=ty,pos:=pos,after:=af,guard:=g } r:=λa w Z ha hw=>by
 obtain⟨us,e1,hus⟩:=ha.ev hx;obtain⟨v,hv,hp⟩:=hus.at hr;exact⟨v,hp,by simp[execOp,e1,Instr.field,run_underlying hu,hf,asAgg,part,hag,hv]⟩
end
structure Sx (U:Type) where
 deps:List Nat
 r:U→Rp
 dyn:Bool:=false
 old:List Nat:=[]
def Pt {U:Type}(sp:List (Sx U))(i:Nat):Sx U:=sp.getD i { deps:=[],r:=λ_=>rv undef }
def T6 {U:Type}(sp:List (Sx U))(u:U):List Sp:=sp.map λs=>⟨s.deps,s.r u,0⟩
def RW {U:Type}:List (Sx U)→Prop
 | []=>True
 | s::r=>(s.dyn=false→∀u u',s.r u=s.r u')∧RW r
theorem RW.at {U:Type}:∀{sp:List (Sx U)},RW sp→∀{i:Nat} {s:Sx U},sp[i]? =some s→s.dyn=false→∀u u',s.r u=s.r u'
 | [],_,i,s,h=>by simp at h
 | x::sp,⟨h1,h2⟩,0,s,h=>by simp at h;subst h;exact h1
 | x::sp,⟨h1,h2⟩,i+1,s,h=>RW.at h2 (by simpa using h)
def EA (lw:Fr):List Nat→Fr→Fr
 | [],l=>l
 | d::r,l=>match look lw d with
  | some q=>(d,q)::EA lw r l
  | none=>EA lw r l
theorem Oe {n:Nat}{lw l:Fr}{a:Act}{Z:Fz}(h0:Cl n l a Z):∀{ds:List Nat},(∀d∈ds,∀q,look lw d=some q→∃v,a.tmps[d]? =some v∧q.p Z v)→Cl n (EA lw ds l) a Z
 | [],_=>h0
 | d::ds,h=>by
  have ih:=Oe h0 (ds:=ds) (λd' hd'=>h d' (by simp[hd']));unfold EA
  cases hd:look lw d with
  | none=>exact ih
  | some q=>
   refine⟨ih.size,ih.defers,λi r hi=>?_⟩;rw[BG] at hi
   split at hi
   ·rename_i e;subst e;simp at hi;subst hi;exact h d (by simp) q hd
   ·exact ih.tm i r hi
section
variable (P : Program) (n : Nat) (c : Cx) (opsA : Array Oper) (Q : Exit → Act → World → Prop)
def TX {U:Type}(l:Fr)(H:List Ent)(o:Oper)(r:U→Rp)(H1:U→List Ent):Prop:=
 ∀a w Z (K:Act→World→Prop),Cl n l a Z→St c H Z w→(∀u v w' Z',Fz.le Z Z'→(r u).p Z' v→St c (H1 u) Z' w'→K (a.put o.dst v) w')→
  Region.wanted o (yielded opsA a.tmps)=true∧o.wp P a w K Q
def RY {U:Type}(ops:List Oper)(sp:List (Sx U))(l0 lw:Fr)(i0:Nat)(H:List Ent)(H1:U→List Ent):Nat→List Oper→Prop
 | i,o::rest=>(if i=i0 then(∀u,TX P n c opsA Q (EA lw (Pt sp i).old (B2 ops (T6 sp u) (Pt sp i).deps l0)) H o (Pt sp i).r H1) else ∀u H,DD P n c opsA Q (EA lw (Pt sp i).old (B2 ops (T6 sp u) (Pt sp i).deps l0)) H o ((Pt sp i).r u) H)∧RY ops sp l0 lw i0 H H1 (i+1) rest
 | _,[]=>True
end
section
variable {P : Program} {n : Nat} {c : Cx} {opsA : Array Oper} {Q : Exit → Act → World → Prop} {l l0 lw : Fr} {U : Type} {H : List Ent} {H1 : U → List Ent} {sp : List (Sx U)} {i0 : Nat}
theorem RY.at {ops:List Oper}:∀{k:Nat} {rest:List Oper},RY P n c opsA Q ops sp l0 lw i0 H H1 k rest→∀(t:Nat) o,rest[t]? =some o→
  (if k+t=i0 then(∀u,TX P n c opsA Q (EA lw (Pt sp (k+t)).old (B2 ops (T6 sp u) (Pt sp (k+t)).deps l0)) H o (Pt sp (k+t)).r H1) else ∀u H,DD P n c opsA Q (EA lw (Pt sp (k+t)).old (B2 ops (T6 sp u) (Pt sp (k+t)).deps l0)) H o ((Pt sp (k+t)).r u) H)
 | k,o::rest,⟨h1,h2⟩,t,o',ht=>by
  cases t with
  | zero=>simp at ht;subst ht;exact h1
  | succ t=>
   have:=RY.at h2 t o' (by simpa using ht);rw[show k+(t+1)=k+1+t from by omega];exact this
 | _,[],_,t,o,h=>by simp at h
end
section
variable {P : Program} {n : Nat} {c : Cx} {opsA : Array Oper} {Q : Exit → Act → World → Prop} {l : Fr} {H : List Ent} {d : Nat} {x y : Operand} {ty t e : TypeId} {pos : String} {af : Array Edge} {v : Value} {sz : Nat}
end
abbrev Ux:=Nat→Nat→Value×Nat
def Ag (k:Nat)(u u':Ux):Prop:=∀j,j<k→u j=u' j
def ux (u:Ux)(k:Nat)(f:List (Value×Nat)):Ux:=λj=>bif Nat.beq j k then λq=>f.getD q (undef,0) else u j
theorem KR {u:Ux}{k:Nat}{f:List (Value×Nat)}:Ag k u (ux u k f):=λj hj=>by
 unfold ux;have:Nat.beq j k=false:=by
  cases h:Nat.beq j k with
  | false=>rfl
  | true=>have:=Nat.eq_of_beq_eq_true h;omega
 rw[this];rfl
structure Sy where
 deps:List Nat
 r:Ux→Rp
 lv:Nat:=0
 fx:Bool:=false
 old:List Nat:=[]
def Em (sp:List Sy)(i:Nat):Sy:=sp.getD i { deps:=[],r:=λ_=>rv undef }
def Se (sp:List Sy)(u:Ux):List Sp:=sp.map λs=>⟨s.deps,s.r u,0⟩
def Tb (sp:List Sy)(u:Ux):List Sa:=sp.map λs=>{ deps:=s.deps,r:=s.r u }
def KU:List Sy→Prop
 | []=>True
 | s::r=>(∀u u',Ag s.lv u u'→s.r u=s.r u')∧KU r
theorem KU.at:∀{sp:List Sy},KU sp→∀{i:Nat} {s:Sy},sp[i]? =some s→∀u u',Ag s.lv u u'→s.r u=s.r u'
 | [],_,i,s,h=>by simp at h
 | x::sp,⟨h1,h2⟩,0,s,h=>by simp at h;subst h;exact h1
 | x::sp,⟨h1,h2⟩,i+1,s,h=>KU.at h2 (by simpa using h)
theorem CU {r:Rp}{m:Nat}:∀u u':Ux,Ag m u u'→(λ_:Ux=>r) u=(λ_:Ux=>r) u':=λ_ _ _=>rfl
def TH (n:Nat)(ops:List Oper)(N:Nat)(is:List Nat)(keys:List Nat)(deps:List (List Nat))(lvs:List Nat)(fxs:List Bool)(olds:List (List Nat)):Bool:=
 let cl:=HC ops []
 Ly ops N&&decide (N≤ops.length)&&is.all (λi=>decide (i<N))&&decide is.Nodup&&
 (List.range is.length).all (λk=>k ==0||(cl.getD (is.getD k 0) 0).testBit (is.getD (k-1) 0))&&
 (List.range N).all (λi=>match BS ops i with
  | some d=>decide (d<n)&&!keys.contains d&&(List.range N).all (λj=>j ==i||BS ops j !=some d)
  | none=>true)&&
 (List.range N).all (λi=>(deps.getD i []).all (λj=>decide (j<N)&&(Do (ops.getD i default)).contains j))&&
 (List.range N).all (λi=>decide (lvs.getD i 0≤is.length)&&(lvs.getD i 0 ==0||i ==is.getD (lvs.getD i 0-1) 0||(cl.getD i 0).testBit (is.getD (lvs.getD i 0-1) 0)))&&
 (List.range N).all (λi=>!fxs.getD i false||lvs.getD i 0 ==is.length||(cl.getD (is.getD (lvs.getD i 0) 0) 0).testBit i)&&
 (List.range N).all (λi=>(olds.getD i []).all (λd=>(List.range N).all (λw=>BS ops w !=some d||(Do (ops.getD w default)).contains i)))
def cnt (S:Nat→Bool)(is:List Nat):Nat:=(is.filter S).length
theorem Kb {S:Nat→Bool}{is:List Nat}{k:Nat}(hk:k≤is.length)(h1:∀j (h:j<is.length),j<k→S is[j]=true)(h2:∀j (h:j<is.length),k≤j→S is[j]=false):cnt S is=k:=by
 unfold cnt;rw[← List.take_append_drop k is,List.filter_append,List.filter_eq_self.2 (λx hx=>?_),List.filter_eq_nil_iff.2 (λx hx=>?_)]
 ·simp;omega
 ·obtain⟨j,hj⟩:=List.mem_iff_getElem?.1 hx;rw[List.getElem?_drop] at hj;obtain⟨h3,h4⟩:=List.getElem?_eq_some_iff.1 hj;have:=h2 (k+j) h3 (by omega);rw[h4] at this;simp[this]
 ·obtain⟨j,hj⟩:=List.mem_iff_getElem?.1 hx;rw[UB] at hj
  split at hj
  ·rename_i hjk
   obtain⟨h3,h4⟩:=List.getElem?_eq_some_iff.1 hj;have:=h1 j h3 hjk;rw[h4] at this;exact this
  ·cases hj
theorem KN {S S':Nat→Bool}{is:List Nat}(h:∀i∈is,S i=S' i):cnt S is=cnt S' is:=by
 unfold cnt;rw[List.filter_congr h]
section
variable (P : Program) (n : Nat) (c : Cx) (opsA : Array Oper) (Q : Exit → Act → World → Prop)
def T2 (l:Fr)(H:List Ent)(o:Oper)(k:Nat)(u:Ux)(r:Ux→Rp)(H1:Ux→List Ent):Prop:=
 ∀a w Z (K:Act→World→Prop),Cl n l a Z→St c H Z w→(∀u' v w' Z',Ag k u u'→Fz.le Z Z'→(r u').p Z' v→St c (H1 u') Z' w'→K (a.put o.dst v) w')→
  Region.wanted o (yielded opsA a.tmps)=true∧o.wp P a w K Q
def T3 (ops:List Oper)(sp:List Sy)(l0 lw:Fr)(is:List Nat)(hs:List (Ux→List Ent))(i:Nat)(o:Oper):Prop:=
 match is.findIdx? (λx=>Nat.beq x i) with
 | some k=>∀u,T2 P n c opsA Q (EA lw (Em sp i).old (B2 ops (Se sp u) (Em sp i).deps l0)) (hs.getD k (λ_=>[]) u) o k u (Em sp i).r (hs.getD (k+1) (λ_=>[]))
 | none=>if (Em sp i).fx=true then ∀u,DD P n c opsA Q (EA lw (Em sp i).old (B2 ops (Se sp u) (Em sp i).deps l0)) (hs.getD (Em sp i).lv (λ_=>[]) u) o ((Em sp i).r u) (hs.getD (Em sp i).lv (λ_=>[]) u)
  else ∀u H,DD P n c opsA Q (EA lw (Em sp i).old (B2 ops (Se sp u) (Em sp i).deps l0)) H o ((Em sp i).r u) H
def Kg (ops:List Oper)(sp:List Sy)(l0 lw:Fr)(is:List Nat)(hs:List (Ux→List Ent)):Nat→List Oper→Prop
 | i,o::rest=>T3 P n c opsA Q ops sp l0 lw is hs i o∧Kg ops sp l0 lw is hs (i+1) rest
 | _,[]=>True
end
section
variable {P : Program} {n : Nat} {c : Cx} {opsA : Array Oper} {Q : Exit → Act → World → Prop} {l l0 lw : Fr} {H : List Ent} {hs : List (Ux → List Ent)} {sp : List Sy} {is : List Nat}
theorem Kg.at {ops:List Oper}:∀{k:Nat} {rest:List Oper},Kg P n c opsA Q ops sp l0 lw is hs k rest→∀(t:Nat) o,rest[t]? =some o→T3 P n c opsA Q ops sp l0 lw is hs (k+t) o
 | k,o::rest,⟨h1,h2⟩,t,o',ht=>by
  cases t with
  | zero=>simp at ht;subst ht;exact h1
  | succ t=>
   have:=Kg.at h2 t o' (by simpa using ht);rw[show k+(t+1)=k+1+t from by omega];exact this
 | _,[],_,t,o,h=>by simp at h
theorem Re {id:Nat}{ops:List Oper}(N:Nat)(is:List Nat)(sp:List Sy)(hs:List (Ux→List Ent))(hm:P.follows .mixedOrders=true)(hB:TH n ops N is (DP l0) (sp.map (·.deps)) (sp.map (·.lv)) (sp.map (·.fx)) (sp.map (·.old))=true)(hl0:Po l0 l)(hlw:Po lw l)(hsp:sp.length=N)(hst:KU sp)
    (hH:∀u,hs.getD 0 (λ_=>[]) u=H) (hob:Kg P n c ops.toArray Q ops sp l0 lw is hs 0 (ops.take N)) (h:∀u,WL P n c ops.toArray Q (ops.drop N) (IR (λ_=>0) (ops.take N) (Tb sp u) 0 l0) (hs.getD is.length (λ_=>[]) u)):WC P n c (.region id ops.toArray true) Q l H:=by
  intro a w Z ha hw;simp only[TH,Ui,U2,List.mem_range,Ud] at hB;obtain⟨⟨⟨⟨⟨⟨⟨⟨⟨b1,bN⟩,bis⟩,ML⟩,bch⟩,b2⟩,b3⟩,b4⟩,b6⟩,b5⟩:=hB;have hget:∀i,i<N→(ops.take N)[i]? =ops[i]?:=λi hi=>by rw[UB,if_pos hi]
  have hsa:∀i,i<N→sp[i]? =some (Em sp i):=λi hi=>by
    simp[Em,Uk,Uj (show i<sp.length by omega)]
  have hspq:∀u i,i<N→(CT (Se sp u) i)=⟨(Em sp i).deps,(Em sp i).r u,0⟩:=λu i hi=>by
    simp[CT,Se,Uk,U4,hsa i hi]
  have hlv:∀j,j<N→(sp.map (·.lv)).getD j 0=(Em sp j).lv:=λj hj=>by simp[Uk,U4,hsa j hj]
  have hfx:∀j,j<N→(sp.map (·.fx)).getD j false=(Em sp j).fx:=λj hj=>by simp[Uk,U4,hsa j hj]
  have hdep:∀j,j<N→(sp.map (·.deps)).getD j []=(Em sp j).deps:=λj hj=>by simp[Uk,U4,hsa j hj]
  have hops:∀j,j<N→∃o,ops[j]? =some o:=λj hj=>⟨ops[j]'(by omega),Uj (by omega)⟩
  have hisN:∀k (hk:k<is.length),is[k]<N:=λk hk=>bis _ (List.getElem_mem hk);have hisD:∀k (hk:k<is.length),is.getD k 0=is[k]:=λk hk=>by rw[Uk,Uj hk];rfl
  have hdst:∀i o d,i<N→ops[i]? =some o→o.dst=some d→(d<n∧d ∉ DP l0)∧∀j,j<N→j≠i→BS ops j≠some d:=λi o d hi ho hd=>by
    have h3:=b2 i hi;have:BS ops i=some d:=by simp[BS,ho,hd]
    rw[this] at h3;simp only[Ui,U1,U2,List.mem_range,Ud] at h3;refine⟨⟨h3.1.1,λhmem=>by rw[← List.contains_iff_mem] at hmem;rw[hmem] at h3;cases h3.1.2⟩,λj hj hne he=>?_⟩;have:=h3.2 j hj;simp[hne,he] at this
  have clo:∀S:Nat→Bool,(∀t o,ops[t]? =some o→S t=true→∀e∈Do o,S e=true)→∀j i,((HC ops []).getD j 0).testBit i=true→S j=true→S i=true:=λS hc j i hb hj=>
    DR ops (λk=>S k=true) ops [] (λt o ht e he hF=>hc t o ht (by simpa using hF) e he) (λj i hb=>by simp at hb) j i hb hj
  have pre1:∀S:Nat→Bool,(∀t o,ops[t]? =some o→S t=true→∀e∈Do o,S e=true)→∀k (hk:k<is.length),S is[k]=true→∀j (hj:j<is.length),j≤k→S is[j]=true:=by
    intro S hc k
    induction k with
    | zero=>
              intro hk h0 j hj hle;have:j=0:=by omega
              subst this;exact h0
    | succ k ih=>
      intro hk h0 j hj hle
      by_cases e:j=k+1
      · subst e;exact h0
      · have h3:=bch (k+1) hk
        rw[hisD (k+1) hk] at h3;simp only[UC,beq_iff_eq,Nat.succ_ne_zero,false_or,Nat.add_sub_cancel] at h3;rw[hisD k (by omega)] at h3;exact ih (by omega) (clo S hc _ _ h3 h0) j hj (by omega)
  refine P0 (N:=N) hm b1 bN (λS a w=>∃ (u:Ux) (Z:Fz),St c (hs.getD (cnt S is) (λ_=>[]) u) Z w∧Cl n l0 a Z∧(∀j o d,j<N→S j=true→ops[j]? =some o→o.dst=some d→∃v,a.tmps[d]? =some v∧((Em sp j).r u).p Z v)∧
      (∀t o,t<N→ops[t]? =some o→S t=true→∀e∈Do o,e<t∧S e=true)∧
      (∀d q,look lw d=some q→(∀wr,wr<N→BS ops wr=some d→S wr=false)→∃v,a.tmps[d]? =some v∧q.p Z v)∧
      ∀wr i d,wr<N→i<N→BS ops wr=some d→d∈(Em sp i).old→S wr=true→S i=true)
    (λS S' a w hS hI=>?_) ⟨default,Z,?_,ha.subL hl0,λj o d _ hS=>(by cases hS),λt o _ _ hS=>(by cases hS),λd q hd _=>(ha.subL hlw).tm d q hd,λwr i d _ _ _ _ hS=>(by cases hS)⟩ (λS i o a w hi hun ho hb hI K hK=>?_) (λa w hI=>?_)
  · obtain⟨u,Z,h1,h2,h3,h4,h5,h6⟩:=hI
    refine⟨u,Z,?_,h2,λj o d hj hS'=>h3 j o d hj (by rw[hS j hj];exact hS'),λt o ht hto hSt e he=>?_,λd q hd hw'=>h5 d q hd (λwr hwr hdw=>by rw[hS wr hwr];exact hw' wr hwr hdw),λwr i d hwr hi hdw hold hSw=>by rw[← hS i hi];exact h6 wr i d hwr hi hdw hold (by rw[hS wr hwr];exact hSw)⟩
    · rw[← KN (S:=S) (S':=S') λi hi=>hS i (bis i hi)];exact h1
    · obtain⟨h7,h8⟩:=h4 t o ht hto (by rw[hS t ht];exact hSt) e he
      exact⟨h7,by rw[← hS e (by omega)];exact h8⟩
  · have:cnt (λ_=>false) is=0:=Kb (UL _) (λj _ h=>absurd h (Nat.not_lt_zero _)) (λ_ _ _=>rfl)
    rw[this,hH];exact hw.drawn _
  · obtain⟨u,Z,h1,h2,h3,hc,ho5,ho6⟩:=hI
    have hcl:∀t o,ops[t]? =some o→(decide (t<N)&&S t)=true→∀e∈Do o,(decide (e<N)&&S e)=true:=λt o hto hSt e he=>by
      simp only[Ui,Ud] at hSt ⊢;obtain⟨h7,h8⟩:=hc t o hSt.1 hto hSt.2 e he;exact⟨by omega,h8⟩
    have hcl2:∀k q,((HC ops []).getD k 0).testBit q=true→(k=i∨(decide (k<N)&&S k)=true)→(q=i∨(decide (q<N)&&S q)=true):=
      DR ops (λk=>k=i∨(decide (k<N)&&S k)=true) ops [] (λt o' ht e he hF=>by
        rcases hF with hF | hF
        · simp at hF;subst hF
          rw[ho] at ht;simp at ht;subst ht;obtain⟨h7,h8⟩:=hb e he;exact .inr (by simp only[Ui,Ud];exact⟨by omega,h8⟩)
        · exact .inr (hcl t o' ht (by simpa using hF) e he)) (λj i hb=>by simp at hb)
    have hanc:∀q,((HC ops []).getD i 0).testBit q=true→q≠i→S q=true:=λq hq hne=>by
      rcases hcl2 i q hq (.inl rfl) with h7 | h7
      · exact absurd h7 hne
      · simp only[Ui] at h7;exact h7.2
    have hSis:∀k (hk:k<is.length),(decide (is[k]<N)&&S is[k])=S is[k]:=λk hk=>by simp[hisN k hk]
    have hpre:∀k (hk:k<is.length),S is[k]=true→∀j (hj:j<is.length),j≤k→S is[j]=true:=λk hk hSk j hj hle=>by
      have:=pre1 (λk=>decide (k<N)&&S k) hcl k hk (by show(decide (is[k]<N)&&S is[k])=true;rw[hSis k hk];exact hSk) j hj hle
      rwa [show(decide (is[j]<N)&&S is[j])=S is[j] from hSis j hj] at this
    have hput:∀k u v,a.tmps[k]? =some u→o.dst≠some k→(a.put o.dst v).tmps[k]? =some u:=λk u v hk hne=>by
      cases hd:o.dst with
      | none=>simpa[Act.put] using hk
      | some d=>
        simp only[Act.put,Array.getElem?_setIfInBounds];rw[UP (λe=>hne (by rw[hd,e]))];exact hk
    have hagr:∀v Z',Fz.le Z Z'→Cl n l0 (a.put o.dst v) Z':=λv Z' hz=>by
      refine⟨?_,?_,λk r hk=>?_⟩
      · cases o.dst<;>simp[Act.put,h2.size]
      · cases o.dst<;>simp[Act.put,h2.defers]
      · obtain⟨u,hu,hpu⟩:=h2.tm k r hk
        exact⟨u,hput k u v hu (λe=>((hdst i o k hi ho e).1).2 (Ih hk)),r.mono hz hpu⟩
    have hvals:∀(v:Value) (Z':Fz) (u':Ux),Fz.le Z Z'→(∀j,j<N→j≠i→S j=true→(Em sp j).r u'=(Em sp j).r u)→(o.dst≠none→((Em sp i).r u').p Z' v)→∀j o' d,j<N→(j ==i||S j)=true→ops[j]? =some o'→o'.dst=some d→∃q,(a.put o.dst v).tmps[d]? =some q∧((Em sp j).r u').p Z' q:=by
      intro v Z' u' hz hβ hp j o' d hj hS' ho' hd
      by_cases hji:j=i
      · subst hji
        rw[ho] at ho';simp at ho';subst ho';refine⟨v,?_,hp (by simp[hd])⟩;have hdn:d<a.tmps.size:=by rw[h2.size];exact(hdst j o d hi ho hd).1.1
        simp[Act.put,hd,hdn]
      · have hSj:S j=true:=by simpa[hji] using hS'
        obtain⟨q,hu,hpu⟩:=h3 j o' d hj hSj ho' hd;refine⟨q,hput d q v hu (λe=>(hdst i o d hi ho e).2 j hj hji (by simp[BS,ho',hd])),?_⟩;rw[hβ j hj hji hSj];exact((Em sp j).r u).mono hz hpu
    have hat:=hob.at i o (by rw[hget i hi];exact ho);rw[UE] at hat;have hold':∀Z',Fz.le Z Z'→∀v d q,look lw d=some q→(∀wr,wr<N→BS ops wr=some d→(wr ==i||S wr)=false)→∃v',(a.put o.dst v).tmps[d]? =some v'∧q.p Z' v':=λZ' hz v d q hd hw'=>by
      obtain⟨v',e1,e2⟩:=ho5 d q hd (λwr hwr hdw=>by have:=hw' wr hwr hdw;simp only[Bool.or_eq_false_iff] at this;exact this.2);refine⟨v',hput d v' v e1 (λe=>?_),q.mono hz e2⟩;have:=hw' i hi (by simp[BS,ho,e]);simp at this
    have hord:∀wr k d,wr<N→k<N→BS ops wr=some d→d∈(Em sp k).old→(wr ==i||S wr)=true→(k ==i||S k)=true:=λwr k d hwr hk hdw hmem hSw=>by
      by_cases hwi:wr=i
      · subst hwi
        have h7:=b5 k hk d (by simpa[Uk,U4,hsa k hk] using hmem) wr hwr;simp only[UC,bne_iff_ne,ne_eq,hdw,not_true_eq_false,false_or] at h7;rw[Uk,ho,U6,List.contains_iff_mem] at h7;simp[(hb k h7).2]
      · have:S k=true:=ho6 wr k d hwr hk hdw hmem (by simpa[hwi] using hSw)
        simp[this]
    have hcl':∀t o',t<N→ops[t]? =some o'→(t ==i||S t)=true→∀e∈Do o',e<t∧(e ==i||S e)=true:=λt o' ht hto hSt e he=>by
      by_cases hti:t=i
      · subst hti
        rw[ho] at hto;simp at hto;subst hto;obtain⟨h7,h8⟩:=hb e he;exact⟨h7,by simp[h8]⟩
      · obtain⟨h7,h8⟩:=hc t o' ht hto (by simpa[hti] using hSt) e he
        exact⟨h7,by simp[h8]⟩
    have hag':Cl n (EA lw (Em sp i).old (B2 ops (Se sp u) (Em sp i).deps l0)) a Z:=Oe (Io h2 (λj hj d hd=>by
        obtain⟨h5,h6⟩:=b3 i hi j (by rw[hdep i hi];exact hj);rw[Uk,ho,U6,List.contains_iff_mem] at h6;obtain⟨o2,ho2⟩:=hops j h5;obtain⟨v,hv1,hv2⟩:=h3 j o2 d h5 (hb j h6).2 ho2 (by simpa[BS,ho2] using hd);refine⟨v,hv1,?_⟩;rw[hspq u j h5];exact hv2)) (λd hd q hq=>ho5 d q hq (λwr hwr hdw=>by
          cases hS:S wr with
          | false=>rfl
          | true=>have:=ho6 wr i d hwr hi hdw hd hS;rw[this] at hun;cases hun))
    have hlev:∀j,j<N→S j=true→∀m (hm:m<is.length),m<(Em sp j).lv→S is[m]=true:=λj hj hSj m hm hlt=>by
      have h7:=b4 j hj;rw[hlv j hj] at h7;have h8:=h7.1;have hm1:(Em sp j).lv-1<is.length:=by omega
      rw[hisD _ hm1] at h7;have h9:S is[(Em sp j).lv-1]=true:=by
        have hg:=h7.2;simp only[UC,beq_iff_eq] at hg;rcases hg with(hg | hg) | hg
        · omega
        · rw[← hg];exact hSj
        · have:=clo (λk=>decide (k<N)&&S k) hcl j _ hg (by simp[hj,hSj])
          simp only[Ui] at this;exact this.2
      exact hpre _ hm1 h9 m hm (by omega)
    unfold T3 at hat
    cases hf:is.findIdx? (λx=>Nat.beq x i) with
    | some k=>
      rw[hf] at hat;obtain⟨hk,hki,_⟩:=List.findIdx?_eq_some_iff_getElem.1 hf;have hik:is[k]=i:=Nat.eq_of_beq_eq_true hki;have hlow:∀j (hj:j<is.length),j<k→S is[j]=true:=λj hj hjk=>by
        obtain⟨k',rfl⟩:∃k',k=k'+1:=⟨k-1,by omega⟩
        have h7:=bch (k'+1) hk;rw[hisD _ hk] at h7;simp only[UC,beq_iff_eq,Nat.succ_ne_zero,false_or,Nat.add_sub_cancel] at h7;have hk':k'<is.length:=by omega
        rw[hisD k' hk',hik] at h7;have hne:is[k']≠i:=λe=>by
          have:=(List.getElem_inj ML).1 (e.trans hik.symm);omega
        exact hpre k' hk' (hanc _ h7 hne) j hj (by omega)
      have hhigh:∀j (hj:j<is.length),k≤j→S is[j]=false:=λj hj hle=>by
        cases hS:S is[j] with
        | false=>rfl
        | true=>have:=hpre j hj hS k hk hle;rw[hik,hun] at this;cases this
      have hcnt:cnt S is=k:=Kb (by omega) (λj hj h=>hlow j hj h) (λj hj h=>hhigh j hj h);have hcnt':cnt (λj=>j ==i||S j) is=k+1:=Kb (by omega) (λj hj h=>by
        by_cases e:j=k
        · subst e;simp[hik]
        · simp[hlow j hj (by omega)]) (λj hj h=>by
        have hne:is[j]≠i:=λe=>by have:=(List.getElem_inj ML).1 (e.trans hik.symm);omega
        simp[hne,hhigh j hj (by omega)])
      rw[hcnt] at h1;have key:=λK' hK'=>hat u a w Z K' hag' h1 hK';have h5:∀u' v w' Z',Ag k u u'→Fz.le Z Z'→((Em sp i).r u').p Z' v→St c (hs.getD (k+1) (λ_=>[]) u') Z' w'→K (a.put o.dst v) w':=λu' v w' Z' hag hz hpv hs'=>by
        refine hK _ _ ⟨u',Z',by rw[hcnt'];exact hs',hagr v Z' hz,hvals v Z' u' hz (λj hj hji hSj=>?_) (λ_=>hpv),hcl',hold' Z' hz v,hord⟩;refine(hst.at (hsa j hj) u u' (λm hm=>hag m ?_)).symm;have hlj:=(b4 j hj).1;rw[hlv j hj] at hlj;have hml:m<is.length:=by omega
        cases Nat.lt_or_ge m k with
        | inl h7=>exact h7
        | inr h7=>have:=hlev j hj hSj m hml hm;rw[hhigh m hml h7] at this;cases this
      refine⟨λ_=>(key K h5).2,λhw'=>?_⟩;rw[(key K h5).1] at hw';cases hw'
    | none=>
      rw[hf] at hat;have hni:∀x∈is,x≠i:=λx hx e=>by
        have:=List.findIdx?_eq_none_iff.1 hf x hx;subst e;simp at this
      have hcnt':cnt (λj=>j ==i||S j) is=cnt S is:=KN λx hx=>by simp[hni x hx]
      by_cases hfi:(Em sp i).fx=true
      · simp only[hfi,if_true] at hat
        have hli:=b4 i hi;rw[hlv i hi] at hli;have hcnt:cnt S is=(Em sp i).lv:=Kb hli.1 (λj hj h=>?_) (λj hj h=>?_)
        · rw[hcnt] at h1
          refine hat u a w Z K hag' h1 (λv w' Z' hz hp hst'=>hK _ _ ⟨u,Z',?_,hagr v Z' hz,hvals v Z' u hz (λ_ _ _ _=>rfl) (λ_=>hp),hcl',hold' Z' hz v,hord⟩);rw[hcnt',hcnt];exact hst'
        · have h7:=hli.2
          have hm1:(Em sp i).lv-1<is.length:=by omega
          rw[hisD _ hm1] at h7;simp only[UC,beq_iff_eq] at h7;rcases h7 with(h7 | h7) | h7
          · omega
          · exact absurd h7.symm (hni _ (List.getElem_mem hm1))
          · exact hpre _ hm1 (hanc _ h7 (hni _ (List.getElem_mem hm1))) j hj (by omega)
        · have h7:=b6 i hi
          rw[hfx i hi,hfi,hlv i hi] at h7;simp only[Uu,U0,UC,beq_iff_eq] at h7;rcases h7 with h7 | h7
          · omega
          · have hm1:(Em sp i).lv<is.length:=by omega
            rw[hisD _ hm1] at h7
            cases hS:S is[j] with
            | false=>rfl
            | true=>
              have h8:=hpre j hj hS _ hm1 h;have:=clo (λk=>decide (k<N)&&S k) hcl _ _ h7 (by show(decide (is[(Em sp i).lv]<N)&&S is[(Em sp i).lv])=true;rw[hSis _ hm1];exact h8);simp only[Ui,hun] at this;exact absurd this.2 (by simp)
      · simp only[hfi,UT] at hat
        refine hat u _ a w Z K hag' h1 (λv w' Z' hz hp hst'=>hK _ _ ⟨u,Z',?_,hagr v Z' hz,hvals v Z' u hz (λ_ _ _ _=>rfl) (λ_=>hp),hcl',hold' Z' hz v,hord⟩);rw[hcnt'];exact hst'
  · obtain⟨u,Z,h1,h2,h3,_,_,_⟩:=hI
    have hsl:(Tb sp u).length=N:=by simp[Tb,hsp]
    have hcnt:cnt (λ_=>true) is=is.length:=Kb (Uv _) (λ_ _ _=>rfl) (λj hj h=>by omega);rw[hcnt] at h1;refine h u a w Z (L5 h2 _ _ 0 (λt o s d ht hs hd=>?_)) h1;have htN:t<N:=by have:=(List.getElem?_eq_some_iff.1 hs).1;omega
    have hs':s = { deps:=(Em sp t).deps,r:=(Em sp t).r u }:=by
      simp only[Tb,U4,hsa t htN,Option.map_some,Option.some.injEq] at hs;exact hs.symm
    subst hs';rw[UE];exact h3 t o d htN rfl (by rw[← hget t htN];exact ht) hd
theorem KX {id:Nat}{ops:List Oper}(N:Nat)(is ks0 ksw:List Nat)(sp:List Sy)(hs:List (Ux→List Ent))(hst:KU sp)(hob:Kg P n c ops.toArray Q ops sp l0 lw is hs 0 (ops.take N))(h:∀u,WL P n c ops.toArray Q (ops.drop N) (IR (λ_=>0) (ops.take N) (Tb sp u) 0 l0) (hs.getD is.length (λ_=>[]) u))
  (h0:Kp ks0 l l0:=by repeat (first | exact M5 | (apply JV;rfl) | (apply Kq;rfl))) (hw:Kp ksw l lw:=by repeat (first | exact M5 | (apply JV;rfl) | (apply Kq;rfl))) (hm:P.follows .mixedOrders=true:=by kernel_rfl) (hB:TH n ops N is (DP l0) (sp.map (·.deps)) (sp.map (·.lv)) (sp.map (·.fx)) (sp.map (·.old))=true:=by kernel_rfl)
  (hsp:sp.length=N:=by rfl) (hH:∀u,hs.getD 0 (λ_=>[]) u=H:=by exact λ_=>rfl):WC P n c (.region id ops.toArray true) Q l H:=Re N is sp hs hm hB h0.one hw.one hsp hst hH hob h
theorem Dp {all rest:List Oper}{o:Oper}{i:Nat}(hr:∀{u H},DD P n c opsA Q (EA lw (Em sp i).old (B2 all (Se sp u) (Em sp i).deps l0)) H o ((Em sp i).r u) H)(h:Kg P n c opsA Q all sp l0 lw is hs (i+1) rest)(hne:is.findIdx? (λx=>Nat.beq x i)=none:=by rfl)(hf:(Em sp i).fx=false:=by rfl):Kg P n c opsA Q all sp l0 lw is hs i (o::rest):=by
 refine⟨?_,h⟩;unfold T3;rw[hne];simp only[hf,UJ,UT];exact λu H=>hr
theorem SV {all rest:List Oper}{o:Oper}{i:Nat}(k:Nat)(hr:∀{u},T2 P n c opsA Q (EA lw (Em sp i).old (B2 all (Se sp u) (Em sp i).deps l0)) (hs.getD k (λ_=>[]) u) o k u (Em sp i).r (hs.getD (k+1) (λ_=>[])))(h:Kg P n c opsA Q all sp l0 lw is hs (i+1) rest)(hne:is.findIdx? (λx=>Nat.beq x i)=some k:=by rfl):Kg P n c opsA Q all sp l0 lw is hs i (o::rest):=by
 refine⟨?_,h⟩;unfold T3;rw[hne];exact λu=>hr
theorem T7 {all:List Oper}{i:Nat}:Kg P n c opsA Q all sp l0 lw is hs i []:=trivial
end
section
variable {P : Program} {n : Nat} {c : Cx} {opsA : Array Oper} {Q : Exit → Act → World → Prop} {l : Fr} {H : List Ent} {d : Nat} {x y : Operand} {ty t e : TypeId} {pos : String} {af : Array Edge} {v : Value} {sz : Nat}
theorem Is {k:Nat}{u:Ux}{f:FuncId}{args:List Operand}{ats:Array TypeId}{rs:List Rp}{r:Ux→Rp}{H1:Ux→List Ent}{Hin Hr:List Ent}{Φ:Rp→List Ent→Prop}(hcall:∀(as1:Array Value) (w:World),(callFunc f as1).run P w = .ok (.enter f as1) w)(hv:KJ l args=some rs)
  (hp:H.Perm (Hin++Hr)) (hc:Fn P c.E f rs Hin Φ) (hΦ:∀r' H',Φ r' H'→∃u',Ag k u u'∧r'=r u'∧H'++Hr=H1 u'):T2 P n c opsA Q l H { dst:=some d,op:=.call { callee:=.value (.func f),args:=args.toArray,argTypes:=ats },type:=ty,pos:=pos,after:=af,guard:=none } k u r H1:=λa w Z K ha hw hK=>by
 refine⟨by simp[Region.wanted],?_⟩;unfold Oper.wp;rw[Ex rfl hcall w];refine(hc w Z _ (Gp ha hv) (hw.perm hp).enter).mono ?_;rintro e w' ⟨r',v,H',Z',rfl,hΦ',hr,hs⟩;obtain⟨u',h1,h2,h3⟩:=hΦ r' H' hΦ';subst h2;exact hK u' v w' Z' h1 hs.le hr (h3▸(hw.perm hp).call hs)
theorem SY {k:Nat}{u:Ux}{r:Ux→Rp}{H1:Ux→List Ent}{dd:Option Nat}{op:Op}{j dj:Nat}{want b:Bool}(hj:CK opsA j=some dj)(hv:look l dj=some (rB b))(hb:b=want)
  (h:T2 P n c opsA Q l H { dst:=dd,op:=op,type:=ty,pos:=pos,after:=af,guard:=none } k u r H1):T2 P n c opsA Q l H { dst:=dd,op:=op,type:=ty,pos:=pos,after:=af,guard:=some (j,want) } k u r H1:=λa w Z K ha hw hK=>by
 obtain⟨_,h1⟩:=h a w Z K ha hw hK;have hy:=Cm ha hj hv;subst hb;exact⟨by simp[Region.wanted,hy],h1⟩
end
end Go.Proofs.YtmmbdclkpijkpaaGreatDoor.Q
