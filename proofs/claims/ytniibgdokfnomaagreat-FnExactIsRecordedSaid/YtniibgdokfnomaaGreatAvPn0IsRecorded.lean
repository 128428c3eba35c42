/- plain laws -/
import Derived.Test.YtniibgdokfnomaaGreatAvPhIsRecorded
namespace Go.Proofs
open Go Go.Av
set_option maxRecDepth 100000
set_option maxHeartbeats 40000000
set_option linter.unusedVariables false
set_option linter.unusedSimpArgs false
namespace Lw
theorem p_s_l1In (N:Nat) (n a b:Int):s_l1In N n a b=some (decide (a≤n∧n≤b)):=by
 unfold s_l1In
 rw [sel_ite]
 split <;> simp <;> omega
theorem p_i_InRange (N:Nat) (n a b:Int):i_InRange N n a b=some (decide (a≤n∧n≤b)):=by
 unfold i_InRange
 rw [sel_ite]
 split <;> simp <;> omega
/-- a lower-case letter -/
def isLet (c:UInt8):Bool:=decide (97≤c.toNat∧c.toNat≤122)
theorem p_i_isLetter (N:Nat) (c:UInt8):i_isLetter N (c.toNat:Int)=some (isLet c):=by
 unfold i_isLetter isLet
 rw [sel_ite]
 split
 ·rw [Option.some.injEq,decide_eq_decide];omega
 ·rw [Option.some.injEq,eq_comm,decide_eq_false_iff_not];omega
def okCell (c:UInt8):Bool:=c == 35 || c == 46
def isGrid (g:Gx.Grid):Bool:=decide (2≤g.mRows∧g.mRows≤6) && decide (2≤g.mCols∧g.mCols≤6) && decide ((g.mCells.length:Int)=g.mRows * g.mCols) && g.mCells.all okCell
theorem grid_small {g:Gx.Grid} (h1:2≤g.mRows∧g.mRows≤6) (h2:2≤g.mCols∧g.mCols≤6):0≤g.mRows * g.mCols∧g.mRows * g.mCols≤36:=
 ⟨Int.mul_nonneg (by omega) (by omega),Int.le_trans (Int.mul_le_mul h1.2 h2.2 (by omega) (by omega)) (by omega)⟩
theorem cell_ne (c:UInt8):((c.toNat:Int) != 35)=(c != 35):=by simp only [bne];rw [show (35:Int)=((35:Nat):Int) from rfl,u8_eq (by omega)];rfl
theorem cell_ne' (c:UInt8):((c.toNat:Int) != 46)=(c != 46):=by simp only [bne];rw [show (46:Int)=((46:Nat):Int) from rfl,u8_eq (by omega)];rfl
theorem cells_loop {N:Nat} (g:Gx.Grid) (h:g.mCells.length≤36) (hN:67108864<N) {step:Int→Option (Sum Int (Cut Unit Bool))}
  (hs:∀p,step p=sel (decide (p<(g.mCells.length:Int))) (chk (0≤p∧p<(g.mCells.length:Int)) <| sel ((byteI g.mCells p) != 35) (chk (0≤p∧p<(g.mCells.length:Int)) <| sel ((byteI g.mCells p) != 46) (some (.inr (.rt false))) (some (.inl (w64 (p+1))))) (some (.inl (w64 (p+1))))) (some (.inr (.nx ())))):
  cutb (loopN step N 0) (fun _=>some true)=some (g.mCells.all okCell):=by
 rw [loop_all (l:=g.mCells) okCell (b:=false) (fun i x hx hi=>by
  rw [hs,sel_pos (by omega),chk_pos ⟨by omega,by omega⟩,chk_pos ⟨by omega,by omega⟩,byteI_nat hx,cell_ne,cell_ne']
  unfold okCell
  by_cases h1:x=35
  ·subst h1;rfl
  ·by_cases h2:x=46
   ·subst h2;rfl
   ·have e1:(x != 35)=true:=by simpa using h1
    have e2:(x != 46)=true:=by simpa using h2
    rw [e1,e2];simp [h1,h2]) (by rw [hs,sel_neg (by omega)]) (by omega) (by omega)]
 split <;> simp_all
theorem p_s_IsGrid {N:Nat} (hN:67108864<N) (g:Gx.Grid):s_IsGrid N g=some (isGrid g):=by
 unfold s_IsGrid isGrid
 rw [p_s_l1In,p_s_l1In]
 simp only [bnd_mk,sel_not,sel_ite]
 split
 ·rename_i h1
  split
  ·rename_i h2
   have hm:=grid_small h1 h2
   rw [w64_in (by omega) (by omega)]
   by_cases h3:(g.mCells.length:Int)=g.mRows * g.mCols
   ·have e:((g.mCells.length:Int) != g.mRows * g.mCols)=false:=by simpa using h3
    rw [e,sel_false,cells_loop g (by omega) hN (step:=s_IsGrid_L1 N g) (fun p=>rfl)]
    simp [h1,h2,h3]
   ·have e:((g.mCells.length:Int) != g.mRows * g.mCols)=true:=by simpa using h3
    rw [e];simp [h3]
  ·rename_i h2;simp [h2]
 ·rename_i h1;simp [h1]
theorem p_i_IsGrid {N:Nat} (hN:67108864<N) (g:Gx.Grid):i_IsGrid N g=some (isGrid g):=by
 unfold i_IsGrid isGrid
 rw [p_i_InRange,p_i_InRange]
 simp only [bnd_mk,sel_not,sel_ite]
 split
 ·rename_i h1
  split
  ·rename_i h2
   have hm:=grid_small h1 h2
   rw [w64_in (by omega) (by omega)]
   by_cases h3:(g.mCells.length:Int)=g.mRows * g.mCols
   ·have e:((g.mCells.length:Int) != g.mRows * g.mCols)=false:=by simpa using h3
    rw [e,sel_false,cells_loop g (by omega) hN (step:=i_IsGrid_L1 N g) (fun p=>rfl)]
    simp [h1,h2,h3]
   ·have e:((g.mCells.length:Int) != g.mRows * g.mCols)=true:=by simpa using h3
    rw [e];simp [h3]
  ·rename_i h2;simp [h2]
 ·rename_i h1;simp [h1]
structure GridOk (g:Gx.Grid):Prop where
 rows:2≤g.mRows∧g.mRows≤6
 cols:2≤g.mCols∧g.mCols≤6
 len:(g.mCells.length:Int)=g.mRows * g.mCols
 cells:∀c∈g.mCells,c=35∨c=46
theorem isGrid_ok {g:Gx.Grid} (h:isGrid g=true):GridOk g:=by
 unfold isGrid at h
 simp only [Bool.and_eq_true,decide_eq_true_eq,List.all_eq_true] at h
 refine ⟨h.1.1.1,h.1.1.2,h.1.2,fun c hc=>?_⟩
 have:=h.2 c hc
 simpa [okCell] using this
theorem GridOk.small {g:Gx.Grid} (h:GridOk g):g.mCells.length≤36:=by have:=grid_small h.rows h.cols;have:=h.len;omega
def okFill (a b:UInt8):Bool:=if a=35 then b == 35 else b == 63 || isLet b
def isFill (g:Gx.Grid) (f:List UInt8):Bool:=isGrid g && decide (f.length=g.mCells.length) && allI (fun i b=>okFill (g.mCells.getD i 0) b) f 0
theorem fillBranch (a b:UInt8) (ha:a=35∨a=46):okFill a b=if a=35 then b == 35 else (b == 63 || isLet b):=rfl
theorem letQ (b:UInt8):(sel ((b.toNat:Int) == 63) (some true) (sel (decide ((b.toNat:Int)≥97)) (some (decide ((b.toNat:Int)≤122))) (some false)))=some (b == 63 || isLet b):=by
 rw [show (63:Int)=((63:Nat):Int) from rfl,u8_eq (by omega)]
 by_cases h:b=63
 ·subst h;rfl
 ·have e:(b == UInt8.ofNat 63)=false:=by simpa using h
  have e':(b == 63)=false:=by simpa using h
  rw [e,e',sel_false,sel_ite,Bool.false_or]
  unfold isLet
  split
  ·rw [Option.some.injEq,decide_eq_decide];omega
  ·rw [Option.some.injEq,eq_comm,decide_eq_false_iff_not];omega
theorem ne35 (b:UInt8):((b.toNat:Int) != 35)=(b != 35):=cell_ne b
theorem eq35 (b:UInt8):((b.toNat:Int) == 35)=(b == 35):=by rw [show (35:Int)=((35:Nat):Int) from rfl,u8_eq (by omega)];rfl
theorem eq46 (b:UInt8):((b.toNat:Int) == 46)=(b == 46):=by rw [show (46:Int)=((46:Nat):Int) from rfl,u8_eq (by omega)];rfl
theorem eq63 (b:UInt8):((b.toNat:Int) == 63)=(b == 63):=by rw [show (63:Int)=((63:Nat):Int) from rfl,u8_eq (by omega)];rfl
theorem ne63 (b:UInt8):((b.toNat:Int) != 63)=(b != 63):=by simp only [bne,eq63]
theorem p_s_IsFill {N:Nat} (hN:67108864<N) (g:Gx.Grid) (f:List UInt8):s_IsFill N g f=some (isFill g f):=by
 unfold s_IsFill isFill
 rw [p_s_IsGrid hN,bnd_mk,sel_not]
 cases hg:isGrid g with
 | false=>rfl
 | true=>
  have G:=isGrid_ok hg
  have hs:=G.small
  rw [sel_true,Bool.true_and]
  by_cases hl:f.length=g.mCells.length
  ·have e:((f.length:Int) != (g.mCells.length:Int))=false:=by simp [hl]
   rw [e,sel_false,decide_eq_true hl,Bool.true_and,loop_allI (l:=f) (γ:=Unit) (fun i b=>okFill (g.mCells.getD i 0) b) (b:=false) (fun i b hb hi=>by
    have ha:g.mCells[i]?=some g.mCells[i]:=List.getElem?_eq_getElem (by omega)
    have hd:g.mCells.getD i 0=g.mCells[i]:=by rw [List.getD_eq_getElem?_getD,ha];rfl
    have hab:=G.cells _ (List.getElem_mem (n:=i) (by omega))
    generalize g.mCells[i]=a at ha hd hab
    unfold s_IsFill_L1
    rw [sel_pos (by omega)]
    have q1:0≤(i:Int)∧(i:Int)<(f.length:Int):=⟨by omega,by omega⟩
    have q2:0≤(i:Int)∧(i:Int)<(g.mCells.length:Int):=⟨by omega,by omega⟩
    simp only [chk_pos q1,chk_pos q2]
    rw [byteI_nat hb,byteI_nat ha,letQ,bnd_mk,eq35,ne35,eq46,hd,fillBranch a b hab]
    rcases hab with rfl | rfl
    ·by_cases h:b=35
     ·subst h;rfl
     ·have e1:(b != 35)=true:=by simpa using h
      have e2:(b == 35)=false:=by simpa using h
      rw [e1];simp [e2]
    ·cases hq:(b == 63 || isLet b) <;> simp) (by unfold s_IsFill_L1;rw [sel_neg (by omega)]) (by omega) (by omega)]
   split <;> simp_all
  ·have e:((f.length:Int) != (g.mCells.length:Int))=true:=by simp;omega
   rw [e,decide_eq_false hl];rfl
theorem p_i_IsFill {N:Nat} (hN:67108864<N) (g:Gx.Grid) (f:List UInt8):i_IsFill N g f=some (isFill g f):=by
 unfold i_IsFill isFill
 rw [p_i_IsGrid hN,bnd_mk,sel_not]
 cases hg:isGrid g with
 | false=>rfl
 | true=>
  have G:=isGrid_ok hg
  have hs:=G.small
  rw [sel_true,Bool.true_and]
  by_cases hl:f.length=g.mCells.length
  ·have e:((f.length:Int) != (g.mCells.length:Int))=false:=by simp [hl]
   rw [e,sel_false,decide_eq_true hl,Bool.true_and,loop_allI (l:=f) (γ:=Unit) (fun i b=>okFill (g.mCells.getD i 0) b) (b:=false) (fun i b hb hi=>by
    have ha:g.mCells[i]?=some g.mCells[i]:=List.getElem?_eq_getElem (by omega)
    have hd:g.mCells.getD i 0=g.mCells[i]:=by rw [List.getD_eq_getElem?_getD,ha];rfl
    have hab:=G.cells _ (List.getElem_mem (n:=i) (by omega))
    generalize g.mCells[i]=a at ha hd hab
    unfold i_IsFill_L1
    rw [sel_pos (by omega)]
    have q1:0≤(i:Int)∧(i:Int)<(f.length:Int):=⟨by omega,by omega⟩
    have q2:0≤(i:Int)∧(i:Int)<(g.mCells.length:Int):=⟨by omega,by omega⟩
    simp only [chk_pos q1,chk_pos q2]
    rw [byteI_nat hb,byteI_nat ha,p_i_isLetter,bnd_mk,eq35,eq35,ne35,ne63,hd,fillBranch a b hab]
    rcases hab with rfl | rfl
    ·by_cases h:b=35
     ·subst h;rfl
     ·have e2:(b == 35)=false:=by simpa using h
      rw [e2];simp
    ·by_cases h:b=35
     ·subst h;rfl
     ·have e1:(b != 35)=true:=by simpa using h
      have e2:(b == 35)=false:=by simpa using h
      rw [e1,e2]
      by_cases h3:b=63
      ·subst h3;rfl
      ·have e3:(b != 63)=true:=by simpa using h3
       have e4:(b == 63)=false:=by simpa using h3
       rw [e3,e4]
       cases isLet b <;> simp) (by unfold i_IsFill_L1;rw [sel_neg (by omega)]) (by omega) (by omega)]
   split <;> simp_all
  ·have e:((f.length:Int) != (g.mCells.length:Int))=true:=by simp;omega
   rw [e,decide_eq_false hl];rfl
/-- what a fill is told by -/
theorem isFill_ok {g:Gx.Grid} {f:List UInt8} (h:isFill g f=true):GridOk g∧f.length=g.mCells.length:=by
 unfold isFill at h
 simp only [Bool.and_eq_true,decide_eq_true_eq] at h
 exact ⟨isGrid_ok h.1.1,h.1.2⟩
structure Dims (g:Gx.Grid) (R C:Nat):Prop where
 r:g.mRows=(R:Int)
 c:g.mCols=(C:Int)
 r2:2≤R∧R≤6
 c2:2≤C∧C≤6
 len:g.mCells.length=R * C
theorem GridOk.dims {g:Gx.Grid} (h:GridOk g):∃R C,Dims g R C:=by
 refine ⟨g.mRows.toNat,g.mCols.toNat,?_,?_,?_,?_,?_⟩ <;> have:=h.rows <;> have:=h.cols <;> have hl:=h.len
 ·omega
 ·omega
 ·omega
 ·omega
 ·have e:((g.mRows.toNat * g.mCols.toNat:Nat):Int)=g.mRows * g.mCols:=by
   rw [Int.natCast_mul,Int.toNat_of_nonneg (by omega),Int.toNat_of_nonneg (by omega)]
  omega
theorem rc36 {R C:Nat} (h1:R≤6) (h2:C≤6):R * C≤36:=Nat.mul_le_mul h1 h2
theorem tw_spec (p:Nat→Bool):∀K,∃m,m=((List.range K).takeWhile p).length∧m≤K∧(∀i,i<m→p i=true)∧(m<K→p m=false)
 | 0=>⟨0,rfl,Nat.le_refl _,by simp,by simp⟩
 | K+1=>by
  obtain ⟨m,e,h1,h2,h3⟩:=tw_spec p K
  rw [List.range_succ]
  by_cases hm:m<K
  ·refine ⟨m,?_,by omega,h2,fun _=>h3 hm⟩
   have hlt:((List.range K).takeWhile p).length<(List.range K).length:=by rw [← e,List.length_range];exact hm
   rw [List.takeWhile_append,if_neg (by omega),← e]
  ·have hK:m=K:=by omega
   have hall:((List.range K).takeWhile p).length=(List.range K).length:=by rw [← e,List.length_range,hK]
   rw [List.takeWhile_append,if_pos hall]
   cases hp:p K with
   | true=>
    refine ⟨K+1,by simp [hp],Nat.le_refl _,fun i hi=>?_,by omega⟩
    by_cases h:i=K
    ·rw [h,hp]
    ·exact h2 i (by omega)
   | false=>exact ⟨K,by simp [hp],by omega,fun i hi=>h2 i (by omega),fun _=>hp⟩
def dot (g:Gx.Grid) (k:Nat):Bool:=g.mCells.getD k 0 == 46
def dStep (g:Gx.Grid) (down:Bool):Nat:=if down=true then g.mCols.toNat else 1
def dPlace (g:Gx.Grid) (c:Nat) (down:Bool):Nat:=if down=true then c / g.mCols.toNat else c % g.mCols.toNat
def dSide (g:Gx.Grid) (down:Bool):Nat:=if down=true then g.mRows.toNat else g.mCols.toNat
def runN (g:Gx.Grid) (c:Nat) (down:Bool):Nat:=
 if dot g c=true then
  if 0<dPlace g c down∧dot g (c - dStep g down)=true then 0
  else ((List.range (dSide g down - dPlace g c down)).takeWhile fun k=>dot g (c+k * dStep g down)).length
 else 0
theorem dot_byte {g:Gx.Grid} {k:Nat} (h:k<g.mCells.length):((byteI g.mCells (k:Int)) == 46)=dot g k:=by
 have hx:g.mCells[k]?=some g.mCells[k]:=List.getElem?_eq_getElem h
 rw [byteI_nat hx,eq46,dot,List.getD_eq_getElem?_getD,hx];rfl
theorem in_grid {R C c k:Nat} (down:Bool) (hC:0<C) (hc:c<R * C) (h:(if down=true then c / C else c % C)+k<(if down=true then R else C)):c+k * (if down=true then C else 1)<R * C:=by
 cases down with
 | true=>
  simp only [if_true] at h ⊢
  have h1:=Nat.div_add_mod c C
  have h2:=Nat.mod_lt c hC
  have h3:(c / C+k+1) * C≤R * C:=Nat.mul_le_mul_right _ (by omega)
  rw [Nat.succ_mul,Nat.add_mul,Nat.mul_comm (c / C)] at h3
  omega
 | false=>
  simp only [Bool.false_eq_true,if_false] at h ⊢
  have h1:=Nat.div_add_mod c C
  have h4:c / C<R:=by rw [Nat.div_lt_iff_lt_mul hC];exact hc
  have h3:(c / C+1) * C≤R * C:=Nat.mul_le_mul_right _ (by omega)
  rw [Nat.succ_mul,Nat.mul_comm (c / C)] at h3
  omega
theorem runN_le {g:Gx.Grid} {R C:Nat} (D:Dims g R C) (c:Nat) (down:Bool):runN g c down≤6:=by
 have e1:g.mRows.toNat=R:=by rw [D.r];rfl
 have e2:g.mCols.toNat=C:=by rw [D.c];rfl
 have:=D.r2;have:=D.c2
 unfold runN
 split
 ·split
  ·omega
  ·obtain ⟨m,e,h1,_⟩:=tw_spec (fun k=>dot g (c+k * dStep g down)) (dSide g down - dPlace g c down)
   rw [← e]
   have:dSide g down≤6:=by unfold dSide;split <;> omega
   omega
 ·omega
/-- a run's cells lie in the grid -/
theorem runN_in {g:Gx.Grid} {R C:Nat} (D:Dims g R C) {c:Nat} (hc:c<R * C) (down:Bool) {k:Nat} (hk:k<runN g c down):c+k * dStep g down<R * C:=by
 have e1:g.mRows.toNat=R:=by rw [D.r];rfl
 have e2:g.mCols.toNat=C:=by rw [D.c];rfl
 unfold runN at hk
 split at hk
 ·split at hk
  ·omega
  ·obtain ⟨m,e,h1,_⟩:=tw_spec (fun k=>dot g (c+k * dStep g down)) (dSide g down - dPlace g c down)
   rw [← e] at hk
   have:=in_grid (R:=R) (C:=C) (c:=c) (k:=k) down (by have:=D.c2;omega) hc (by
    unfold dSide dPlace at h1
    rw [e1,e2] at h1
    have:=D.c2
    cases down <;> simp only [if_true,Bool.false_eq_true,if_false] at h1 ⊢ <;> omega)
   unfold dStep
   rw [e2]
   exact this
 ·omega
theorem p_i_run {N:Nat} (hN:67108864<N) {g:Gx.Grid} {R C:Nat} (D:Dims g R C) {c:Nat} (hc:c<R * C) (down:Bool):i_run N g (c:Int) down=some ((runN g c down:Nat):Int):=by
 have e1:g.mRows.toNat=R:=by rw [D.r];rfl
 have e2:g.mCols.toNat=C:=by rw [D.c];rfl
 have h36:=rc36 D.r2.2 D.c2.2
 have hlen:=D.len
 have hc0:((C:Int)≠0):=by have:=D.c2;omega
 unfold i_run
 rw [D.c,chk_pos hc0]
 have et:(sel down (chk ((C:Int)≠0) <| some ((C:Int),w64 (Int.tdiv (c:Int) (C:Int)),g.mRows)) (some ((1:Int),Int.tmod (c:Int) (C:Int),(C:Int))))=
   some (((dStep g down:Nat):Int),((dPlace g c down:Nat):Int),((dSide g down:Nat):Int)):=by
  unfold dStep dPlace dSide
  rw [e1,e2]
  cases down with
  | true=>
   rw [sel_true,chk_pos hc0,if_pos rfl,if_pos rfl,if_pos rfl,D.r]
   have:Int.tdiv (c:Int) (C:Int)=((c / C:Nat):Int):=by rw [Int.tdiv_eq_ediv_of_nonneg (by omega)];rfl
   have h2:=Nat.div_le_self c C
   rw [this]
   generalize c / C=q at h2
   rw [w64_in (by omega) (by omega)]
  | false=>
   rw [sel_false,if_neg (by simp),if_neg (by simp),if_neg (by simp)]
   have:Int.tmod (c:Int) (C:Int)=((c % C:Nat):Int):=by rw [Int.tmod_eq_emod_of_nonneg (by omega)];rfl
   rw [this];rfl
 rw [et,bnd_mk,chk_pos ⟨by omega,by omega⟩]
 have hb:((byteI g.mCells (c:Int)) != 46)=!(dot g c):=by simp only [bne];rw [dot_byte (by omega)]
 rw [hb,sel_not]
 unfold runN
 cases hd:dot g c with
 | false=>rfl
 | true=>
  rw [sel_true,if_pos rfl]
  have hpl:dPlace g c down≤c:=by
   unfold dPlace;split
   ·exact Nat.div_le_self _ _
   ·exact Nat.mod_le _ _
  have hside:dSide g down≤6:=by unfold dSide;have:=D.r2;have:=D.c2;split <;> omega
  have hstep:dStep g down≤6:=by unfold dStep;have:=D.r2;have:=D.c2;split <;> omega
  have hback:0<dPlace g c down→dStep g down≤c:=by
   intro h
   unfold dPlace at h;unfold dStep
   cases down with
   | true=>
    simp only [if_true] at h ⊢
    have:=Nat.div_add_mod c g.mCols.toNat
    have h3:1 * g.mCols.toNat≤(c / g.mCols.toNat) * g.mCols.toNat:=Nat.mul_le_mul_right _ h
    rw [Nat.mul_comm (c / _)] at h3
    omega
   | false=>
    simp only [Bool.false_eq_true,if_false] at h ⊢
    have:=Nat.mod_le c g.mCols.toNat
    omega
  have loop:bnd (α:=Int) (loopN (i_run_L1 N (((dStep g down:Nat):Int),((dPlace g c down:Nat):Int),((dSide g down:Nat):Int)) (c:Int) g) N 0) (fun t3=>some t3)=
    some ((((List.range (dSide g down - dPlace g c down)).takeWhile fun k=>dot g (c+k * dStep g down)).length:Nat):Int):=by
   obtain ⟨m,e,h1,h2,h3⟩:=tw_spec (fun k=>dot g (c+k * dStep g down)) (dSide g down - dPlace g c down)
   rw [← e]
   have rdx:∀k,dPlace g c down+k<dSide g down→c+k * dStep g down<R * C:=by
    intro k hk
    have:=in_grid (R:=R) (C:=C) (c:=c) (k:=k) down (by have:=D.c2;omega) hc (by
     unfold dSide dPlace at hk
     rw [e1,e2] at hk
     exact hk)
    unfold dStep
    rw [e2];exact this
   have key:=loopN_inv (N:=N) (step:=i_run_L1 N (((dStep g down:Nat):Int),((dPlace g c down:Nat):Int),((dSide g down:Nat):Int)) (c:Int) g) (fun i=>(i:Int)) (n:=m) (b:=(m:Int)) (fun i hi=>by
    have hin:=rdx i (by omega)
    have hm6:i * dStep g down≤6 * 6:=Nat.mul_le_mul (by omega) hstep
    unfold i_run_L1
    simp only
    rw [w64_in (n:=((dPlace g c down:Nat):Int)+(i:Int)) (by omega) (by omega),sel_pos (by omega)]
    have ew:w64 ((c:Int)+w64 ((i:Int) * ((dStep g down:Nat):Int)))=((c+i * dStep g down:Nat):Int):=by
     rw [← Int.natCast_mul,w64_in (n:=((i * dStep g down:Nat):Int)) (by omega) (by omega),w64_in (by omega) (by omega)];rfl
    rw [ew,chk_pos ⟨by omega,by omega⟩,dot_byte (by omega),h2 i hi,sel_true,w64_nat (by omega)]) (by
    unfold i_run_L1
    simp only
    rw [w64_in (n:=((dPlace g c down:Nat):Int)+(m:Int)) (by omega) (by omega)]
    by_cases hm:m<dSide g down - dPlace g c down
    ·have hin:=rdx m (by omega)
     have hm6:m * dStep g down≤6 * 6:=Nat.mul_le_mul (by omega) hstep
     rw [sel_pos (by omega)]
     have ew:w64 ((c:Int)+w64 ((m:Int) * ((dStep g down:Nat):Int)))=((c+m * dStep g down:Nat):Int):=by
      rw [← Int.natCast_mul,w64_in (n:=((m * dStep g down:Nat):Int)) (by omega) (by omega),w64_in (by omega) (by omega)];rfl
     rw [ew,chk_pos ⟨by omega,by omega⟩,dot_byte (by omega),h3 hm,sel_false]
    ·rw [sel_neg (by omega)]) (by omega)
   rw [show (0:Int)=((0:Nat):Int) from rfl,key];rfl
  simp only
  by_cases hp:0<dPlace g c down
  ·have hb2:=hback hp
   rw [sel_pos (by omega)]
   have ew:w64 ((c:Int) - ((dStep g down:Nat):Int))=((c - dStep g down:Nat):Int):=by rw [w64_in (by omega) (by omega)];omega
   rw [ew,chk_pos ⟨by omega,by omega⟩,dot_byte (by omega)]
   cases h4:dot g (c - dStep g down) with
   | true=>rw [sel_true,cutb_rt,if_pos ⟨hp,rfl⟩];rfl
   | false=>rw [sel_false,cutb_nx,if_neg (by simp),loop]
  ·rw [sel_neg (by omega),cutb_nx,if_neg (by omega),loop]
theorem e_run (N:Nat) (g:Gx.Grid) (c:Int) (d:Bool):s_l8From N g c d=i_run N g c d:=rfl
def slotsTo (g:Gx.Grid):Nat→List Gx.Slot×Nat
 | 0=>([],0)
 | c+1=>
  let n:=if 2≤runN g c false∨2≤runN g c true then (slotsTo g c).2+1 else (slotsTo g c).2
  ((slotsTo g c).1++(if 2≤runN g c false then [(⟨(n:Int),false,(c:Int),(runN g c false:Nat)⟩:Gx.Slot)] else [])++(if 2≤runN g c true then [(⟨(n:Int),true,(c:Int),(runN g c true:Nat)⟩:Gx.Slot)] else []),n)
def slots (g:Gx.Grid):List Gx.Slot:=if isGrid g=true then (slotsTo g g.mCells.length).1 else []
theorem slotsTo_len (g:Gx.Grid):∀c,(slotsTo g c).1.length≤2 * c∧(slotsTo g c).2≤c
 | 0=>⟨Nat.le_refl _,Nat.le_refl _⟩
 | c+1=>by
  obtain ⟨h1,h2⟩:=slotsTo_len g c
  by_cases ha:2≤runN g c false <;> by_cases hd:2≤runN g c true <;> simp [slotsTo,ha,hd] <;> omega
theorem slot_round {N:Nat} (hN:67108864<N) {g:Gx.Grid} {R C:Nat} (D:Dims g R C) {c:Nat} (hc:c<R * C):
  (bnd (i_run N g (c:Int) false) fun x2=>
  bnd (i_run N g (c:Int) true) fun x3=>
  bnd (α:=Int) (
   sel (decide (x2≥2))
    (some (w64 (((slotsTo g c).2:Int)+1)))
    (sel (decide (x3≥2))
     (some (w64 (((slotsTo g c).2:Int)+1)))
     (some ((slotsTo g c).2:Int)))) fun t4=>
  bnd (α:=(List (Gx.Slot))) (
   sel (decide (x2≥2))
    (chk ((slotsTo g c).1.length+([(⟨t4,false,(c:Int),x2⟩:Gx.Slot)]).length≤274877906944) <|
    some ((slotsTo g c).1++([(⟨t4,false,(c:Int),x2⟩:Gx.Slot)])))
    (some (slotsTo g c).1)) fun t5=>
  sel (decide (x3≥2))
   (chk (t5.length+([(⟨t4,true,(c:Int),x3⟩:Gx.Slot)]).length≤274877906944) <|
   some (Sum.inl (β:=List Gx.Slot) (t5++([(⟨t4,true,(c:Int),x3⟩:Gx.Slot)]),t4,w64 ((c:Int)+1))))
   (some (Sum.inl (β:=List Gx.Slot) (t5,t4,w64 ((c:Int)+1)))))=some (Sum.inl ((slotsTo g (c+1)).1,(((slotsTo g (c+1)).2:Nat):Int),((c+1:Nat):Int))):=by
 have h36:=rc36 D.r2.2 D.c2.2
 obtain ⟨l1,l2⟩:=slotsTo_len g c
 rw [p_i_run hN D hc,p_i_run hN D hc,bnd_mk,bnd_mk,w64_nat (by omega),w64_nat (by omega)]
 simp only [slotsTo]
 generalize runN g c false=a
 generalize runN g c true=d
 generalize slotsTo g c=q at l1 l2 ⊢
 by_cases ha:2≤a <;> by_cases hd:2≤d
 ·rw [sel_pos (by omega),bnd_mk,sel_pos (by omega),chk_pos (by simp;omega),bnd_mk,sel_pos (by omega),chk_pos (by simp;omega)]
  simp [ha,hd]
 ·rw [sel_pos (by omega),bnd_mk,sel_pos (by omega),chk_pos (by simp;omega),bnd_mk,sel_neg (by omega)]
  simp [ha,hd]
 ·rw [sel_neg (by omega),sel_pos (by omega),bnd_mk,sel_neg (by omega),bnd_mk,sel_pos (by omega),chk_pos (by simp;omega)]
  simp [ha,hd]
 ·rw [sel_neg (by omega),sel_neg (by omega),bnd_mk,sel_neg (by omega),bnd_mk,sel_neg (by omega)]
  simp [ha,hd]
theorem p_i_SlotsOf {N:Nat} (hN:67108864<N) (g:Gx.Grid):i_SlotsOf N g=some (slots g):=by
 unfold i_SlotsOf slots
 rw [p_i_IsGrid hN,bnd_mk,sel_not]
 cases hg:isGrid g with
 | false=>rfl
 | true=>
  obtain ⟨R,C,D⟩:=(isGrid_ok hg).dims
  have h36:=rc36 D.r2.2 D.c2.2
  have hlen:=D.len
  rw [sel_true,if_pos rfl]
  have:=loopN_inv (N:=N) (step:=i_SlotsOf_L1 N g) (fun i=>((slotsTo g i).1,(((slotsTo g i).2:Nat):Int),(i:Int))) (n:=g.mCells.length) (b:=(slotsTo g g.mCells.length).1) (fun i hi=>by
   unfold i_SlotsOf_L1
   simp only
   rw [sel_pos (by omega)]
   exact slot_round hN D (by omega)) (by
   unfold i_SlotsOf_L1
   simp only
   rw [sel_neg (by omega)]) (by omega)
  rw [show (([]:List Gx.Slot),(0:Int),(0:Int))=((slotsTo g 0).1,(((slotsTo g 0).2:Nat):Int),((0:Nat):Int)) from rfl,this,bnd_mk]
theorem p_s_SlotsOf {N:Nat} (hN:67108864<N) (g:Gx.Grid) (hl:g.mCells.length≤1048576):s_SlotsOf N g=some (slots g):=by
 unfold s_SlotsOf slots
 cases hg:isGrid g with
 | false=>
  rw [if_neg (by simp)]
  have:loopN (s_SlotsOf_L1 N g) N ([],0,0)=some []:=by
   refine loopN_inv (N:=N) (step:=s_SlotsOf_L1 N g) (fun _=>([],0,0)) (n:=0) (b:=[]) (fun i hi=>by omega) ?_ (by omega)
   unfold s_SlotsOf_L1
   simp only
   rw [p_s_IsGrid hN,bnd_mk,hg,sel_false,sel_ite]
   split <;> rfl
  rw [this,bnd_mk]
 | true=>
  obtain ⟨R,C,D⟩:=(isGrid_ok hg).dims
  have h36:=rc36 D.r2.2 D.c2.2
  have hlen:=D.len
  rw [if_pos rfl]
  have:=loopN_inv (N:=N) (step:=s_SlotsOf_L1 N g) (fun i=>((slotsTo g i).1,(((slotsTo g i).2:Nat):Int),(i:Int))) (n:=g.mCells.length) (b:=(slotsTo g g.mCells.length).1) (fun i hi=>by
   unfold s_SlotsOf_L1
   simp only
   rw [sel_pos (by omega),p_s_IsGrid hN,bnd_mk,hg,sel_true]
   simp only [e_run]
   exact slot_round hN D (by omega)) (by
   unfold s_SlotsOf_L1
   simp only
   rw [sel_neg (by omega)]) (by omega)
  rw [show (([]:List Gx.Slot),(0:Int),(0:Int))=((slotsTo g 0).1,(((slotsTo g 0).2:Nat):Int),((0:Nat):Int)) from rfl,this,bnd_mk]
/-- what is known of a slot -/
structure SlotIn (g:Gx.Grid) (R C:Nat) (s:Gx.Slot) (c:Nat):Prop where
 cell:s.mCell=(c:Int)
 lt:c<R * C
 len:s.mLength=((runN g c s.mDown:Nat):Int)
 two:2≤runN g c s.mDown
theorem slotsTo_in {g:Gx.Grid} {R C:Nat}:∀n,n≤R * C→∀s∈(slotsTo g n).1,∃c,c<n∧SlotIn g R C s c
 | 0,_,s,h=>by simp [slotsTo] at h
 | n+1,hn,s,h=>by
  simp only [slotsTo,List.mem_append] at h
  rcases h with (h | h) | h
  ·obtain ⟨c,h1,h2⟩:=slotsTo_in (R:=R) (C:=C) n (by omega) s h
   exact ⟨c,by omega,h2⟩
  ·split at h
   ·rename_i h2
    simp only [List.mem_cons,List.not_mem_nil,or_false] at h
    subst h
    exact ⟨n,by omega,rfl,by omega,rfl,h2⟩
   ·simp at h
  ·split at h
   ·rename_i h2
    simp only [List.mem_cons,List.not_mem_nil,or_false] at h
    subst h
    exact ⟨n,by omega,rfl,by omega,rfl,h2⟩
   ·simp at h
theorem slotsTo_nodup {g:Gx.Grid} {R C:Nat}:∀n,n≤R * C→(slotsTo g n).1.Nodup
 | 0,_=>by simp [slotsTo]
 | n+1,hn=>by
  have ih:=slotsTo_nodup (g:=g) (R:=R) (C:=C) n (by omega)
  have old:=slotsTo_in (g:=g) (R:=R) (C:=C) n (by omega)
  have fresh:∀(m l:Int) (d:Bool),(⟨m,d,(n:Int),l⟩:Gx.Slot)∉(slotsTo g n).1:=by
   intro m l d h
   obtain ⟨c,h1,h2⟩:=old _ h
   have:=h2.cell
   simp only at this
   omega
  have snoc:∀(l:List Gx.Slot) (x:Gx.Slot),l.Nodup→x∉l→(l++[x]).Nodup:=by
   intro l x h1 h2
   rw [List.nodup_append]
   refine ⟨h1,by simp,fun a ha b hb e=>?_⟩
   simp only [List.mem_cons,List.not_mem_nil,or_false] at hb
   subst e;subst hb;exact h2 ha
  simp only [slotsTo]
  by_cases ha:2≤runN g n false
  ·rw [if_pos ha]
   by_cases hd:2≤runN g n true
   ·rw [if_pos hd]
    refine snoc _ _ (snoc _ _ ih (fresh _ _ _)) fun h=>?_
    rcases List.mem_append.1 h with h | h
    ·exact fresh _ _ _ h
    ·simp at h
   ·rw [if_neg hd,List.append_nil]
    exact snoc _ _ ih (fresh _ _ _)
  ·rw [if_neg ha,List.append_nil]
   by_cases hd:2≤runN g n true
   ·rw [if_pos hd]
    exact snoc _ _ ih (fresh _ _ _)
   ·rw [if_neg hd,List.append_nil]
    exact ih
theorem slots_in {g:Gx.Grid} {R C:Nat} (D:Dims g R C) {s:Gx.Slot} (h:s∈slots g):∃c,SlotIn g R C s c:=by
 unfold slots at h
 split at h
 ·obtain ⟨c,_,h2⟩:=slotsTo_in (g:=g) (R:=R) (C:=C) g.mCells.length (by rw [D.len];exact Nat.le_refl _) s h
  exact ⟨c,h2⟩
 ·cases h
theorem slots_grid {g:Gx.Grid} {s:Gx.Slot} (h:s∈slots g):isGrid g=true:=by
 unfold slots at h
 split at h
 ·assumption
 ·cases h
theorem slots_nodup (g:Gx.Grid):(slots g).Nodup:=by
 unfold slots
 split
 ·rename_i h
  obtain ⟨R,C,D⟩:=(isGrid_ok h).dims
  exact slotsTo_nodup (g:=g) (R:=R) (C:=C) _ (by rw [D.len];exact Nat.le_refl _)
 ·exact List.nodup_nil
theorem slots_len (g:Gx.Grid):(slots g).length≤72:=by
 unfold slots
 split
 ·rename_i h
  obtain ⟨R,C,D⟩:=(isGrid_ok h).dims
  have:=(slotsTo_len g g.mCells.length).1
  have:=rc36 D.r2.2 D.c2.2
  have:=D.len
  omega
 ·simp
def cellN (g:Gx.Grid) (s:Gx.Slot) (k:Nat):Nat:=s.mCell.toNat+k * dStep g s.mDown
def cellsL (g:Gx.Grid) (s:Gx.Slot):List Int:=(List.range s.mLength.toNat).map fun k=>(cellN g s k:Int)
theorem range_get {n i:Nat} {k:Nat} (h:(List.range n)[i]?=some k):k=i∧i<n:=by
 have h1:=(List.getElem?_eq_some_iff.1 h)
 obtain ⟨h2,h3⟩:=h1
 rw [List.getElem_range] at h3
 exact ⟨h3.symm,by simpa using h2⟩
theorem SlotIn.bound {g:Gx.Grid} {R C:Nat} (D:Dims g R C) {s:Gx.Slot} {c:Nat} (S:SlotIn g R C s c) {k:Nat} (hk:k<s.mLength.toNat):cellN g s k<R * C:=by
 have h1:s.mLength.toNat=runN g c s.mDown:=by rw [S.len];rfl
 have h2:s.mCell.toNat=c:=by rw [S.cell];rfl
 unfold cellN
 rw [h2]
 exact runN_in D S.lt s.mDown (by omega)
theorem slot_cell {g:Gx.Grid} {R C:Nat} (D:Dims g R C) {s:Gx.Slot} {c:Nat} (S:SlotIn g R C s c) {k:Nat} (hk:k<s.mLength.toNat) {st:Int} (hst:st=(dStep g s.mDown:Int)):w64 (s.mCell+w64 ((k:Int) * st))=(cellN g s k:Int):=by
 have h:=S.bound D hk
 have h36:=rc36 D.r2.2 D.c2.2
 unfold cellN at h ⊢
 have h2:s.mCell.toNat=c:=by rw [S.cell];rfl
 subst hst
 rw [← Int.natCast_mul,w64_in (n:=((k * dStep g s.mDown:Nat):Int)) (by omega) (by omega),S.cell,w64_in (by omega) (by omega),Int.toNat_natCast]
 rfl
theorem p_i_cells {N:Nat} (hN:67108864<N) {g:Gx.Grid} {R C:Nat} (D:Dims g R C) {s:Gx.Slot} {c:Nat} (S:SlotIn g R C s c):i_cells N g s=some (cellsL g s):=by
 unfold i_cells
 have e2:g.mCols.toNat=C:=by rw [D.c];rfl
 have h6:runN g c s.mDown≤6:=runN_le D c s.mDown
 have et:sel s.mDown (some g.mCols) (some (1:Int))=some ((dStep g s.mDown:Nat):Int):=by
  unfold dStep
  rw [e2]
  cases s.mDown <;> simp [D.c]
 have hl:s.mLength=((s.mLength.toNat:Nat):Int):=by rw [S.len];rfl
 have hl6:s.mLength.toNat≤6:=by rw [S.len,Int.toNat_natCast];exact h6
 rw [et,bnd_mk]
 have:=loop_map (N:=N) (l:=List.range s.mLength.toNat) (step:=i_cells_L1 N s ((dStep g s.mDown:Nat):Int)) (fun k=>(cellN g s k:Int)) (fi:=fun a=>a) (fun i k a hk hi ha=>by
  obtain ⟨rfl,hk2⟩:=range_get hk
  unfold i_cells_L1
  simp only
  rw [sel_pos (by omega),slot_cell D S hk2 rfl,chk_pos (by simp only [List.length_cons,List.length_nil];omega)]) (fun a=>by
  unfold i_cells_L1
  simp only [List.length_range]
  rw [sel_neg (by omega)]) (by simp;omega) (by simp;omega)
 rw [this,bnd_mk];rfl
theorem p_i_layout {N:Nat} (hN:67108864<N) (g:Gx.Grid):i_layout N g=some ((slots g).map (cellsL g)):=by
 unfold i_layout
 have h72:=slots_len g
 rw [p_i_SlotsOf hN,bnd_mk]
 have:=loop_map (N:=N) (l:=slots g) (step:=i_layout_L1 N (slots g) g) (cellsL g) (fi:=fun a=>a) (fun i s a hs hi ha=>by
  have hm:=List.mem_of_getElem? hs
  obtain ⟨R,C,D⟩:=(isGrid_ok (slots_grid hm)).dims
  obtain ⟨c,S⟩:=slots_in D hm
  unfold i_layout_L1
  simp only
  rw [sel_pos (by omega),getI_nat hs,bnd_mk,p_i_cells hN D S,bnd_mk,chk_pos (by simp only [List.length_cons,List.length_nil];omega)]) (fun a=>by
  unfold i_layout_L1
  simp only
  rw [sel_neg (by omega)]) (by omega) (by omega)
 rw [this,bnd_mk]
/-- the bytes of some cells -/
def readL (f:List UInt8) (l:List Int):List UInt8:=l.map fun c=>f.getD c.toNat 0
theorem p_i_readCells {N:Nat} (hN:67108864<N) (f:List UInt8) (l:List Int) (hl:l.length≤1048576) (hc:∀c∈l,0≤c∧c<(f.length:Int)):i_readCells N f l=some (readL f l):=by
 unfold i_readCells
 have:=loop_map (N:=N) (l:=l) (step:=i_readCells_L1 N l f) (fun c=>f.getD c.toNat 0) (fi:=fun a=>a) (fun i c a hs hi ha=>by
  have hm:=hc c (List.mem_of_getElem? hs)
  unfold i_readCells_L1
  simp only
  rw [sel_pos (by omega),getI_nat hs,bnd_mk,chk_pos hm,chk_pos (by simp only [List.length_cons,List.length_nil];omega)]) (fun a=>by
  unfold i_readCells_L1
  simp only
  rw [sel_neg (by omega)]) (by omega) (by omega)
 rw [this,bnd_mk];rfl
theorem cellsL_len (g:Gx.Grid) (s:Gx.Slot):(cellsL g s).length=s.mLength.toNat:=by simp [cellsL]
theorem cellsL_in {g:Gx.Grid} {R C:Nat} (D:Dims g R C) {s:Gx.Slot} {c:Nat} (S:SlotIn g R C s c):∀x∈cellsL g s,0≤x∧x<((R * C:Nat):Int):=by
 intro x hx
 obtain ⟨k,hk,rfl⟩:=List.mem_map.1 hx
 have:=S.bound D (k:=k) (by simpa using hk)
 omega
theorem SlotIn.small {g:Gx.Grid} {R C:Nat} (D:Dims g R C) {s:Gx.Slot} {c:Nat} (S:SlotIn g R C s c):s.mLength.toNat≤6:=by
 rw [S.len,Int.toNat_natCast];exact runN_le D c s.mDown
def patterns (g:Gx.Grid) (f:List UInt8):List (List UInt8):=if isFill g f=true then (slots g).map fun s=>readL f (cellsL g s) else []
theorem p_i_patterns {N:Nat} (hN:67108864<N) (g:Gx.Grid) (f:List UInt8):i_patterns N g f=some (patterns g f):=by
 unfold i_patterns patterns
 rw [p_i_IsFill hN,bnd_mk,sel_not]
 cases hf:isFill g f with
 | false=>rfl
 | true=>
  obtain ⟨G,hl⟩:=isFill_ok hf
  obtain ⟨R,C,D⟩:=G.dims
  have h36:=rc36 D.r2.2 D.c2.2
  have h72:=slots_len g
  have hlen:=D.len
  rw [sel_true,if_pos rfl,p_i_layout hN,bnd_mk]
  have:=loop_map (N:=N) (l:=(slots g).map (cellsL g)) (step:=i_patterns_L1 N ((slots g).map (cellsL g)) f) (readL f) (fi:=fun a=>a) (fun i l a hs hi ha=>by
   obtain ⟨s,hs1,rfl⟩:=List.mem_map.1 (List.mem_of_getElem? hs)
   obtain ⟨c,S⟩:=slots_in D hs1
   have h6:=S.small D
   simp only [List.length_map] at hi
   unfold i_patterns_L1
   simp only
   rw [sel_pos (by simp;omega),getI_nat hs,bnd_mk,p_i_readCells hN f _ (by rw [cellsL_len];omega) (fun x hx=>by have:=cellsL_in D S x hx;omega),bnd_mk,chk_pos (by simp only [List.length_cons,List.length_nil];omega)]) (fun a=>by
   unfold i_patterns_L1
   simp only
   rw [sel_neg (by omega)]) (by simp;omega) (by simp;omega)
  rw [this,bnd_mk,List.map_map];rfl
theorem p_s_CellsOf_loop {N:Nat} (hN:67108864<N) {g:Gx.Grid} {R C:Nat} (D:Dims g R C) {s:Gx.Slot} {c:Nat} (S:SlotIn g R C s c) (a:List Int) (ha:a.length≤1048576):loopN (s_CellsOf_L2 N s g) N (a,0)=some (a++cellsL g s):=by
 have h6:=S.small D
 have hl:s.mLength=((s.mLength.toNat:Nat):Int):=by rw [S.len];rfl
 have e2:g.mCols.toNat=C:=by rw [D.c];rfl
 have key:=loop_fold (N:=N) (step:=s_CellsOf_L2 N s g) (fun i a=>(a,(i:Int))) (List.range s.mLength.toNat) (fun (a:List Int) (k:Nat)=>a++[(cellN g s k:Int)]) (fun a=>a) (fun i b=>b.length≤1048576+i) (a:=a) ha (fun b hb=>by
  unfold s_CellsOf_L2
  simp only [List.length_range]
  rw [sel_neg (by omega)]) (fun i b k hb hk hi=>by
  obtain ⟨rfl,hk2⟩:=range_get hk
  refine ⟨?_,by simp;omega⟩
  unfold s_CellsOf_L2
  simp only
  rw [sel_pos (by omega),w64_nat (by omega)]
  cases hd:s.mDown with
  | true=>
   have e:w64 (s.mCell+w64 ((k:Int) * g.mCols))=(cellN g s k:Int):=slot_cell D S hk2 (by unfold dStep;rw [hd,if_pos rfl,e2,D.c])
   rw [sel_true,e,chk_pos (by simp only [List.length_cons,List.length_nil];omega)]
  | false=>
   have e:w64 (s.mCell+(k:Int))=(cellN g s k:Int):=by
    have:=slot_cell D S hk2 (st:=1) (by unfold dStep;rw [hd,if_neg (by simp)];rfl)
    rw [Int.mul_one,w64_in (n:=(k:Int)) (by omega) (by omega)] at this
    exact this
   rw [sel_false,e,chk_pos (by simp only [List.length_cons,List.length_nil];omega)]) (by simp;omega)
 rw [show (a,(0:Int))=(a,((0:Nat):Int)) from rfl,key,foldl_snoc]
 rfl
theorem slot_beq (a b:Gx.Slot):(a.mNumber == b.mNumber && (a.mDown == b.mDown && (a.mCell == b.mCell && (a.mLength == b.mLength && true))))=decide (a=b):=by
 rw [Bool.eq_iff_iff]
 simp only [Bool.and_eq_true,beq_iff_eq,and_true,decide_eq_true_eq]
 constructor
 ·rintro ⟨h1,h2,h3,h4⟩;cases a;cases b;simp_all
 ·rintro rfl;simp
theorem p_s_CellsOf {N:Nat} (hN:67108864<N) {g:Gx.Grid} {R C:Nat} (D:Dims g R C) (hlg:g.mCells.length≤1048576) {s:Gx.Slot} (hs:s∈slots g):s_CellsOf N g s=some (cellsL g s):=by
 obtain ⟨c,S⟩:=slots_in D hs
 have h72:=slots_len g
 have h6:=S.small D
 unfold s_CellsOf
 rw [p_s_SlotsOf hN g hlg,bnd_mk]
 -- before the slot: nothing;behind it: its cells
 have nd:=slots_nodup g
 have key:=loopN_list (N:=N) (step:=s_CellsOf_L1 N (slots g) s g) (fun i a=>(a,(i:Int))) (slots g) (fun r (a:List Int)=>if s∈r then cellsL g s else a) (fun i a=>if s∈(slots g).drop i then a=[] else a=cellsL g s) (a:=[]) (by rw [List.drop_zero,if_pos hs])
  (fun a ha=>by
   unfold s_CellsOf_L1
   simp only
   rw [sel_neg (by omega),if_neg (by simp)])
  (fun i a x r ha hx hr hi=>by
   left
   have hd:(slots g).drop i=x::r:=by rw [← hr];rw [List.drop_eq_getElem_cons hi];rw [List.getElem?_eq_getElem hi] at hx;cases hx;rfl
   have ndr:(x::r).Nodup:=by rw [← hd];exact nd.sublist (List.drop_sublist _ _)
   rw [hd] at ha
   unfold s_CellsOf_L1
   simp only
   rw [sel_pos (by omega),getI_nat hx,bnd_mk,slot_beq,sel_not,w64_nat (by omega)]
   by_cases e:x=s
   ·subst e
    rw [if_pos (by simp)] at ha
    subst ha
    have hn:x∉r:=(List.nodup_cons.1 ndr).1
    rw [sel_pos rfl,p_s_CellsOf_loop hN D S [] (by simp),bnd_mk,List.nil_append]
    refine ⟨_,rfl,by rw [hr,if_neg hn],by rw [if_pos (by simp),if_neg hn]⟩
   ·rw [sel_neg e,bnd_mk]
    refine ⟨_,rfl,?_,?_⟩
    ·rw [hr]
     simp only [List.mem_cons,Ne.symm e,false_or] at ha
     exact ha
    ·have:(s∈x::r)=(s∈r):=by simp only [List.mem_cons,Ne.symm e,false_or]
     simp only [this]) (by omega)
 rw [show (([]:List Int),(0:Int))=([],((0:Nat):Int)) from rfl,key,if_pos hs,bnd_mk]
theorem byte_get {f:List UInt8} {n:Nat} (h:n<f.length):f[n]?=some (f.getD n 0):=by
 rw [List.getD_eq_getElem?_getD,List.getElem?_eq_getElem h];rfl
theorem sub_one {f:List UInt8} {n:Nat} (h:n<f.length):sub f (n:Int) ((n+1:Nat):Int)=[f.getD n 0]:=by
 unfold sub
 have e:(((n+1:Nat):Int) - (n:Int)).toNat=1:=by omega
 have hx:=byte_get h
 obtain ⟨h1,h2⟩:=List.getElem?_eq_some_iff.1 hx
 rw [e,Int.toNat_natCast,List.drop_eq_getElem_cons h1,h2]
 rfl
theorem patterns_get {g:Gx.Grid} {f:List UInt8} (hf:isFill g f=true) {i:Nat} {s:Gx.Slot} (hs:(slots g)[i]?=some s):(patterns g f)[i]?=some (readL f (cellsL g s)):=by
 unfold patterns
 rw [if_pos hf,List.getElem?_map,hs];rfl
theorem p_s_SlotPattern_loop {N:Nat} (hN:67108864<N) {g:Gx.Grid} {R C:Nat} (D:Dims g R C) {s:Gx.Slot} {c:Nat} (S:SlotIn g R C s c) (f:List UInt8) (hl:f.length=R * C):loopN (s_SlotPattern_L1 N (cellsL g s) f) N ([],0)=some (readL f (cellsL g s)):=by
 have h6:=S.small D
 have h36:=rc36 D.r2.2 D.c2.2
 have hlen:=cellsL_len g s
 have:=loop_map (N:=N) (l:=cellsL g s) (step:=s_SlotPattern_L1 N (cellsL g s) f) (fun c=>f.getD c.toNat 0) (fi:=fun a=>a) (fun i x a hx hi ha=>by
  have hm:=cellsL_in D S x (List.mem_of_getElem? hx)
  obtain ⟨n,rfl⟩:∃n:Nat,x=(n:Int):=⟨x.toNat,by omega⟩
  unfold s_SlotPattern_L1
  simp only
  rw [sel_pos (by omega),getI_nat hx,bnd_mk,bnd_mk,w64_nat (i:=n) (by omega),chk_pos ⟨by omega,by omega,by omega⟩,sub_one (by omega),chk_pos (by simp only [List.length_cons,List.length_nil];omega)]
  rfl) (fun a=>by
  unfold s_SlotPattern_L1
  simp only
  rw [sel_neg (by omega)]) (by omega) (by omega)
 exact this
/-- the pattern of a slot by its index -/
def patAt (g:Gx.Grid) (f:List UInt8) (i:Int):List UInt8:=if 0≤i then (patterns g f).getD i.toNat [] else []
theorem patterns_len {g:Gx.Grid} {f:List UInt8} (hf:isFill g f=true):(patterns g f).length=(slots g).length:=by
 unfold patterns;rw [if_pos hf,List.length_map]
theorem p_s_SlotPattern {N:Nat} (hN:67108864<N) (g:Gx.Grid) (f:List UInt8) (hg:g.mCells.length≤1048576) (i:Int):s_SlotPattern N g f i=some (patAt g f i):=by
 unfold s_SlotPattern patAt
 have h72:=slots_len g
 rw [p_s_SlotsOf hN g hg,bnd_mk,p_s_IsFill hN,bnd_mk,sel_not]
 cases hf:isFill g f with
 | false=>
  have:patterns g f=[]:=by unfold patterns;rw [hf];rfl
  rw [this,sel_false]
  split <;> simp
 | true=>
  obtain ⟨G,hl⟩:=isFill_ok hf
  obtain ⟨R,C,D⟩:=G.dims
  rw [sel_true,p_s_l1In,bnd_mk,sel_not,sel_ite,w64_in (by omega) (by omega)]
  have hpl:=patterns_len hf
  by_cases hi:0≤i∧i≤((slots g).length:Int) - 1
  ·rw [if_pos hi,if_pos hi.1]
   obtain ⟨n,rfl⟩:∃n:Nat,i=(n:Int):=⟨i.toNat,by omega⟩
   have hx:(slots g)[n]?=some (slots g)[n]:=List.getElem?_eq_getElem (by omega)
   generalize (slots g)[n]=s at hx
   have hm:=List.mem_of_getElem? hx
   obtain ⟨c,S⟩:=slots_in D hm
   rw [getI_nat hx,bnd_mk,p_s_CellsOf hN D hg hm,bnd_mk,p_s_SlotPattern_loop hN D S f (by rw [hl,D.len]),bnd_mk]
   rw [Int.toNat_natCast,List.getD_eq_getElem?_getD,patterns_get hf hx];rfl
  ·rw [if_neg hi]
   split
   ·have:i.toNat≥(patterns g f).length:=by omega
    rw [List.getD_eq_getElem?_getD,List.getElem?_eq_none this];rfl
   ·rfl
def isOpen (s:List UInt8):Bool:=s.any (· == 63)
def openN (s:List UInt8):Nat:=(s.filter (· == 63)).length
theorem openN_zero (s:List UInt8):(((openN s:Nat):Int) == 0)=!isOpen s:=by
 unfold openN isOpen
 rw [Bool.eq_iff_iff]
 simp only [beq_iff_eq,Bool.not_eq_true',List.any_eq_false]
 constructor
 ·intro h c hc hq
  have:c∈s.filter (· == 63):=List.mem_filter.2 ⟨hc,by simpa using hq⟩
  have:=List.length_pos_of_mem this
  omega
 ·intro h
  have:s.filter (· == 63)=[]:=by
   rw [List.filter_eq_nil_iff]
   intro c hc hq;exact h c hc (by simpa using hq)
  rw [this];rfl
theorem foldl_count (p:UInt8→Bool):∀(l:List UInt8) (n:Int),l.foldl (fun a c=>if p c=true then a+1 else a) n=n+(l.filter p).length
 | [],n=>by simp
 | c::r,n=>by
  simp only [List.foldl_cons,foldl_count p r,List.filter_cons]
  split <;> simp <;> omega
theorem p_i_openIn {N:Nat} (s:List UInt8) (hs:s.length≤274877906944) (hN:s.length<N):i_openIn N s=some (openN s:Int):=by
 unfold i_openIn openN
 have key:=loop_fold (N:=N) (step:=i_openIn_L1 N s) (fun i a=>(a,(i:Int))) s (fun (a:Int) (c:UInt8)=>if (c == 63)=true then a+1 else a) (fun a=>a) (fun i a=>0≤a∧a≤i) (a:=0) ⟨by omega,by omega⟩ (fun a ha=>by
  unfold i_openIn_L1
  simp only
  rw [sel_neg (by omega)]) (fun i a c ha hc hi=>by
  unfold i_openIn_L1
  simp only
  rw [sel_pos (by omega),chk_pos ⟨by omega,by omega⟩,byteI_nat hc,eq63,w64_nat (by omega),w64_in (by omega) (by omega)]
  cases c == 63
  ·exact ⟨rfl,by simp;omega⟩
  ·exact ⟨rfl,by simp;omega⟩) hN
 rw [show ((0:Int),(0:Int))=(0,((0:Nat):Int)) from rfl,key,bnd_mk,foldl_count,Int.zero_add]
theorem p_s_l11Open {N:Nat} (s:List UInt8) (hs:s.length≤274877906944) (hN:s.length<N):s_l11Open N s=some (isOpen s):=by
 unfold s_l11Open isOpen
 rw [loop_all (l:=s) (fun c=>!(c == 63)) (b:=true) (fun i c hc hi=>by
  unfold s_l11Open_L1
  rw [sel_pos (by omega),chk_pos ⟨by omega,by omega⟩,byteI_nat hc,eq63]
  cases c == 63 <;> rfl) (by unfold s_l11Open_L1;rw [sel_neg (by omega)]) (by omega) hN]
 rw [List.all_eq_not_any_not]
 simp only [Bool.not_not]
 cases s.any (fun x=>x == 63) <;> rfl
theorem p_i_those {N:Nat} (l:List (List UInt8)) (f:List UInt8→Option Bool) (p:List UInt8→Bool) (hf:∀x∈l,f x=some (p x)) (hl:l.length≤137438953472) (hN:l.length<N):i_those N l f=some (l.filter p):=by
 unfold i_those
 have:=loop_filter (N:=N) (l:=l) (step:=i_those_L1 N l f) p (fi:=fun a=>a) (fun i x a hx hi ha=>by
  unfold i_those_L1
  simp only
  rw [sel_pos (by omega),getI_nat hx,bnd_mk,hf x (List.mem_of_getElem? hx),bnd_mk]
  cases p x
  ·rfl
  ·rw [sel_true,chk_pos (by simp only [List.length_cons,List.length_nil];omega)];rfl) (fun a=>by
  unfold i_those_L1
  simp only
  rw [sel_neg (by omega)]) (by omega) hN
 rw [this,bnd_mk]
def wordsIn (g:Gx.Grid) (f:List UInt8):List (List UInt8):=(patterns g f).filter fun p=>!isOpen p
theorem readL_len (f:List UInt8) (l:List Int):(readL f l).length=l.length:=by simp [readL]
theorem pat_small {g:Gx.Grid} {f:List UInt8}:∀p∈patterns g f,p.length≤6:=by
 intro p hp
 unfold patterns at hp
 split at hp
 ·rename_i hf
  obtain ⟨G,hl⟩:=isFill_ok hf
  obtain ⟨R,C,D⟩:=G.dims
  obtain ⟨s,hs,rfl⟩:=List.mem_map.1 hp
  obtain ⟨c,S⟩:=slots_in D hs
  rw [readL_len,cellsL_len];exact S.small D
 ·cases hp
theorem pats_len (g:Gx.Grid) (f:List UInt8):(patterns g f).length≤72:=by
 unfold patterns
 split
 ·rw [List.length_map];exact slots_len g
 ·simp
theorem p_i_WordsIn {N:Nat} (hN:67108864<N) (g:Gx.Grid) (f:List UInt8):i_WordsIn N g f=some (wordsIn g f):=by
 unfold i_WordsIn wordsIn
 have h72:=pats_len g f
 rw [p_i_patterns hN,bnd_mk,p_i_those (patterns g f) _ (fun p=>!isOpen p) (fun x hx=>by
  have:=pat_small x hx
  unfold i_WordsIn_1
  rw [p_i_openIn x (by omega) (by omega),bnd_mk,openN_zero]) (by omega) (by omega),bnd_mk]
theorem p_s_WordsIn {N:Nat} (hN:67108864<N) (g:Gx.Grid) (f:List UInt8) (hg:g.mCells.length≤1048576):s_WordsIn N g f=some (wordsIn g f):=by
 unfold s_WordsIn wordsIn
 have h72:=slots_len g
 rw [p_s_SlotsOf hN g hg,bnd_mk]
 cases hf:isFill g f with
 | false=>
  have hp:patterns g f=[]:=by unfold patterns;rw [hf];rfl
  have:loopN (s_WordsIn_L1 N (slots g) g f) N ([],0)=some []:=by
   refine loopN_inv (N:=N) (step:=s_WordsIn_L1 N (slots g) g f) (fun _=>([],0)) (n:=0) (b:=[]) (fun i hi=>by omega) ?_ (by omega)
   unfold s_WordsIn_L1
   simp only
   rw [p_s_IsFill hN,bnd_mk,hf,sel_false,sel_ite]
   split <;> rfl
  rw [this,bnd_mk,hp];rfl
 | true=>
  have hpl:=patterns_len hf
  have:=loop_filter (N:=N) (l:=patterns g f) (step:=s_WordsIn_L1 N (slots g) g f) (fun p=>!isOpen p) (fi:=fun a=>a) (fun i x a hx hi ha=>by
   have hm:=List.mem_of_getElem? hx
   have h6:=pat_small x hm
   have hpa:patAt g f (i:Int)=x:=by unfold patAt;rw [if_pos (by omega),Int.toNat_natCast,List.getD_eq_getElem?_getD,hx];rfl
   unfold s_WordsIn_L1
   simp only
   rw [sel_pos (by omega),p_s_IsFill hN,bnd_mk,hf,sel_true,p_s_SlotPattern hN g f hg,bnd_mk,hpa,p_s_l11Open x (by omega) (by omega),bnd_mk]
   cases isOpen x
   ·show sel true _ _=_
    rw [sel_true,chk_pos (by simp only [List.length_cons,List.length_nil];omega)];rfl
   ·rfl) (fun a=>by
   unfold s_WordsIn_L1
   simp only
   rw [sel_neg (by omega)]) (by omega) (by omega)
  rw [this,bnd_mk]
theorem wordsIn_len (g:Gx.Grid) (f:List UInt8):(wordsIn g f).length≤72:=Nat.le_trans (List.length_filter_le _ _) (pats_len g f)
def wordsI (x:Gx.Issue):List (List UInt8):=wordsIn x.mPuzzle.mGrid x.mFill
def IssSmall (x:Gx.Issue):Prop:=x.mPuzzle.mGrid.mCells.length≤1048576
theorem iss_small {h:Gx.House} (hs:h.size≤1048576):h.mIssues.length≤1048576∧∀x∈h.mIssues,IssSmall x:=by
 unfold Gx.House.size at hs
 refine ⟨by omega,fun x hx=>?_⟩
 have h2:x.size≤(h.mIssues.map (fun e:Gx.Issue=>e.size)).sum:=mem_sum (fun e:Gx.Issue=>e.size) hx
 have h3:x.mPuzzle.mGrid.mCells.length≤x.size:=by unfold Gx.Issue.size Gx.Puzzle.size Gx.Grid.size;omega
 unfold IssSmall
 omega
theorem p_i_words {N:Nat} (hN:67108864<N) (x:Gx.Issue):i_Issue_words N x=some (wordsI x):=by
 unfold i_Issue_words wordsI
 rw [p_i_WordsIn hN,bnd_mk]
theorem p_s_words {N:Nat} (hN:67108864<N) (x:Gx.Issue) (hx:IssSmall x):s_l36Words N x=some (wordsI x):=by
 unfold s_l36Words wordsI
 rw [p_s_WordsIn hN _ _ hx,bnd_mk]
theorem wordsI_len (x:Gx.Issue):(wordsI x).length≤72:=wordsIn_len _ _
def isWord (s:List UInt8):Bool:=decide (1≤s.length∧s.length≤8) && s.all isLet
theorem p_i_IsWord {N:Nat} (hN:67108864<N) (s:List UInt8):i_IsWord N s=some (isWord s):=by
 unfold i_IsWord i_InRange isWord
 by_cases h:1≤s.length∧s.length≤8
 ·rw [sel_pos (by omega),bnd_mk,decide_eq_true (p:=((s.length:Int)≤8)) (by omega),Bool.not_true,sel_false,loop_all (N:=N) (l:=s) isLet (b:=false) (fun i c hc hi=>by
   unfold i_IsWord_L1
   rw [sel_pos (by omega),chk_pos (by omega),byteI_nat hc,p_i_isLetter,bnd_mk]
   cases isLet c <;> rfl) (by unfold i_IsWord_L1;rw [sel_neg (by omega)]) (by omega) (by omega),decide_eq_true h]
  cases s.all isLet <;> rfl
 ·rw [decide_eq_false h,Bool.false_and,sel_ite]
  split
  ·rw [bnd_mk,decide_eq_false (p:=((s.length:Int)≤8)) (by omega)];rfl
  ·rfl
theorem p_s_IsWord {N:Nat} (hN:67108864<N) (s:List UInt8):s_IsWord N s=some (isWord s):=by
 unfold s_IsWord s_l1In isWord
 by_cases h:1≤s.length∧s.length≤8
 ·rw [sel_pos (by omega),bnd_mk,decide_eq_true (p:=((s.length:Int)≤8)) (by omega),Bool.not_true,sel_false,loop_all (N:=N) (l:=s) isLet (b:=false) (fun i c hc hi=>by
   unfold s_IsWord_L1
   rw [sel_pos (by omega),chk_pos (by omega),byteI_nat hc]
   unfold isLet
   by_cases h1:97≤c.toNat
   ·rw [sel_neg (by omega),chk_pos (by omega)]
    by_cases h2:c.toNat≤122
    ·rw [sel_neg (by omega),if_pos (by simp [h1,h2])]
    ·rw [sel_pos (by omega),if_neg (by simp [h2])]
   ·rw [sel_pos (by omega),if_neg (by simp [h1])]) (by unfold s_IsWord_L1;rw [sel_neg (by omega)]) (by omega) (by omega),decide_eq_true h]
  cases s.all isLet <;> rfl
 ·rw [decide_eq_false h,Bool.false_and,sel_ite]
  split
  ·rw [bnd_mk,decide_eq_false (p:=((s.length:Int)≤8)) (by omega)];rfl
  ·rfl
def beforeW (a b:List UInt8):Bool:=if ((a.length:Int) != (b.length:Int))=true then decide ((a.length:Int)<(b.length:Int)) else Op.bytesLess a b
theorem p_i_BeforeWord (N:Nat) (a b:List UInt8):i_BeforeWord N a b=some (beforeW a b):=by
 unfold i_BeforeWord beforeW
 cases ((a.length:Int) != (b.length:Int)) <;> rfl
theorem p_s_BeforeWord (N:Nat) (a b:List UInt8):s_BeforeWord N a b=some (beforeW a b):=p_i_BeforeWord N a b
def inR (n a b:Int):Bool:=decide (a≤n∧n≤b)
theorem p_i_inR (N:Nat) (n a b:Int):i_InRange N n a b=some (inR n a b):=p_i_InRange N n a b
theorem p_s_inR (N:Nat) (n a b:Int):s_l1In N n a b=some (inR n a b):=p_s_l1In N n a b
theorem prev_get {α:Type} {l:List α} {i:Nat} {x:α} (h:l[i]?=some x) (h0:i≠0):∃y,l[i - 1]?=some y:=⟨l[i - 1]'(by have:=(List.getElem?_eq_some_iff.1 h).1;omega),List.getElem?_eq_getElem _⟩
theorem w64_pred {i:Nat} (h0:i≠0) (h:i≤4611686018427387904):w64 ((i:Int) - 1)=((i - 1:Nat):Int):=by rw [w64_in (by omega) (by omega)];omega
def nbr (C n i j:Nat):Prop:=(0<i % C∧j+1=i)∨(i % C+1<C∧j=i+1)∨(C≤i∧j+C=i)∨(i+C<n∧j=i+C)
inductive Conn (C n:Nat) (w:Nat→Bool) (a:Nat):Nat→Prop
 | refl:Conn C n w a a
 | step {b c:Nat}:Conn C n w a b→nbr C n b c→w c=true→Conn C n w a c
theorem Conn.trans {C n:Nat} {w:Nat→Bool} {a b c:Nat} (h1:Conn C n w a b) (h2:Conn C n w b c):Conn C n w a c:=by
 induction h2 with
 | refl=>exact h1
 | step _ hn hw ih=>exact .step ih hn hw
theorem Conn.cons {C n:Nat} {w:Nat→Bool} {a b c:Nat} (hn:nbr C n a b) (hw:w b=true) (h2:Conn C n w b c):Conn C n w a c:=Conn.trans (.step .refl hn hw) h2
theorem less_same:∀(w:List UInt8),Op.bytesLess w w=false
 | []=>rfl
 | c::r=>by unfold Op.bytesLess;rw [less_same r];simp
/-- what holds between an entry and the one before it -/
def prevB {α:Type} (q:α→α→Bool) (l:List α) (i:Nat) (x:α):Bool:=match i with | 0=>true | k+1=>match l[k]? with | some y=>q y x | none=>true
theorem prevB_zero {α:Type} {q:α→α→Bool} {l:List α} {i:Nat} {x:α} (h:i=0):prevB q l i x=true:=by subst h;rfl
theorem prevB_pos {α:Type} {q:α→α→Bool} {l:List α} {i:Nat} {x y:α} (h:i≠0) (hy:l[i - 1]?=some y):prevB q l i x=q y x:=by
 cases i with
 | zero=>exact absurd rfl h
 | succ k=>simp only [prevB];rw [show k+1 - 1=k from rfl] at hy;rw [hy]
def beforeU (a b:Gx.Used):Bool:=if (a.mIssue != b.mIssue)=true then decide (a.mIssue<b.mIssue) else beforeW a.mWord b.mWord
theorem p_i_beforeUse (N:Nat) (a b:Gx.Used):i_beforeUse N a b=some (beforeU a b):=by
 unfold i_beforeUse beforeU
 rw [p_i_BeforeWord,bnd_mk,sel_eq];split <;> rfl
theorem p_s_l29Before (N:Nat) (a b:Gx.Used):s_l29Before N a b=some (beforeU a b):=by
 unfold s_l29Before beforeU
 rw [p_s_BeforeWord,bnd_mk]
 by_cases h:a.mIssue=b.mIssue
 ·rw [h,sel_neg (by omega),if_neg (by simp),beq_self_eq_true];rfl
 ·rw [if_pos (by simpa using h),beq_eq_false_iff_ne.2 h];cases decide (a.mIssue<b.mIssue) <;> rfl
def okU (l:List Gx.Used) (i:Nat) (x:Gx.Used):Bool:=prevB beforeU l i x && (isWord x.mWord && inR x.mIssue 1 999)
def areUses (l:List Gx.Used):Bool:=decide (l.length≤60) && allI (okU l) l 0
theorem p_i_AreUses {N:Nat} (hN:67108864<N) (l:List Gx.Used):i_AreUses N l=some (areUses l):=by
 unfold i_AreUses areUses
 by_cases h:l.length≤60
 ·rw [sel_neg (by omega),decide_eq_true h,loop_allI (N:=N) (γ:=Unit) (l:=l) (okU l) (b:=false) (fun i x hx hi=>by
   unfold i_AreUses_L1 okU
   rw [sel_pos (by omega),getI_nat hx,bnd_mk]
   simp only [p_i_IsWord hN,p_i_inR,bnd_mk]
   by_cases h0:i=0
   ·rw [sel_neg (by omega),prevB_zero h0]
    cases isWord x.mWord <;> cases inR x.mIssue 1 999 <;> rfl
   ·obtain ⟨y,hy⟩:=prev_get hx h0
    rw [sel_pos (by omega),prevB_pos h0 hy,w64_pred h0 (by omega),getI_nat hy]
    simp only [p_i_beforeUse,bnd_mk]
    cases beforeU y x <;> cases isWord x.mWord <;> cases inR x.mIssue 1 999 <;> rfl) (by unfold i_AreUses_L1;rw [sel_neg (by omega)]) (by omega) (by omega)]
  cases allI (okU l) l 0 <;> rfl
 ·rw [sel_pos (by omega),decide_eq_false h];rfl
theorem p_s_AreUses {N:Nat} (hN:67108864<N) (l:List Gx.Used) (hl:l.length≤4194304):s_AreUses N l=some (areUses l):=by
 unfold s_AreUses areUses
 rw [loop_allI (N:=N) (γ:=Unit) (l:=l) (okU l) (b:=false) (fun i x hx hi=>by
   unfold s_AreUses_L1 okU
   rw [sel_pos (by omega),getI_nat hx]
   simp only [p_s_IsWord hN,p_s_inR,bnd_mk]
   by_cases h0:i=0
   ·rw [sel_neg (by omega),prevB_zero h0]
    cases isWord x.mWord <;> cases inR x.mIssue 1 999 <;> rfl
   ·obtain ⟨y,hy⟩:=prev_get hx h0
    rw [sel_pos (by omega),prevB_pos h0 hy,w64_pred h0 (by omega),getI_nat hy]
    simp only [p_s_l29Before,bnd_mk]
    cases beforeU y x <;> cases isWord x.mWord <;> cases inR x.mIssue 1 999 <;> rfl) (by unfold s_AreUses_L1;rw [sel_neg (by omega)]) (by omega) (by omega)]
 have e:decide ((l.length:Int)≤60)=decide (l.length≤60):=by rw [Bool.eq_iff_iff];simp only [decide_eq_true_eq];omega
 rw [e]
 cases allI (okU l) l 0 <;> cases decide (l.length≤60) <;> rfl
theorem first_loop {α:Type} {l:List α} {q:α→Bool} {step:Int→Option (Sum Int Int)} (hs:∀i x,l[i]?=some x→i<l.length→step (i:Int)=if q x=true then some (.inl (w64 ((i:Int)+1))) else some (.inr (i:Int)))
  (he:step (l.length:Int)=some (.inr (l.length:Int))) (hl:l.length≤4611686018427387904):∀(m i M:Nat),i+m=l.length→m<M→loopN step M (i:Int)=some ((i+((l.drop i).takeWhile q).length:Nat):Int)
 | 0,i,0,_,h=>by omega
 | 0,i,M+1,hi,_=>by
  have e:i=l.length:=by omega
  subst e
  simp only [loopN,he,List.drop_length]
  rfl
 | m+1,i,0,_,h=>by omega
 | m+1,i,M+1,hi,hM=>by
  have hx:l[i]?=some l[i]:=List.getElem?_eq_getElem (by omega)
  have hd:l.drop i=l[i]::l.drop (i+1):=List.drop_eq_getElem_cons (by omega)
  have h:=hs i l[i] hx (by omega)
  rw [hd,List.takeWhile_cons]
  by_cases hq:q l[i]=true
  ·rw [if_pos hq] at h
   rw [if_pos hq]
   simp only [loopN,h]
   rw [w64_nat (by omega),first_loop hs he hl m (i+1) M (by omega) (by omega),List.length_cons]
   congr 2;omega
  ·rw [if_neg hq] at h
   rw [if_neg hq]
   simp only [loopN,h]
   rfl
theorem takeWhile_le {α:Type} (q:α→Bool):∀l:List α,(l.takeWhile q).length≤l.length
 | []=>Nat.le_refl _
 | x::l=>by
  rw [List.takeWhile_cons]
  split
  ·have:=takeWhile_le q l;simp only [List.length_cons];omega
  ·simp
def putAt {α:Type} (q:α→Bool) (x:α) (l:List α):List α:=(l.take (l.takeWhile q).length++[x])++l.drop (l.takeWhile q).length
theorem putAt_len {α:Type} (q:α→Bool) (x:α) (l:List α):(putAt q x l).length=l.length+1:=by
 have:=takeWhile_le q l
 unfold putAt
 simp only [List.length_append,List.length_take,List.length_drop,List.length_singleton]
 omega
theorem sub_zero {α:Type} (l:List α) (k:Nat):sub l 0 (k:Int)=l.take k:=by unfold sub;simp
theorem sub_end {α:Type} (l:List α) (k:Nat):sub l (k:Int) (l.length:Int)=l.drop k:=by
 unfold sub
 rw [Int.toNat_natCast,List.take_of_length_le (by rw [List.length_drop];omega)]
theorem blt_trans:∀{x y z:List UInt8},Op.bytesLess x y=true→Op.bytesLess y z=true→Op.bytesLess x z=true
 | x,[],z,h,_=>by simp [Op.bytesLess] at h
 | x,b::y,[],_,h=>by simp [Op.bytesLess] at h
 | [],b::y,c::z,_,_=>rfl
 | a::x,b::y,c::z,h1,h2=>by
  simp only [Op.bytesLess,Bool.or_eq_true,Bool.and_eq_true,decide_eq_true_eq,beq_iff_eq] at *
  rcases h1 with h1 | ⟨rfl,h1⟩
  ·rcases h2 with h2 | ⟨rfl,h2⟩
   ·exact .inl (UInt8.lt_trans h1 h2)
   ·exact .inl h1
  ·rcases h2 with h2 | ⟨rfl,h2⟩
   ·exact .inl h2
   ·exact .inr ⟨rfl,blt_trans h1 h2⟩
theorem blt_total:∀{x y:List UInt8},Op.bytesLess x y=false→Op.bytesLess y x=false→x=y
 | [],[],_,_=>rfl
 | [],b::y,h,_=>by simp [Op.bytesLess] at h
 | a::x,[],_,h=>by simp [Op.bytesLess] at h
 | a::x,b::y,h1,h2=>by
  simp only [Op.bytesLess,Bool.or_eq_false_iff,Bool.and_eq_false_iff,decide_eq_false_iff_not,beq_eq_false_iff_ne,ne_eq] at *
  have hab:a=b:=UInt8.le_antisymm (UInt8.not_lt.1 h2.1) (UInt8.not_lt.1 h1.1)
  subst hab
  rw [blt_total (h1.2.resolve_left (fun h=>h rfl)) (h2.2.resolve_left (fun h=>h rfl))]
theorem beforeW_iff {x y:List UInt8}:beforeW x y=true↔x.length<y.length∨(x.length=y.length∧Op.bytesLess x y=true):=by
 unfold beforeW
 by_cases h:x.length=y.length
 ·rw [if_neg (by simp;omega)]
  simp [h]
 ·rw [if_pos (by simp;omega)]
  simp [h]
theorem beforeU_iff {a b:Gx.Used}:beforeU a b=true↔a.mIssue<b.mIssue∨(a.mIssue=b.mIssue∧beforeW a.mWord b.mWord=true):=by
 unfold beforeU
 by_cases h:a.mIssue=b.mIssue
 ·rw [if_neg (by simpa using h)]
  simp [h]
 ·rw [if_pos (by simpa using h)]
  simp [h]
theorem beforeU_trans {a b c:Gx.Used} (h1:beforeU a b=true) (h2:beforeU b c=true):beforeU a c=true:=by
 rw [beforeU_iff] at *
 rcases h1 with h1 | ⟨e1,h1⟩ <;> rcases h2 with h2 | ⟨e2,h2⟩
 ·exact .inl (by omega)
 ·exact .inl (by omega)
 ·exact .inl (by omega)
 ·refine .inr ⟨by omega,?_⟩
  rw [beforeW_iff] at *
  rcases h1 with h1 | ⟨f1,h1⟩ <;> rcases h2 with h2 | ⟨f2,h2⟩
  ·exact .inl (by omega)
  ·exact .inl (by omega)
  ·exact .inl (by omega)
  ·exact .inr ⟨by omega,blt_trans h1 h2⟩
theorem beforeU_total {a b:Gx.Used} (h1:beforeU a b=false) (h2:beforeU b a=false):a=b:=by
 have h1:¬ beforeU a b=true:=by rw [h1];simp
 have h2:¬ beforeU b a=true:=by rw [h2];simp
 rw [beforeU_iff,beforeW_iff] at h1 h2
 have hi:a.mIssue=b.mIssue:=by omega
 have hl:a.mWord.length=b.mWord.length:=by omega
 have hw:a.mWord=b.mWord:=by
  refine blt_total ?_ ?_
  ·cases h:Op.bytesLess a.mWord b.mWord with
   | false=>rfl
   | true=>exact absurd (.inr ⟨hi,.inr ⟨hl,h⟩⟩) h1
  ·cases h:Op.bytesLess b.mWord a.mWord with
   | false=>rfl
   | true=>exact absurd (.inr ⟨hi.symm,.inr ⟨hl.symm,h⟩⟩) h2
 cases a;cases b
 simp only at hi hw
 rw [hi,hw]
theorem beforeU_irrefl (a:Gx.Used):beforeU a a=false:=by
 cases h:beforeU a a with
 | false=>rfl
 | true=>
  rw [beforeU_iff,beforeW_iff] at h
  have:=less_same a.mWord
  rcases h with h | ⟨_,h | ⟨_,h⟩⟩
  ·omega
  ·omega
  ·rw [this] at h;cases h
theorem beforeU_asym {a b:Gx.Used} (h:beforeU a b=true):beforeU b a=false:=by
 cases h2:beforeU b a with
 | false=>rfl
 | true=>have:=beforeU_trans h h2;rw [beforeU_irrefl] at this;cases this
/-- not before -/
theorem nbefore_trans {a b c:Gx.Used} (h1:beforeU b a=false) (h2:beforeU c b=false):beforeU c a=false:=by
 cases h:beforeU c a with
 | false=>rfl
 | true=>
  cases h3:beforeU a b with
  | true=>rw [beforeU_trans h h3] at h2;cases h2
  | false=>rw [beforeU_total h3 h1] at h;rw [h] at h2;cases h2
/-- in order, the same ones beside each other -/
def Wk (l:List Gx.Used):Prop:=l.Pairwise fun a b=>beforeU b a=false
theorem putAt_cons {α:Type} (q:α→Bool) (x y:α) (l:List α):putAt q x (y::l)=if q y=true then y::putAt q x l else x::y::l:=by
 unfold putAt
 rw [List.takeWhile_cons]
 split <;> simp
theorem putAt_perm {α:Type} (q:α→Bool) (x:α) (l:List α):(putAt q x l).Perm (x::l):=by
 unfold putAt
 rw [List.append_assoc]
 refine List.perm_middle.trans (List.Perm.of_eq ?_)
 show x::(l.take _++l.drop _)=x::l
 rw [List.take_append_drop]
theorem putAt_wk (x:Gx.Used):∀{l:List Gx.Used},Wk l→Wk (putAt (fun y=>beforeU y x) x l)
 | [],_=>List.pairwise_singleton _ _
 | y::l,h=>by
  have h':(y::l).Pairwise fun a b=>beforeU b a=false:=h
  rw [List.pairwise_cons] at h'
  rw [putAt_cons]
  split
  ·rename_i hy
   refine List.pairwise_cons.2 ⟨fun e he=>?_,putAt_wk x h'.2⟩
   rcases List.mem_cons.1 ((putAt_perm _ x l).mem_iff.1 he) with rfl | he
   ·exact beforeU_asym hy
   ·exact h'.1 e he
  ·rename_i hy
   have hy:beforeU y x=false:=by simpa using hy
   refine List.pairwise_cons.2 ⟨fun e he=>?_,h⟩
   rcases List.mem_cons.1 he with rfl | he
   ·exact hy
   ·exact nbefore_trans hy (h'.1 e he)
/-- from behind -/
def posR (x:Gx.Used) (l:List Gx.Used):Nat→Nat
 | 0=>0
 | m+1=>if beforeU x (l.getD m ⟨[],0⟩)=true then posR x l m else m+1
theorem posR_le (x:Gx.Used) (l:List Gx.Used):∀m,posR x l m≤m
 | 0=>Nat.le_refl _
 | m+1=>by
  unfold posR
  split
  ·have:=posR_le x l m;omega
  ·omega
theorem posR_up (x:Gx.Used) (l:List Gx.Used):∀m i,posR x l m≤i→i<m→beforeU x (l.getD i ⟨[],0⟩)=true
 | 0,i,_,h=>by omega
 | m+1,i,h1,h2=>by
  unfold posR at h1
  split at h1
  ·rename_i hm
   by_cases hi:i=m
   ·subst hi;exact hm
   ·exact posR_up x l m i h1 (by omega)
  ·omega
theorem posR_down (x:Gx.Used) (l:List Gx.Used):∀m,posR x l m=0∨beforeU x (l.getD (posR x l m - 1) ⟨[],0⟩)=false
 | 0=>.inl rfl
 | m+1=>by
  unfold posR
  split
  ·exact posR_down x l m
  ·rename_i h
   right
   simpa using h
def putR (x:Gx.Used) (l:List Gx.Used):List Gx.Used:=(l.take (posR x l l.length)++[x])++l.drop (posR x l l.length)
theorem putR_perm (x:Gx.Used) (l:List Gx.Used):(putR x l).Perm (x::l):=by
 unfold putR
 rw [List.append_assoc]
 refine List.perm_middle.trans (List.Perm.of_eq ?_)
 show x::(l.take _++l.drop _)=x::l
 rw [List.take_append_drop]
theorem putR_wk (x:Gx.Used) {l:List Gx.Used} (h:Wk l):Wk (putR x l):=by
 have hle:=posR_le x l l.length
 have hup:=posR_up x l l.length
 have hdn:=posR_down x l l.length
 unfold putR
 generalize posR x l l.length=k at *
 have hg:∀i (h:i<l.length),l.getD i ⟨[],0⟩=l[i]:=fun i h=>by simp [List.getD_eq_getElem?_getD,List.getElem?_eq_getElem h]
 have h1:∀e∈l.take k,beforeU x e=false:=by
  intro e he
  obtain ⟨i,hi,rfl⟩:=List.mem_iff_getElem.1 he
  rw [List.length_take] at hi
  rw [List.getElem_take]
  have hk:k - 1<l.length:=by omega
  rcases hdn with hd | hd
  ·omega
  ·rw [hg _ hk] at hd
   by_cases hik:i=k - 1
   ·subst hik;exact hd
   ·exact nbefore_trans (List.pairwise_iff_getElem.1 h i (k - 1) (by omega) hk (by omega)) hd
 have h2:∀e∈l.drop k,beforeU e x=false:=by
  intro e he
  obtain ⟨i,hi,rfl⟩:=List.mem_iff_getElem.1 he
  rw [List.length_drop] at hi
  rw [List.getElem_drop]
  have:=hup (k+i) (by omega) (by omega)
  rw [hg _ (by omega)] at this
  exact beforeU_asym this
 unfold Wk
 rw [List.pairwise_append,List.pairwise_append]
 refine ⟨⟨h.sublist (List.take_sublist _ _),List.pairwise_singleton _ _,fun a ha b hb=>?_⟩,h.sublist (List.drop_sublist _ _),fun a ha b hb=>?_⟩
 ·rw [List.mem_singleton] at hb;subst hb;exact h1 a ha
 ·rcases List.mem_append.1 ha with ha | ha
  ·exact nbefore_trans (h1 a ha) (h2 b hb)
  ·rw [List.mem_singleton] at ha;subst ha;exact h2 b hb
theorem putR_eq (x:Gx.Used) {l:List Gx.Used} (h:Wk l):putR x l=putAt (fun y=>beforeU y x) x l:=
 List.Perm.eq_of_pairwise (le:=fun a b=>beforeU b a=false) (fun a b _ _ q1 q2=>beforeU_total q2 q1) (putR_wk x h) (putAt_wk x h) ((putR_perm x l).trans (putAt_perm _ x l).symm)
def addAll (l:List Gx.Used) (ws:List (List UInt8)) (n:Int):List Gx.Used:=ws.foldl (fun a w=>putAt (fun y=>beforeU y ⟨w,n⟩) ⟨w,n⟩ a) l
def addU (l:List Gx.Used) (ws:List (List UInt8)) (n:Int):List Gx.Used×Bool:=if areUses (addAll l ws n)=true then (addAll l ws n,true) else (l,false)
theorem addAll_len (ws:List (List UInt8)) (n:Int):∀l:List Gx.Used,(addAll l ws n).length=l.length+ws.length:=by
 unfold addAll
 induction ws with
 | nil=>intro l;rfl
 | cons w ws ih=>
  intro l
  rw [List.foldl_cons,ih,putAt_len,List.length_cons]
  omega
theorem p_i_AddUses {N:Nat} (hN:67108864<N) (l:List Gx.Used) (hl:l.length≤1048576) (ws:List (List UInt8)) (hw:ws.length≤72) (n:Int):i_AddUses N l ws n=some (addU l ws n):=by
 unfold i_AddUses addU g_slices_Clone_Simpl_Used_impl_Used
 have:=loop_fold (N:=N) (step:=i_AddUses_L1 N ws n) (fun i a=>(a,(i:Int))) ws (fun a w=>putAt (fun y=>beforeU y ⟨w,n⟩) ⟨w,n⟩ a) (fun a=>a) (fun i a=>a.length=l.length+i∧i≤72) (a:=l) ⟨rfl,by omega⟩ (fun a _=>by
  unfold i_AddUses_L1
  simp only
  rw [sel_neg (by omega)]) (fun i a w ha hx hi=>by
  have hk:=takeWhile_le (fun y:Gx.Used=>beforeU y ⟨w,n⟩) a
  unfold i_AddUses_L1
  simp only
  have hf:=first_loop (l:=a) (q:=fun y:Gx.Used=>beforeU y ⟨w,n⟩) (step:=i_AddUses_L2 N (a,(i:Int)) w n) (fun j y hy hj=>by
   unfold i_AddUses_L2
   simp only
   rw [sel_pos (by omega),getI_nat hy,bnd_mk,p_i_beforeUse,bnd_mk]
   cases beforeU y ⟨w,n⟩ <;> rfl) (by unfold i_AddUses_L2;simp only;rw [sel_neg (by omega)]) (by omega) a.length 0 N (by omega) (by omega)
  rw [show ((0:Nat):Int)=0 from rfl] at hf
  rw [sel_pos (by omega),getI_nat hx,bnd_mk,hf,bnd_mk,List.drop_zero,Nat.zero_add]
  unfold g_slices_Insert_Simpl_Used_impl_Used
  rw [chk_pos ⟨by omega,by omega,by omega,rfl⟩,bnd_mk,Int.toNat_natCast,w64_nat (by omega)]
  exact ⟨rfl,by rw [putAt_len];omega,by omega⟩) (by omega)
 rw [show ((0:Nat):Int)=0 from rfl] at this
 rw [chk_pos (by omega)]
 simp only [bnd_mk]
 rw [this,bnd_mk,p_i_AreUses hN,bnd_mk]
 show sel (!areUses (addAll l ws n)) _ _=_
 cases h:areUses (addAll l ws n)
 ·rfl
 ·rfl
theorem posR_loop {N:Nat} (a:List Gx.Used) (i:Int) (w:List UInt8) (n:Int) (hl:a.length≤274877906944):∀(m M:Nat),m≤a.length→m<M→loopN (s_AddUses_L2 N (a,i) w n) M (m:Int)=some ((posR ⟨w,n⟩ a m:Nat):Int)
 | _,0,_,h=>by omega
 | 0,M+1,_,_=>by
  have:s_AddUses_L2 N (a,i) w n ((0:Nat):Int)=some (.inr ((0:Nat):Int)):=by unfold s_AddUses_L2;rw [sel_neg (by omega)]
  simp only [loopN,this];rfl
 | m+1,M+1,h1,h2=>by
  have hx:a[m]?=some a[m]:=List.getElem?_eq_getElem (by omega)
  have hg:a.getD m ⟨[],0⟩=a[m]:=by rw [List.getD_eq_getElem?_getD,hx];rfl
  have e:w64 (((m+1:Nat):Int) - 1)=(m:Int):=by rw [w64_in (by omega) (by omega)];omega
  have:s_AddUses_L2 N (a,i) w n ((m+1:Nat):Int)=if beforeU ⟨w,n⟩ a[m]=true then some (.inl (m:Int)) else some (.inr ((m+1:Nat):Int)):=by
   unfold s_AddUses_L2
   rw [sel_pos (by omega),e,getI_nat hx,bnd_mk,p_s_l29Before,bnd_mk]
   cases beforeU ⟨w,n⟩ a[m] <;> rfl
  by_cases hc:beforeU ⟨w,n⟩ a[m]=true
  ·rw [if_pos hc] at this
   simp only [loopN,this]
   unfold posR
   rw [hg,if_pos hc]
   exact posR_loop a i w n hl m M (by omega) (by omega)
  ·rw [if_neg hc] at this
   simp only [loopN,this]
   unfold posR
   rw [hg,if_neg hc]
theorem p_s_AddUses {N:Nat} (hN:67108864<N) (l:List Gx.Used) (hl:l.length≤1048576) (hk:Wk l) (ws:List (List UInt8)) (hw:ws.length≤72) (n:Int):s_AddUses N l ws n=some (addU l ws n):=by
 unfold s_AddUses addU
 have:=loop_fold (N:=N) (step:=s_AddUses_L1 N ws n) (fun i a=>(a,(i:Int))) ws (fun a w=>putAt (fun y=>beforeU y ⟨w,n⟩) ⟨w,n⟩ a) (fun a=>a) (fun i a=>(a.length=l.length+i∧i≤72)∧Wk a) (a:=l) ⟨⟨rfl,by omega⟩,hk⟩ (fun a _=>by
  unfold s_AddUses_L1
  simp only
  rw [sel_neg (by omega)]) (fun i a w ha hx hi=>by
  obtain ⟨ha,hwk⟩:=ha
  have hp:=posR_le ⟨w,n⟩ a a.length
  have hq:=putR_eq ⟨w,n⟩ hwk
  unfold s_AddUses_L1
  simp only
  rw [sel_pos (by omega),getI_nat hx,bnd_mk,posR_loop a i w n (by omega) a.length N (Nat.le_refl _) (by omega),bnd_mk,sub_zero,sub_end,chk_pos ⟨by omega,by omega,by omega⟩,chk_pos (by rw [List.length_take];simp only [List.length_nil];omega),chk_pos (by rw [List.length_take];simp only [List.length_singleton];omega),chk_pos ⟨by omega,by omega,by omega⟩,
   chk_pos (by rw [List.length_append,List.length_take,List.length_drop];simp only [List.length_singleton];omega),w64_nat (by omega)]
  refine ⟨?_,⟨by rw [putAt_len];omega,by omega⟩,putAt_wk _ hwk⟩
  rw [← hq]
  rfl) (by omega)
 rw [show ((0:Nat):Int)=0 from rfl] at this
 have hl2:=addAll_len ws n l
 rw [chk_pos (by simp only [List.length_nil];omega),this,bnd_mk]
 show bnd (s_AreUses N (addAll l ws n)) _=_
 rw [p_s_AreUses hN _ (by omega),bnd_mk,chk_pos (by simp only [List.length_nil];omega)]
 show sel (!areUses (addAll l ws n)) _ (some (addAll l ws n,true))=_
 cases h:areUses (addAll l ws n)
 ·rfl
 ·rfl
theorem allI_at {α:Type} {p:Nat→α→Bool}:∀{l:List α} {i:Nat},allI p l i=true→∀j (h:j<l.length),p (i+j) l[j]=true
 | x::l,i,h,0,_=>by
  simp only [allI,Bool.and_eq_true] at h
  exact h.1
 | x::l,i,h,j+1,hj=>by
  simp only [allI,Bool.and_eq_true] at h
  have:=allI_at h.2 j (by simpa using hj)
  rw [show i+(j+1)=i+1+j by omega]
  exact this
theorem areUses_wk {l:List Gx.Used} (h:areUses l=true):Wk l∧l.length≤60:=by
 unfold areUses at h
 rw [Bool.and_eq_true,decide_eq_true_eq] at h
 refine ⟨?_,h.1⟩
 have adj:∀j (h:j+1<l.length),beforeU l[j] l[j+1]=true:=fun j hj=>by
  have:=allI_at h.2 (j+1) hj
  unfold okU at this
  rw [Bool.and_eq_true,Nat.zero_add,prevB_pos (i:=j+1) (y:=l[j]) (by omega) (List.getElem?_eq_getElem (by omega))] at this
  exact this.1
 have far:∀m i (hm:i+m+1<l.length),beforeU l[i] l[i+m+1]=true:=by
  intro m
  induction m with
  | zero=>intro i hm;exact adj i hm
  | succ m ih=>
   intro i hm
   exact beforeU_trans (ih i (by omega)) (adj (i+m+1) hm)
 refine List.pairwise_iff_getElem.2 fun i j hi hj hij=>?_
 have:=far (j - i - 1) i (by omega)
 have e:i+(j - i - 1)+1=j:=by omega
 simp only [e] at this
 exact beforeU_asym this
def recF:List Gx.Issue→List Gx.Used→Option (List Gx.Used)
 | [],u=>some u
 | x::r,u=>if (addU u (wordsI x) x.mNumber).2=true then recF r (addU u (wordsI x) x.mNumber).1 else none
def isRec (h:Gx.House):Bool:=match recF h.mIssues [] with | some v=>decide (v=h.mUses) | none=>false
def cutR:Option (List Gx.Used)→Cut (List Gx.Used) Bool
 | some v=>.nx v
 | none=>.rt false
theorem addU_wk {u:List Gx.Used} {ws:List (List UInt8)} {n:Int} (h:(addU u ws n).2=true):Wk (addU u ws n).1∧(addU u ws n).1.length≤60:=by
 unfold addU at h ⊢
 split
 ·rename_i h2
  exact areUses_wk h2
 ·rename_i h2
  rw [if_neg h2] at h
  cases h
theorem p_g_EqualU {N:Nat} (hN:67108864<N) (l m:List Gx.Used) (hl:l.length≤1048576):g_slices_Equal_Simpl_Used_impl_Used N l m=some (decide (l=m)):=by
 unfold g_slices_Equal_Simpl_Used_impl_Used
 by_cases h:l.length=m.length
 ·have e:((l.length:Int) != (m.length:Int))=false:=by simp;omega
  rw [e,sel_false,eq_loop (l:=l) (m:=m) (step:=g_slices_Equal_Simpl_Used_impl_Used_L1 N l m) (eq:=fun x y=>some (x.mWord == y.mWord && (x.mIssue == y.mIssue && true))) (fun p=>rfl) (fun x _ y=>by
   cases x;cases y
   rw [Option.some.injEq,Bool.eq_iff_iff]
   simp) h (by omega) (by omega)]
 ·have e:((l.length:Int) != (m.length:Int))=true:=by simp;omega
  rw [e,sel_true,eq_comm,Option.some.injEq,decide_eq_false_iff_not]
  intro hh;exact h (by rw [hh])
theorem p_s_EqualU {N:Nat} (hN:67108864<N) (h:Gx.House) (l:List Gx.Used) (hl:l.length≤1048576) (hlm:l.length=h.mUses.length):cutb (loopN (s_IsRecorded_L2 N l h) N 0) (fun _=>some true)=some (decide (l=h.mUses)):=
 eq_loop (l:=l) (m:=h.mUses) (eq:=fun x y=>some (x.mWord == y.mWord && (x.mIssue == y.mIssue && true))) (fun p=>rfl) (fun x _ y=>by
  cases x;cases y
  rw [Option.some.injEq,Bool.eq_iff_iff]
  simp) hlm (by omega) (by omega)
theorem rec_len:∀(l:List Gx.Issue) (u v:List Gx.Used),u.length≤60→recF l u=some v→v.length≤60
 | [],u,v,h,e=>by
  simp only [recF,Option.some.injEq] at e
  subst e;exact h
 | x::l,u,v,h,e=>by
  simp only [recF] at e
  split at e
  ·rename_i h2
   exact rec_len l _ v (addU_wk h2).2 e
  ·cases e
theorem p_i_IsRecorded {N:Nat} (hN:67108864<N) (h:Gx.House) (hl:h.mIssues.length≤1048576):i_IsRecorded N h=some (isRec h):=by
 unfold i_IsRecorded isRec
 have:=loopN_list (N:=N) (step:=i_IsRecorded_L1 N h) (fun i (u:List Gx.Used)=>(u,(i:Int))) h.mIssues (fun r u=>cutR (recF r u)) (fun i u=>Wk u∧u.length≤60) (a:=[]) ⟨List.Pairwise.nil,by simp⟩
  (fun u _=>by unfold i_IsRecorded_L1;simp only;rw [sel_neg (by omega)];rfl)
  (fun i u x r hu hx hr hi=>by
   unfold i_IsRecorded_L1
   simp only
   rw [sel_pos (by omega),getI_nat hx,bnd_mk,p_i_words hN,bnd_mk,p_i_AddUses hN u (by omega) _ (wordsI_len x) _,bnd_mk,w64_nat (by omega)]
   cases hb:(addU u (wordsI x) x.mNumber).2 with
   | true=>
    left
    exact ⟨(addU u (wordsI x) x.mNumber).1,rfl,addU_wk hb,by simp only [recF,hb,if_true]⟩
   | false=>
    right
    simp only [recF,hb,Bool.false_eq_true,if_false]
    rfl) (by omega)
 rw [show ((0:Nat):Int)=0 from rfl] at this
 rw [this]
 cases hr:recF h.mIssues [] with
 | none=>rfl
 | some v=>
  have hv:=rec_len h.mIssues [] v (by simp) hr
  show bnd (g_slices_Equal_Simpl_Used_impl_Used N v h.mUses) _=_
  rw [p_g_EqualU hN v h.mUses (by omega),bnd_mk]
theorem p_s_IsRecorded {N:Nat} (hN:67108864<N) (h:Gx.House) (hl:h.mIssues.length≤1048576) (hs:∀x∈h.mIssues,IssSmall x):s_IsRecorded N h=some (isRec h):=by
 unfold s_IsRecorded isRec
 have:=loopN_list (N:=N) (step:=s_IsRecorded_L1 N h) (fun i (u:List Gx.Used)=>(u,(i:Int))) h.mIssues (fun r u=>cutR (recF r u)) (fun i u=>Wk u∧u.length≤60) (a:=[]) ⟨List.Pairwise.nil,by simp⟩
  (fun u _=>by unfold s_IsRecorded_L1;simp only;rw [sel_neg (by omega)];rfl)
  (fun i u x r hu hx hr hi=>by
   unfold s_IsRecorded_L1
   simp only
   rw [sel_pos (by omega),getI_nat hx,bnd_mk,p_s_words hN x (hs x (List.mem_of_getElem? hx)),bnd_mk,bnd_mk,p_s_AddUses hN u (by omega) hu.1 _ (wordsI_len x) _,bnd_mk,w64_nat (by omega)]
   cases hb:(addU u (wordsI x) x.mNumber).2 with
   | true=>
    left
    exact ⟨(addU u (wordsI x) x.mNumber).1,rfl,addU_wk hb,by simp only [recF,hb,if_true]⟩
   | false=>
    right
    simp only [recF,hb,Bool.false_eq_true,if_false]
    rfl) (by omega)
 rw [show ((0:Nat):Int)=0 from rfl] at this
 rw [this]
 cases hr:recF h.mIssues [] with
 | none=>rfl
 | some v=>
  have hv:=rec_len h.mIssues [] v (by simp) hr
  show sel ((v.length:Int) != (h.mUses.length:Int)) (some false) (cutb (loopN (s_IsRecorded_L2 N v h) N 0) fun _=>some true)=_
  by_cases hlm:v.length=h.mUses.length
  ·have e:((v.length:Int) != (h.mUses.length:Int))=false:=by simp;omega
   rw [e,sel_false,p_s_EqualU hN h v (by omega) hlm]
  ·have e:((v.length:Int) != (h.mUses.length:Int))=true:=by simp;omega
   rw [e,sel_true]
   show some false=some (decide (v=h.mUses))
   rw [decide_eq_false (fun hh=>hlm (by rw [hh]))]
theorem p_FnExactIsRecorded {N:Nat} (hN:67108864<N) (x:Gx.House) (hok:x.ok):l_FnExactIsRecorded N x=some true:=by
 unfold l_FnExactIsRecorded
 rw [p_szHouse hN x hok (by omega) (by omega),bnd_mk,sel_ite]
 split
 ·rfl
 ·rename_i h
  have hs:x.size≤1048576:=by unfold szF at h;split at h <;> omega
  obtain ⟨h1,h2⟩:=iss_small hs
  rw [p_toHouse hN x hs]
  simp only [bnd_mk]
  rw [p_s_IsRecorded hN x h1 h2]
  simp only [bnd_mk]
  rw [p_i_IsRecorded hN x h1]
  simp only [bnd_mk,bne_self_eq_false,sel_false]
  rw [p_eqHouse hN x x (by omega),bnd_mk]
  simp
end Lw
end Go.Proofs
