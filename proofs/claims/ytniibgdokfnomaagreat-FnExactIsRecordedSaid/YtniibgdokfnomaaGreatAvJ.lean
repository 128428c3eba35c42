/- ABSTRACT VALUES: struct and slice literals, made slices, conversions. -/
import Derived.Test.YtniibgdokfnomaaGreatAvI
namespace Go.Av
open Go Go.RowKit
set_option linter.unusedSimpArgs false
set_option linter.unusedVariables false

theorem written_nil (cs:Array Value) (off:Nat) (h:off≤cs.size):written cs off []=cs:=by
 apply Array.ext';simp [written]

theorem written_cons (cs:Array Value) (off:Nat) (v:Value) (vs:List Value) (h:off+(vs.length+1)≤cs.size):written (cs.setIfInBounds off v) (off+1) vs=written cs off (v::vs):=by
 have hlen:∀l:List Value,l.length=off→(l++[v]).length=off+1:=fun l hl=>by simp [hl]
 apply Array.ext'
 simp only [written,Array.toList_setIfInBounds,List.length_cons]
 rw [List.set_eq_take_append_cons_drop,if_pos (by simp;omega)]
 have e1:(cs.toList.take off).length=off:=by simp;omega
 have a1:(List.take off cs.toList++v::List.drop (off+1) cs.toList).take (off+1)=List.take off cs.toList++[v]:=by
  rw [show off+1=(cs.toList.take off).length+1 by rw [e1],List.take_length_add_append];rfl
 have a2:(List.take off cs.toList++v::List.drop (off+1) cs.toList).drop (off+1+vs.length)=cs.toList.drop (off+(vs.length+1)):=by
  rw [show off+1+vs.length=(cs.toList.take off).length+(vs.length+1) by rw [e1];omega,List.drop_length_add_append,List.drop_succ_cons,List.drop_drop]
  congr 1;omega
 rw [a1,a2];simp

theorem fold_written:∀(vs:List Value) (i off:Nat) (cs:Array Value),off+i+vs.length≤cs.size→
  (vs.zipIdx i).foldl (fun (cs:Array Value) (x:Value×Nat)=>cs.setIfInBounds (off+x.2) x.1) cs=written cs (off+i) vs
 | [],i,off,cs,h=>by simp [written_nil cs (off+i) (by simpa using h)]
 | v::vs,i,off,cs,h=>by
  simp only [List.length_cons] at h
  simp only [List.zipIdx_cons,List.foldl_cons]
  rw [fold_written vs (i+1) off _ (by simp;omega),← Nat.add_assoc,written_cons cs (off+i) v vs (by omega)]

theorem splice_length:∀(cs:List AV) (j:Nat) (new:List AV),j+new.length≤cs.length→(splice cs j new).length=cs.length
 | cs,0,new,h=>by simp [splice];omega
 | c::cs,j+1,new,h=>by simp only [splice,List.length_cons] at h ⊢;rw [splice_length cs j new (by omega)]
 | [],j+1,new,h=>by simp at h

theorem splice_getD:∀(cs:List AV) (j:Nat) (new:List AV) (i:Nat),j+new.length≤cs.length→(splice cs j new).getD i .any=if j≤i∧i<j+new.length then new.getD (i - j) .any else cs.getD i .any
 | cs,0,new,i,h=>by
  simp only [splice,Nat.zero_le,true_and,Nat.zero_add,Nat.sub_zero,List.getD_eq_getElem?_getD]
  split
  ·rename_i h;rw [List.getElem?_append_left h]
  ·rename_i h;rw [List.getElem?_append_right (by omega),List.getElem?_drop];congr 2;omega
 | c::cs,j+1,new,0,h=>by simp [splice]
 | c::cs,j+1,new,i+1,h=>by
  simp only [List.length_cons] at h
  simp only [splice,List.getD_cons_succ]
  rw [splice_getD cs j new i (by omega)]
  simp only [Nat.add_le_add_iff_right,Nat.add_sub_add_right,show (i+1<j+1+new.length)=(i<j+new.length) from by simp;omega]
 | [],j+1,new,i,h=>by simp at h

section
variable {P:Program} {T:Tab} {C:Contract} {B:Fr} {N:Nat} {L:Nat→Prop} {w₀ w:World} {s:St} {a:Act} {S:Nat→Prop} {g:Nat→OG} {id:Nat} {K:AV→Ups→Prop} {o:Oper} {Q:Exit→Act→World→Prop}

/-- cells that stand for cells -/
structure RVs (S:Nat→Prop) (h:Nat→Option Obj) (g:Nat→OG) (m:Nat→Option AO) (L:Nat→Prop) (cs:List AV) (vs:List Value):Prop where
 len:vs.length=cs.length
 one:∀v∈vs,v.oneCell'=true
 at_:∀i,i<cs.length→RV S h g m L (cs.getD i .any) (vs.getD i undef)

theorem RVs.written {S:Nat→Prop} {h:Nat→Option Obj} {g:Nat→OG} {m:Nat→Option AO} {L:Nat→Prop} {cs new:List AV} {vs us:List Value} (x:RVs S h g m L cs vs) (y:RVs S h g m L new us) {j:Nat} (hj:j+new.length≤cs.length):
  RVs S h g m L (splice cs j new) (Av.written ⟨vs⟩ j us).toList:=by
 have hsz:(Av.written ⟨vs⟩ j us).size=vs.length:=size_written ⟨vs⟩ j us (by have:=x.len;have:=y.len;show j+us.length≤vs.length;omega)
 refine ⟨?_,fun v hv=>?_,fun i hi=>?_⟩
 ·rw [splice_length _ _ _ hj,Array.length_toList,hsz];exact x.len
 ·simp only [Av.written,List.mem_append] at hv
  rcases hv with (hv | hv) | hv
  ·exact x.one v (List.mem_of_mem_take hv)
  ·exact y.one v hv
  ·exact x.one v (List.mem_of_mem_drop hv)
 ·rw [splice_length _ _ _ hj] at hi
  have e1:(Av.written ⟨vs⟩ j us).toList.getD i undef=(Av.written ⟨vs⟩ j us).getD i undef:=by simp [List.getD_eq_getElem?_getD]
  rw [e1,getD_written ⟨vs⟩ j us (by have:=x.len;have:=y.len;show j+us.length≤vs.length;omega),splice_getD _ _ _ _ hj,y.len]
  split
  ·exact y.at_ _ (by omega)
  ·rw [arr_getD];exact x.at_ i hi

theorem RV.vs {S:Nat→Prop} {h:Nat→Option Obj} {g:Nat→OG} {m:Nat→Option AO} {L:Nat→Prop} {c:AV} {v:Value} (H:RV S h g m L c v) {cs:List AV} (hc:cellsA c=some cs):∃vs,v.cells=⟨vs⟩∧RVs S h g m L cs vs:=by
 obtain ⟨vs,e1,e2,e3,e4⟩:=rv_cells H hc
 exact ⟨vs,e1,e2,e3,e4⟩

theorem run_fill (R:Rel B N w₀ L s a w S g []) (hT:TOk P T) (fs:List (Nat×TypeId)) (places:List (Nat×Nat)) (hpl:∀(i off:Nat) (t:TypeId),fs[i]?=some (off,t)→∀ti,T.get t=some ti→places[i]?=some (off,ti.size)):
  ∀(ps:List (Nat×Operand)) (cs cs':List AV) (vs:List Value),RVs S (hp w) g (find s.mem) L cs vs→fillA fs T (evA T s) cs ps=some cs'→
   ∃vs',Instr.fill (places[·]?) ⟨vs⟩ (ps.map fun p=>(p.1,a.eval p.2))=some ⟨vs'⟩∧RVs S (hp w) g (find s.mem) L cs' vs'
 | [],cs,cs',vs,hv,h=>by simp [fillA] at h;subst h;exact ⟨vs,rfl,hv⟩
 | (i,x)::ps,cs,cs',vs,hv,h=>by
  simp only [fillA] at h
  split at h
  ·rename_i off t hf
   split at h
   ·rename_i new ti hnew hti
    split at h
    ·rename_i h1 h2
     have h1:=Nat.eq_of_beq_eq_true h1
     have h2:=Nat.le_of_ble_eq_true h2
     obtain ⟨us,e1,e2⟩:=(R.ev t x).vs hnew
     have hpl':=hpl i off t hf ti hti
     have hle:off+us.length≤vs.length:=by have:=hv.len;have:=e2.len;omega
     obtain ⟨vs',f1,f2⟩:=run_fill R hT fs places hpl ps _ cs' _ (hv.written e2 h2) h
     refine ⟨vs',?_,f2⟩
     simp only [List.map_cons,Instr.fill,hpl']
     have e3:(a.eval x).cells.size=ti.size:=by rw [e1];show us.length=_;have:=e2.len;omega
     rw [if_neg (by simp only [e3,ne_eq,not_true_eq_false,decide_false,Bool.false_or,decide_eq_true_eq];rw [e1] at e3;show ¬ off+ti.size>vs.length;have:us.length=ti.size:=e3;omega)]
     have e4:((a.eval x).cells.zipIdx.foldl (fun cs (c,j)=>cs.setIfInBounds (off+j) c) ⟨vs⟩)=written ⟨vs⟩ off us:=by
      rw [e1,← Array.foldl_toList,Array.toList_zipIdx]
      have:=fold_written us 0 off ⟨vs⟩ (by simpa using hle)
      simpa using this
     rw [e4];exact f1
    ·cases h
   ·cases h
  ·cases h

theorem places_ok (hT:TOk P T):∀(fields:List Field),(∀f∈fields,(P.info? f.type).isSome=true)→∃places:List (Nat×Nat),fields.mapM (fun f=>(P.info? f.type).map fun i=>(f.offset,i.size))=some places∧
  ∀(i off:Nat) (t:TypeId),(fields.map fun f=>(f.offset,f.type))[i]?=some (off,t)→∀ti,T.get t=some ti→places[i]?=some (off,ti.size)
 | [],_=>⟨[],rfl,by simp⟩
 | f::fs,h=>by
  obtain ⟨places,h1,h2⟩:=places_ok hT fs fun f' hf=>h f' (by simp [hf])
  have hf:=h f (by simp)
  cases hi:P.info? f.type with
  | none=>rw [hi] at hf;simp at hf
  | some info=>
   refine ⟨(f.offset,info.size)::places,by simp [List.mapM_cons,hi,h1],fun i off t hit ti hti=>?_⟩
   cases i with
   | zero=>
    simp only [List.map_cons,List.getElem?_cons_zero,Option.some.injEq,Prod.mk.injEq] at hit
    obtain ⟨rfl,rfl⟩:=hit
    obtain ⟨info',_,_,g1,_,g3,_⟩:=(hT _ _ hti).ex
    rw [hi] at g1;simp only [Option.some.injEq] at g1;subst g1
    simp [g3]
   | succ i=>simpa using h2 i off t (by simpa using hit) ti hti

theorem zero_rvs {t:TypeId} {i:TI} (H:TypeOk P t i) {S:Nat→Prop} {h:Nat→Option Obj} {g:Nat→OG} {m:Nat→Option AO} {L:Nat→Prop}:RVs S h g m L i.zeroA i.zero:=
 ⟨by unfold TI.zeroA;rw [zipC_length],H.z1,fun j hj=>rv_zipC _ _ j (by unfold TI.zeroA at hj;rw [zipC_length] at hj;exact hj)⟩

theorem sound_build (hT:TOk P T) (R:Rel B N w₀ L s a w S g []) {t:TypeId} {ps:List (Nat×Operand)} (ho:o.op=.build t ⟨ps⟩) (h:stepR C T o (evA T s) (find s.mem) id K):Goal P B N w₀ L s a w id K o Q:=by
 unfold stepR at h;rw [ho] at h
 simp only at h
 split at h
 ·rename_i i hi
  have H:=hT t i hi
  split at h
  ·rename_i fs htd
   split at h
   ·rename_i cs hcs
    have hfld:=H.fld fs htd
    obtain ⟨info,d,z,q1,q2,q3,q4,q5,q6,hd⟩:=H.ex
    rw [htd] at hd
    obtain ⟨fields,rfl,hfs,hn⟩:=hd
    obtain ⟨places,p1,p2⟩:=places_ok hT fields.toList (fun f hf=>hfld (f.offset,f.type) (by rw [← hfs];exact List.mem_map_of_mem hf))
    rw [hfs] at p2
    obtain ⟨vs',f1,f2⟩:=run_fill R hT fs places p2 ps _ cs _ (zero_rvs H) hcs
    have hb:P.built t (ps.map fun p=>(p.1,a.eval p.2))=some ⟨vs'⟩:=by
     unfold Program.built
     simp only [q1,q2,q5,p1,q6]
     have e0:(fun x:Nat=>places.toArray[x]?)=fun x:Nat=>places[x]?:=by funext x;simp
     rw [e0]
     exact f1
    have hr:=run_build w t (ps.map fun p=>(p.1,a.eval p.2)).toArray ⟨vs'⟩ (by simpa using hb)
    refine goal_same R h ?_ (.agg _ _ f2.len f2.one f2.at_)
    simp [execOp,ho,hr]
   ·exact h.elim
  ·exact h.elim
 ·exact h.elim

end

end Go.Av
