/- ABSTRACT VALUES: slices that are laid: literals, make, conversions, append. -/
import Derived.Test.YtniibgdokfnomaaGreatAvJ
namespace Go.Av
open Go Go.RowKit
set_option linter.unusedSimpArgs false
set_option linter.unusedVariables false

theorem Names.one' (L:Nat→Prop) (id:Nat):Names L (fun o=>L o∨o=id) id:=Names.one L id

section
variable {P:Program} {T:Tab} {C:Contract} {B:Fr} {N:Nat} {L:Nat→Prop} {w₀ w:World} {s:St} {a:Act} {S:Nat→Prop} {g:Nat→OG} {id:Nat} {K:AV→Ups→Prop} {o:Oper} {Q:Exit→Act→World→Prop}

theorem sum_const {α:Type} (l:List α) (k:Nat):(l.map fun _=>k).sum=l.length * k:=by
 induction l with
 | nil=>simp
 | cons x l ih=>simp only [List.map_cons,List.sum_cons,ih,List.length_cons,Nat.add_mul];omega

theorem fresh_find {X:List Nat} (R:Rel B N w₀ L s a w S g X) (hF:Fresh L id):find s.mem id=none:=R.new id hF.id

/-- the rows of a literal, given away -/
theorem Rel.rowsA {B:Fr} {N:Nat} {L:Nat→Prop} {w₀ w:World} {a:Act} {size:Nat}:∀{as:List AV} {vs:List Value} {s:St} {S:Nat→Prop} {g:Nat→OG} {X:List Nat} {rows:List (List D)} {u:Ups} {own:Bool},
  Rel B N w₀ L s a w S g X→vs.length=as.length→(∀i,i<as.length→RV S (hp w) g (find s.mem) L (as.getD i .any) (vs.getD i undef))→
  Av.rowsA (find s.mem) size as=some (rows,u,own)→∃S' g' fps,Rel B N w₀ L ⟨s.env,u++s.mem,s.next⟩ a w S' g' (List.flatten fps++X)∧
   Step S S' (hp w) (hp w) g g' (find s.mem) (find (u++s.mem)) L L∧rows.length=as.length∧(∀r∈rows,r.length=size)∧(∀v∈vs,v.cells.size=size∧∀x∈v.cells.toList,x.oneCell'=true)∧
   (∀i,i<rows.length * size→Data S' (hp w) (rows.flatten.getD i default) ((vs.flatMap fun v=>v.cells.toList).getD i undef))∧
   (own=true→fps.length=rows.length * size∧∀i,i<rows.length * size→Own (hp w) (rows.flatten.getD i default) ((vs.flatMap fun v=>v.cells.toList).getD i undef) (fps.getD i []))
 | [],[],s,S,g,X,rows,u,own,R,_,_,h=>by
  simp [Av.rowsA] at h;obtain ⟨rfl,rfl,rfl⟩:=h
  exact ⟨S,g,[],R,.refl,rfl,by simp,by simp,by simp,by simp⟩
 | [],v::vs,_,_,_,_,_,_,_,_,hl,_,_=>by simp at hl
 | c::cs,[],_,_,_,_,_,_,_,_,hl,_,_=>by simp at hl
 | c::cs,v::vs,s,S,g,X,rows,u,own,R,hl,hin,h=>by
  simp only [Av.rowsA] at h
  split at h
  ·rename_i cells hc
   split at h
   ·rename_i ds u1 o1 hsz hmv
    have hsz:=Nat.eq_of_beq_eq_true hsz
    split at h
    ·rename_i rs us os hrs
     simp at h;obtain ⟨rfl,rfl,rfl⟩:=h
     have h0:=hin 0 (by simp)
     simp only [List.getD_cons_zero] at h0
     obtain ⟨ws,e1,e2,e3,e4⟩:=rv_cells h0 hc
     obtain ⟨S1,g1,fps1,R1,st1,l1,d1,o1'⟩:=Rel.moveRow R e2 e4 hmv
     rw [← find_append'] at hrs
     obtain ⟨S2,g2,fps,R2,st2,l2,r2,c2,d2,o2⟩:=Rel.rowsA (as:=cs) (vs:=vs) R1 (by simpa using hl) (fun i hi=>by simpa using (hin (i+1) (by simpa using hi)).step st1) hrs
     have hws:ws.length=size:=by omega
     have hds:ds.length=size:=by omega
     have hperm:(List.flatten fps++(fps1.flatten++X)).Perm ((fps1++fps).flatten++X):=by
      simp only [List.flatten_append,List.append_assoc]
      rw [← List.append_assoc,← List.append_assoc]
      exact List.Perm.append_right _ List.perm_append_comm
     have R2':=R2.xsub (X':=(fps1++fps).flatten++X) (hperm.nodup R2.xs.1) (fun b hb=>hperm.mem_iff.2 hb)
     have hcell:∀i,((v::vs).flatMap fun v=>v.cells.toList).getD i undef=if i<size then ws.getD i undef else (vs.flatMap fun v=>v.cells.toList).getD (i - size) undef:=by
      intro i
      simp only [List.flatMap_cons,e1,List.getD_eq_getElem?_getD]
      split
      ·rename_i hi;rw [List.getElem?_append_left (by omega)]
      ·rename_i hi;rw [List.getElem?_append_right (by omega),hws]
     have hrow:∀i,(ds::rs).flatten.getD i default=if i<size then ds.getD i default else rs.flatten.getD (i - size) default:=by
      intro i
      simp only [List.flatten_cons,List.getD_eq_getElem?_getD]
      split
      ·rename_i hi;rw [List.getElem?_append_left (by omega)]
      ·rename_i hi;rw [List.getElem?_append_right (by omega),hds]
     refine ⟨S2,g2,fps1++fps,?_,?_,by simp [l2],?_,?_,fun i hi=>?_,fun ho=>?_⟩
     ·simpa [List.append_assoc] using R2'
     ·have:=st1.trans st2;simpa [List.append_assoc] using this
     ·intro r hr
      rcases List.mem_cons.1 hr with rfl | hr
      ·exact hds
      ·exact r2 r hr
     ·intro v' hv'
      rcases List.mem_cons.1 hv' with rfl | hv'
      ·rw [e1];exact ⟨hws,e3⟩
      ·exact c2 v' hv'
     ·rw [hcell,hrow]
      simp only [List.length_cons,Nat.add_mul,Nat.one_mul] at hi
      split
      ·rename_i hlt;exact (d1 i (by omega)).mono st2.s st2.h
      ·exact d2 _ (by omega)
     ·obtain ⟨h1,h2⟩:=and_true_of ho
      obtain ⟨f1,f2⟩:=o1' h1
      obtain ⟨f3,f4⟩:=o2 h2
      refine ⟨by simp only [List.length_append,List.length_cons,Nat.add_mul,Nat.one_mul];omega,fun i hi=>?_⟩
      rw [hcell,hrow]
      simp only [List.length_cons,Nat.add_mul,Nat.one_mul] at hi
      have hg:(fps1++fps).getD i []=if i<size then fps1.getD i [] else fps.getD (i - size) []:=by
       simp only [List.getD_eq_getElem?_getD]
       split
       ·rw [List.getElem?_append_left (by omega)]
       ·rw [List.getElem?_append_right (by omega)];congr 2;omega
      rw [hg]
      split
      ·exact f2 i (by omega)
      ·exact f4 _ (by omega)
    ·cases h
   ·cases h
  ·cases h

theorem fill_inOrder {size:Nat} (hpos:0<size) (ρ:Operand→Value):∀(ps:List (Nat×Operand)) (j:Nat) (cells:Array Value),inOrder j ps=true→(∀p∈ps,(ρ p.2).cells.size=size)→cells.size=(j+ps.length) * size→
  Instr.fill (fun i=>some (i * size,size)) cells (ps.map fun p=>(p.1,ρ p.2))=some (cells.toList.take (j * size)++ps.flatMap fun p=>(ρ p.2).cells.toList).toArray
 | [],j,cells,_,_,hsz=>by
  have:cells.toList.length≤j * size:=by simp at hsz ⊢;omega
  simp [Instr.fill,List.take_of_length_le this]
 | (i,x)::ps,j,cells,hin,hc,hsz=>by
  simp only [inOrder] at hin
  split at hin
  ·rename_i hij
   have hij:=Nat.eq_of_beq_eq_true hij
   subst hij
   simp only [List.length_cons] at hsz
   have hx:=hc (i,x) (by simp)
   have e1:(i+(ps.length+1)) * size=i * size+size+ps.length * size:=by simp only [Nat.add_mul,Nat.one_mul];omega
   simp only [List.map_cons,Instr.fill]
   rw [if_neg (by simp only [hx,ne_eq,not_true_eq_false,decide_false,Bool.false_or,decide_eq_true_eq];omega)]
   have hl:(ρ x).cells.toList.length=size:=by simpa using hx
   have e4:((ρ x).cells.zipIdx.foldl (fun cs (c,j)=>cs.setIfInBounds (i * size+j) c) cells)=written cells (i * size) (ρ x).cells.toList:=by
    rw [← Array.foldl_toList,Array.toList_zipIdx]
    have:=fold_written (ρ x).cells.toList 0 (i * size) cells (by omega)
    simpa using this
   rw [e4,fill_inOrder hpos ρ ps (i+1) _ hin (fun p hp=>hc p (by simp [hp])) (by rw [size_written _ _ _ (by omega),hsz];congr 1;omega)]
   congr 2
   simp only [written,List.flatMap_cons]
   have e3:(cells.toList.take (i * size)).length=i * size:=by rw [List.length_take,Array.length_toList];omega
   have e2:(i+1) * size=(cells.toList.take (i * size)++(ρ x).cells.toList).length:=by rw [List.length_append,e3,hl,Nat.add_mul];omega
   rw [e2,List.take_left,List.append_assoc]
  ·cases hin

theorem sound_buildSlice (hT:TOk P T) (R:Rel B N w₀ L s a w S g []) (hF:Fresh L id) {t:TypeId} {n:Nat} {ps:List (Nat×Operand)} (ho:o.op=.buildSlice t n ⟨ps⟩) (h:stepR C T o (evA T s) (find s.mem) id K):
  Goal P B N w₀ L s a w id K o Q:=by
 unfold stepR at h;rw [ho] at h
 simp only at h
 split at h
 ·rename_i i hi
  have H:=hT t i hi
  obtain ⟨d,hd,_,hu⟩:=H.run_underlying w
  split at h
  ·rename_i e htd
   rw [htd] at hd;simp only [DescOk] at hd;subst hd
   split at h
   ·rename_i ie he
    have HE:=hT e ie he
    split at h
    ·rename_i rows u own h1 h2 h3 h4
     have h2:=Nat.eq_of_beq_eq_true h2
     have h3:=Nat.le_of_ble_eq_true h3
     subst h2
     have hrv:∀j,j<(ps.map fun p=>evA T s e p.2).length→RV S (hp w) g (find s.mem) L ((ps.map fun p=>evA T s e p.2).getD j .any) ((ps.map fun p=>a.eval p.2).getD j undef):=by
      intro j hj
      have hj':j<ps.length:=by simpa using hj
      have e1:(ps.map fun p=>evA T s e p.2).getD j .any=evA T s e ps[j].2:=by simp [List.getD_eq_getElem?_getD,hj']
      have e2:(ps.map fun p=>a.eval p.2).getD j undef=a.eval ps[j].2:=by simp [List.getD_eq_getElem?_getD,hj']
      rw [e1,e2];exact R.ev e _
     obtain ⟨S',g',fps,R',st,l1,r1,c1,d1,o1⟩:=Rel.rowsA R (vs:=ps.map fun p=>a.eval p.2) (by simp) hrv h4
     have hlen:rows.length=ps.length:=by simpa using l1
     let cs:Array Value:=(ps.flatMap fun p=>(a.eval p.2).cells.toList).toArray
     have hcs:(ps.map fun p=>a.eval p.2).flatMap (fun v=>v.cells.toList)=ps.flatMap fun p=>(a.eval p.2).cells.toList:=by rw [List.flatMap_map]
     have hcell:∀p∈ps,(a.eval p.2).cells.size=ie.size:=fun p hp=>(c1 _ (List.mem_map_of_mem hp)).1
     have hsz:cs.size=ps.length * ie.size:=by
      show (ps.flatMap fun p=>(a.eval p.2).cells.toList).length=_
      rw [List.length_flatMap]
      have:ps.map (fun p=>(a.eval p.2).cells.toList.length)=ps.map fun _=>ie.size:=List.map_congr_left fun p hp=>by simpa using hcell p hp
      rw [this]
      exact sum_const ps ie.size
     have hg:∀j,cs.getD j undef=((ps.map fun p=>a.eval p.2).flatMap fun v=>v.cells.toList).getD j undef:=by
      intro j;rw [hcs]
      exact arr_getD _ j
     obtain ⟨g'',R'',st'',ev⟩:=R'.newArr (fps:=fps) (L':=fun o=>L o∨o=id) (id:=id) (k:=ie.size) (rows:=rows) (own:=own) (cs:=cs) hF.id (fun _ h=>.inl h) (.inr rfl) e (0,0) rows.length HE.pos r1 (Nat.le_refl _)
      (by have:=Nat.le_mul_of_pos_right ps.length HE.pos
          simp only [maxLen];omega)
      (by rw [hsz,hlen]) (fun j _ hc=>by simp at hc) (fun j hj=>by rw [hg];exact d1 j hj) (fun hw=>⟨(o1 hw).1,fun j hj=>by rw [hg];exact (o1 hw).2 j hj⟩)
     refine wp_val (v:=.slice (some ⟨w.heap.size,0,none⟩) ps.length ps.length) (w':=w.alloc (.cells cs e (0,0))) ?_ ⟨_,rfl,_,_,_,g'',_,h,Names.one L id,R'',.sl id _ (.inr rfl) rfl fun _=>by rw [ev,hlen]⟩
     obtain ⟨z,hz,hzc⟩:=HE.run_zero w
     have hfill:∀cells:Array Value,cells.size=ps.length * ie.size→Instr.fill (fun i=>some (i * ie.size,ie.size)) cells (ps.map fun p=>(p.1,a.eval p.2))=some cs:=by
      intro cells hc
      rw [fill_inOrder HE.pos a.eval ps 0 cells h1 hcell (by simpa using hc)]
      simp [cs]
     have h24:¬ (16777216<ps.length * ie.size):=by omega
     have hne:=HE.pos
     by_cases hp0:ps=[]
     ·have e0:cs=#[]:=by apply Array.eq_empty_of_size_eq_zero;rw [hsz,hp0];simp
      rw [e0]
      simp [execOp,ho,Instr.buildSlice,hu,HE.run_size w,newRow,Instr.fill,hp0]
      congr 2
      apply Array.eq_empty_of_size_eq_zero;simp
     ·have hf:=hfill ((Array.range (ps.length * ie.size)).map fun j=>z.cells[j % z.cells.size]!) (by simp)
      simp [execOp,ho,Instr.buildSlice,hu,HE.run_size w,h24,show ¬ (ps.length * ie.size=0) from Nat.mul_ne_zero (fun e=>hp0 (List.eq_nil_of_length_eq_zero e)) (by omega),hz,hf,newRow]
    ·exact h.elim
   ·exact h.elim
  ·exact h.elim
 ·exact h.elim

end

end Go.Av
