/- ABSTRACT VALUES: the operations that turn nothing: each is as the machine's. -/
import Derived.Test.YtniibgdokfnomaaGreatAvE
import Derived.Laws.Strings
import Derived.Laws.Concat
namespace Go.Av
open Go Go.RowKit
set_option linter.unusedSimpArgs false
set_option linter.unusedVariables false

theorem wp_val {P:Program} {o:Oper} {a:Act} {w w':World} {v:Value} {next:Act→World→Prop} {Q:Exit→Act→World→Prop}
  (h:(execOp a.eval o).run P w=.ok (.value v) w') (hn:next (a.put o.dst v) w'):o.wp P a w next Q:=by
 unfold Oper.wp;rw [h];exact hn

theorem arr_getD (vs:List Value) (l:Nat):(⟨vs⟩:Array Value).getD l undef=vs.getD l undef:=by simp

def Names (L L':Nat→Prop) (id:Nat):Prop:=(∀o,L o→L' o)∧∀o,L' o→L o∨(id≤o∧o<id+stride)
theorem Names.refl (L:Nat→Prop) (id:Nat):Names L L id:=⟨fun _ h=>h,fun _ h=>.inl h⟩
theorem Names.one (L:Nat→Prop) (id:Nat):Names L (fun o=>L o∨o=id) id:=⟨fun _ h=>.inl h,fun o h=>h.elim .inl fun e=>.inr ⟨by omega,by subst e;unfold stride;omega⟩⟩

def Fresh (L:Nat→Prop) (id:Nat):Prop:=∀o,id≤o→o<id+stride→¬ L o
theorem Fresh.id {L:Nat→Prop} {id:Nat} (h:Fresh L id):¬ L id:=h id (Nat.le_refl _) (by unfold stride;omega)

/-- what holds behind an operation -/
def Post (B:Fr) (N:Nat) (w₀:World) (L:Nat→Prop) (s:St) (a:Act) (id:Nat) (K:AV→Ups→Prop) (val:Value) (w':World):Prop:=
 ∃v u S' g' L',K v u∧Names L L' id∧Rel B N w₀ L' ⟨s.env,u++s.mem,s.next⟩ a w' S' g' []∧RV S' (hp w') g' (find (u++s.mem)) L' v val

theorem rv_v {S:Nat→Prop} {h:Nat→Option Obj} {g:Nat→OG} {m:Nat→Option AO} {L:Nat→Prop} {x v:Value} (H:RV S h g m L (.d (.v x)) v):v=x∧x.oneCell'=true:=by
 cases H with | d _ _ hd=>cases hd with | v _ hx=>exact ⟨rfl,hx⟩

theorem rv_mk {S:Nat→Prop} {h:Nat→Option Obj} {g:Nat→OG} {m:Nat→Option AO} {L:Nat→Prop} {x:Value} (hx:x.oneCell'=true):RV S h g m L (.d (.v x)) x:=.d _ _ (.v _ hx)

theorem rv_avC1 {S:Nat→Prop} {h:Nat→Option Obj} {g:Nat→OG} {m:Nat→Option AO} {L:Nat→Prop} (k:Nat) (v:Value):RV S h g m L (avC1 k v) v:=by
 cases v with
 | slice oa l c=>
  unfold avC1
  split
  ·rename_i e;simp only [Value.slice.injEq] at e;obtain ⟨rfl,rfl,rfl⟩:=e;exact .nil k
  ·exact .any _
  ·exact .any _
  ·exact .any _
  ·exact rv_mk rfl
 | agg cs=>exact .any _
 | tuple vs=>exact .any _
 | _=>exact rv_mk rfl

theorem zipC_length:∀(ks:List Nat) (vs:List Value),(zipC ks vs).length=vs.length
 | [],[]=>rfl
 | k::ks,[]=>rfl
 | [],v::vs=>by simp [zipC,zipC_length [] vs]
 | k::ks,v::vs=>by simp [zipC,zipC_length ks vs]

theorem rv_zipC {S:Nat→Prop} {h:Nat→Option Obj} {g:Nat→OG} {m:Nat→Option AO} {L:Nat→Prop}:∀(ks:List Nat) (vs:List Value) (i:Nat),i<vs.length→RV S h g m L ((zipC ks vs).getD i .any) (vs.getD i undef)
 | _,[],i,hi=>by simp at hi
 | [],v::vs,0,_=>by simpa [zipC] using rv_avC1 0 v
 | k::ks,v::vs,0,_=>by simpa [zipC] using rv_avC1 k v
 | [],v::vs,i+1,hi=>by simpa [zipC] using rv_zipC [] vs i (by simpa using hi)
 | k::ks,v::vs,i+1,hi=>by simpa [zipC] using rv_zipC ks vs i (by simpa using hi)

theorem rv_avC {S:Nat→Prop} {h:Nat→Option Obj} {g:Nat→OG} {m:Nat→Option AO} {L:Nat→Prop} (T:Tab) (t:TypeId) (v:Value):RV S h g m L (avC T t v) v:=by
 unfold avC
 split
 ·split
  ·rename_i cs
   split
   ·rename_i hall
    exact .agg _ _ (by rw [zipC_length]) (fun v hv=>by simpa using List.all_eq_true.1 hall v hv) (fun i hi=>rv_zipC _ _ i (by rw [zipC_length] at hi;exact hi))
   ·exact .any _
  ·split <;> exact rv_avC1 _ _
 ·split
  ·exact .any _
  ·exact rv_avC1 _ _

/-- a value's cells -/
theorem rv_cells {S:Nat→Prop} {h:Nat→Option Obj} {g:Nat→OG} {m:Nat→Option AO} {L:Nat→Prop} {c:AV} {v:Value} (H:RV S h g m L c v) {cs:List AV} (hc:cellsA c=some cs):
  ∃vs,v.cells=⟨vs⟩∧vs.length=cs.length∧(∀u∈vs,u.oneCell'=true)∧∀i,i<cs.length→RV S h g m L (cs.getD i .any) (vs.getD i undef):=by
 have single:v.oneCell'=true→cs=[c]→∃vs,v.cells=⟨vs⟩∧vs.length=cs.length∧(∀u∈vs,u.oneCell'=true)∧∀i,i<cs.length→RV S h g m L (cs.getD i .any) (vs.getD i undef):=by
  intro h1 he
  subst he
  refine ⟨[v],?_,rfl,by simpa using h1,fun i hi=>?_⟩
  ·cases v <;> first | rfl | simp [Value.oneCell'] at h1
  ·have:i=0:=by simpa using hi
   subst this;simpa using H
 cases H with
 | any v=>simp [cellsA] at hc
 | nil k=>exact single rfl (by simpa [cellsA] using hc.symm)
 | d x v hd=>exact single hd.one (by simpa [cellsA] using hc.symm)
 | dp=>exact single rfl (by simpa [cellsA] using hc.symm)
 | ptr o i j v ho h1 hv=>exact single h1 (by simpa [cellsA] using hc.symm)
 | sl o v ho h1 hv=>exact single h1 (by simpa [cellsA] using hc.symm)
 | sub o lo n v ho h1 hv=>exact single h1 (by simpa [cellsA] using hc.symm)
 | cel o i j v ho h1 hv=>exact single h1 (by simpa [cellsA] using hc.symm)
 | agg cs' vs hl h1 hin=>
  simp only [cellsA,Option.some.injEq] at hc
  subst hc
  exact ⟨vs,rfl,hl,h1,hin⟩
 | tup=>simp [cellsA] at hc
 | fn=>exact single rfl (by simpa [cellsA] using hc.symm)

section
variable {P:Program} {T:Tab} {C:Contract} {B:Fr} {N:Nat} {L:Nat→Prop} {w₀ w:World} {s:St} {a:Act} {S:Nat→Prop} {g:Nat→OG} {id:Nat} {K:AV→Ups→Prop} {o:Oper} {Q:Exit→Act→World→Prop}

theorem Rel.ev {X:List Nat} (R:Rel B N w₀ L s a w S g X) (t:TypeId) (x:Operand):RV S (hp w) g (find s.mem) L (evA T s t x) (a.eval x):=by
 cases x with
 | tmp t=>exact R.env t
 | const v=>exact rv_avC T t v
 | global g'=>exact rv_mk rfl
 | func f=>exact .fn f [] [] rfl (by simp)

abbrev Goal (P:Program) (B:Fr) (N:Nat) (w₀:World) (L:Nat→Prop) (s:St) (a:Act) (w:World) (id:Nat) (K:AV→Ups→Prop) (o:Oper) (Q:Exit→Act→World→Prop):Prop:=
 o.wp P a w (fun a' w'=>∃val,a'=a.put o.dst val∧Post B N w₀ L s a id K val w') Q

theorem goal_same (R:Rel B N w₀ L s a w S g []) {v:AV} {val:Value} (hk:K v []) (hrun:(execOp a.eval o).run P w=.ok (.value val) w) (hv:RV S (hp w) g (find s.mem) L v val):
  Goal P B N w₀ L s a w id K o Q:=
 wp_val hrun ⟨val,rfl,v,[],S,g,L,hk,.refl _ _,R,hv⟩

theorem sound_move (R:Rel B N w₀ L s a w S g []) {x:Operand} (ho:o.op=.move x) (h:stepR C T o (evA T s) (find s.mem) id K):Goal P B N w₀ L s a w id K o Q:=by
 unfold stepR at h;rw [ho] at h
 exact goal_same R h (by simp [execOp,ho]) (R.ev _ _)

theorem sound_assign (R:Rel B N w₀ L s a w S g []) {x:Operand} (ho:o.op=.assign x) (h:stepR C T o (evA T s) (find s.mem) id K):Goal P B N w₀ L s a w id K o Q:=by
 unfold stepR at h;rw [ho] at h
 exact goal_same R h (by simp [execOp,ho]) (R.ev _ _)

theorem sound_pick (R:Rel B N w₀ L s a w S g []) {c x y:Operand} (ho:o.op=.pick c x y) (h:stepR C T o (evA T s) (find s.mem) id K):Goal P B N w₀ L s a w id K o Q:=by
 unfold stepR at h;rw [ho] at h
 simp only at h
 split at h
 ·rename_i t hc
  have ec:=R.ev (T:=T) 0 c
  rw [hc] at ec
  have ec:=(rv_v ec).1
  cases t
  ·exact goal_same (v:=evA T s o.type y) R h (by simp [execOp,ho,ec,asBool]) (R.ev _ _)
  ·exact goal_same (v:=evA T s o.type x) R h (by simp [execOp,ho,ec,asBool]) (R.ev _ _)
 ·exact h.elim

theorem sound_alloc (hT:TOk P T) (R:Rel B N w₀ L s a w S g []) (hF:Fresh L id) {t:TypeId} (ho:o.op=.alloc t) (h:stepR C T o (evA T s) (find s.mem) id K):Goal P B N w₀ L s a w id K o Q:=by
 unfold stepR at h;rw [ho] at h
 simp only at h
 split at h
 ·rename_i i hi
  have H:=hT t i hi
  obtain ⟨z,hz,hzc⟩:=H.run_zero w
  obtain ⟨g',R',st,eb,el,ev⟩:=R.newBox (cs:=i.zeroA) (vs:=i.zero) (L':=fun o=>L o∨o=id) hF.id (fun _ h=>.inl h) (.inr rfl) t (by unfold TI.zeroA;rw [zipC_length]) H.z1
   (fun j hj=>rv_zipC _ _ j (by unfold TI.zeroA at hj;rw [zipC_length] at hj;exact hj))
  refine wp_val (v:=.pointer (some ⟨w.heap.size,0,none⟩)) (w':=w.alloc (.cells ⟨i.zero⟩ t)) ?_ ⟨_,rfl,_,_,_,g',_,h,Names.one L id,R',.ptr id 0 0 _ (.inr rfl) rfl fun _=>⟨by rw [eb];simp,by rw [el];omega⟩⟩
  simp [execOp,ho,Instr.alloc,hz,newVar,newRow,hzc]
 ·exact h.elim

theorem sound_box (R:Rel B N w₀ L s a w S g []) (hF:Fresh L id) {t:TypeId} {x:Operand} (ho:o.op=.box t x) (h:stepR C T o (evA T s) (find s.mem) id K):Goal P B N w₀ L s a w id K o Q:=by
 unfold stepR at h;rw [ho] at h
 simp only at h
 split at h
 ·rename_i cs hcs
  obtain ⟨vs,e1,e2,e3,e4⟩:=rv_cells (R.ev t x) hcs
  obtain ⟨g',R',st,eb,el,ev⟩:=R.newBox (cs:=cs) (vs:=vs) (L':=fun o=>L o∨o=id) hF.id (fun _ h=>.inl h) (.inr rfl) t e2 e3 e4
  refine wp_val (v:=.pointer (some ⟨w.heap.size,0,none⟩)) (w':=w.alloc (.cells ⟨vs⟩ t)) ?_ ⟨_,rfl,_,_,_,g',_,h,Names.one L id,R',.ptr id 0 0 _ (.inr rfl) rfl fun _=>⟨by rw [eb];simp,by rw [el];omega⟩⟩
  simp [execOp,ho,Instr.box,newVar,newRow,e1]
 ·exact h.elim

/-- a variable's cells read: at a row of cells that stand for cs -/
theorem sound_loadRow {t:TypeId} {i:TI} (H:TypeOk P t i) (R:Rel B N w₀ L s a w S g []) {x:Operand} (ho:o.op=.load t x) {b off j:Nat} {vs:Array Value} {e:TypeId} {fr:Nat×Nat} (hb:hp w b=some (.cells vs e fr))
  (hx:a.eval x=.pointer (some ⟨b,off+j,none⟩)) {cs:List AV} (hfit:off+cs.length≤vs.size) (h1:∀l,l<cs.length→(vs.getD (off+l) undef).oneCell'=true)
  (hin:∀l,l<cs.length→RV S (hp w) g (find s.mem) L (cs.getD l .any) (vs.getD (off+l) undef)) (h:loadRow i cs j fun v=>K v []):Goal P B N w₀ L s a w id K o Q:=by
 have run:∀(hle:off+j+i.size≤vs.size),(execOp a.eval o).run P w=.ok (.value (if i.isAgg then .agg (Array.ofFn (n:=i.size) fun l=>vs.getD (off+j+l) undef) else vs.getD (off+j) undef)) w:=by
  intro hle
  have:=run_loadAt H hb (off+j) hle
  simp [execOp,ho,hx,this]
 unfold loadRow at h
 cases hagg:i.isAgg
 ·rw [hagg] at h
  simp only at h
  split at h
  ·rename_i c r hc
   have hj:j<cs.length:=by
    have:(cs.drop j).length=(c::r).length:=by rw [hc]
    simp at this;omega
   have hpos:=H.pos
   have hone:i.size=1:=H.scalar hagg
   have hcj:cs.getD j .any=c:=by
    have:(cs.drop j).getD 0 .any=c:=by rw [hc];rfl
    rw [getD_drop] at this;simpa using this
   have hr:=run (by rw [hone];omega)
   rw [hagg] at hr
   simp only [Bool.false_eq_true,if_false] at hr
   exact goal_same R h hr (by rw [← hcj];exact hin j hj)
  ·exact h.elim
 ·rw [hagg] at h
  simp only at h
  split at h
  ·rename_i r hr
   unfold splitAtA at hr
   split at hr
   ·rename_i hle
    have hle:=Nat.le_of_ble_eq_true hle
    simp only [Option.some.injEq] at hr
    have hrun:=run (by omega)
    rw [hagg] at hrun
    simp only [if_true] at hrun
    refine goal_same R h hrun ?_
    have e0:Array.ofFn (n:=i.size) (fun l=>vs.getD (off+j+l) undef)=⟨List.ofFn (n:=i.size) fun l=>vs.getD (off+j+l) undef⟩:=by
     apply Array.ext';simp
    rw [e0]
    have hlen:r.length=i.size:=by subst hr;simp;omega
    refine .agg _ _ (by rw [hlen];simp) (fun v hv=>?_) (fun l hl=>?_)
    ·rw [List.mem_ofFn] at hv
     obtain ⟨l,rfl⟩:=hv
     have:=h1 (j+l) (by have:=l.2;omega)
     rwa [← Nat.add_assoc] at this
    ·rw [hlen] at hl
     have e1:(List.ofFn (n:=i.size) fun l=>vs.getD (off+j+l) undef).getD l undef=vs.getD (off+(j+l)) undef:=by
      rw [List.getD_eq_getElem?_getD,List.getElem?_ofFn,dif_pos hl];simp [Nat.add_assoc]
     rw [e1,← hr,getD_take _ _ _ _ hl,getD_drop]
     exact hin (j+l) (by omega)
   ·simp at hr
  ·exact h.elim

end

end Go.Av
