/- ABSTRACT VALUES: the operations that turn nothing (second part). -/
import Derived.Test.YtniibgdokfnomaaGreatAvF
namespace Go.Av
open Go Go.RowKit
set_option linter.unusedSimpArgs false
set_option linter.unusedVariables false

section
variable {P:Program} {T:Tab} {C:Contract} {B:Fr} {N:Nat} {L:Nat→Prop} {w₀ w:World} {s:St} {a:Act} {S:Nat→Prop} {g:Nat→OG} {id:Nat} {K:AV→Ups→Prop} {o:Oper} {Q:Exit→Act→World→Prop}

theorem getD_map_d (row:List D) (l:Nat) (h:l<row.length):(row.map AV.d).getD l .any=.d (row.getD l default):=by
 simp [List.getD_eq_getElem?_getD,h]

/-- the cells of a box in memory -/
theorem Rel.box {X:List Nat} (R:Rel B N w₀ L s a w S g X) {ob:Nat} {cs:List AV} (h:find s.mem ob=some (.box cs)):
  ∃vs e fr,hp w (g ob).b=some (.cells ⟨vs⟩ e fr)∧free fr vs.length∧vs.length=cs.length∧(∀v∈vs,v.oneCell'=true)∧(∀i,i<cs.length→RV S (hp w) g (find s.mem) L (cs.getD i .any) (vs.getD i undef))∧
   ¬ B.U (g ob).b∧¬ S (g ob).b∧(g ob).foot=[(g ob).b]∧(g ob).v=.pointer (some ⟨(g ob).b,0,none⟩)∧(g ob).len=1:=by
 have:=R.obj ob _ h
 generalize g ob=G at this
 cases this with
 | box cs b vs e fr hb hfr hl h1 hin hB hS=>exact ⟨vs,e,fr,hb,hfr,hl,h1,hin,hB,hS,rfl,rfl,rfl⟩

/-- a row of an array in memory -/
theorem Rel.arrRow {X:List Nat} (R:Rel B N w₀ L s a w S g X) {ob k r:Nat} {rows:List (List D)} {own:Bool} {row:List D} (h:find s.mem ob=some (.arr k rows own)) (hr:rows[r]?=some row):
  ∃cs e fr,hp w (g ob).b=some (.cells cs e fr)∧r * (g ob).k+row.length≤cs.size∧row.length=k∧(g ob).k=k∧(∀l,l<row.length→Data S (hp w) (row.getD l default) (cs.getD (r * (g ob).k+l) undef)):=by
 have:=R.obj ob _ h
 generalize g ob=G at this
 cases this with
 | nil=>simp at hr
 | arr k rows own b cap cs e fr fps hb hfr hk hrow hcap hmax hsz hin hown hno hB hS=>
  have hlen:row.length=k:=hrow row (List.mem_of_getElem? hr)
  have hlt:r<rows.length:=(List.getElem?_eq_some_iff.1 hr).1
  have hle:r * k+k≤rows.length * k:=by rw [← Nat.succ_mul];exact Nat.mul_le_mul_right _ hlt
  refine ⟨cs,e,fr,hb,?_,hlen,rfl,fun l hl=>?_⟩
  ·have:rows.length * k≤cap * k:=Nat.mul_le_mul_right _ hcap
   show r * k+row.length≤cs.size
   omega
  ·have:=hin (r * k+l) (by omega)
   rwa [row_at r l row hrow hr (by omega)] at this

theorem celR_len (o r:Nat):∀(row:List D) (n:Nat),(celR o r n row).length=row.length
 | [],_=>rfl
 | _::t,n=>by simp only [celR,List.length_cons,celR_len o r t]
theorem celR_get (o r:Nat):∀(row:List D) (n l:Nat),l<row.length→(celR o r n row).getD l .any=celOf o r (n+l) (row.getD l default)
 | d::t,n,0,_=>rfl
 | d::t,n,l+1,h=>by
  have:=celR_get o r t (n+1) l (by simpa using h)
  simp only [celR,List.getD_cons_succ,this]
  rw [Nat.add_assoc,Nat.add_comm 1 l]

/-- a row of a deep object in memory -/
theorem Rel.deepRow {X:List Nat} (R:Rel B N w₀ L s a w S g X) {ob k r:Nat} {rows:List (List D)} {row:List D} (hL:L ob) (h:find s.mem ob=some (.deep k rows)) (hr:rows[r]?=some row):
  ∃cs e fr,hp w (g ob).b=some (.cells cs e fr)∧r * (g ob).k+row.length≤cs.size∧row.length=k∧(g ob).k=k∧
   ∀l,l<row.length→(cs.getD (r * (g ob).k+l) undef).oneCell'=true∧RV S (hp w) g (find s.mem) L ((celR ob r 0 row).getD l .any) (cs.getD (r * (g ob).k+l) undef):=by
 have:=R.obj ob _ h
 generalize hG:g ob=G at this
 cases this with
 | dnil=>simp at hr
 | @deep hd k rows b cap cs e fr fps hb hfr hk hrow hcap hmax hsz hfl hin hhd hB hH=>
  have hlen:row.length=k:=hrow row (List.mem_of_getElem? hr)
  have hlt:r<rows.length:=(List.getElem?_eq_some_iff.1 hr).1
  have hle:r * k+k≤rows.length * k:=by rw [← Nat.succ_mul];exact Nat.mul_le_mul_right _ hlt
  refine ⟨cs,e,fr,hb,?_,hlen,rfl,fun l hl=>?_⟩
  ·have:rows.length * k≤cap * k:=Nat.mul_le_mul_right _ hcap
   show r * k+row.length≤cs.size
   omega
  ·have h1:=hin (r * k+l) (by omega)
   refine ⟨h1.one,?_⟩
   rw [celR_get ob r row 0 l hl,Nat.zero_add]
   rw [row_at r l row hrow hr (by omega)] at h1
   have h2:=hhd (r * k+l)
   rw [row_at r l row hrow hr (by omega)] at h2
   generalize row.getD l default=d at h1 h2
   generalize fps.getD (r * k+l) []=fp at h1
   cases d with
   | v x=>cases h1 with
    | v x hx=>exact .d _ _ (.v _ hx)
   | sl k' rows'=>
    refine .cel ob r l _ hL h1.one fun _=>?_
    rw [hG];exact ⟨h2 k' rows' (by omega) rfl,hlt⟩

theorem sound_load (hT:TOk P T) (R:Rel B N w₀ L s a w S g []) {t:TypeId} {x:Operand} (ho:o.op=.load t x) (h:stepR C T o (evA T s) (find s.mem) id K):Goal P B N w₀ L s a w id K o Q:=by
 unfold stepR at h;rw [ho] at h
 simp only at h
 split at h
 ·rename_i i hi
  have H:=hT t i hi
  split at h
  ·rename_i ob r j hx
   have ex:=R.ev (T:=T) 0 x
   rw [hx] at ex
   cases ex with
   | ptr _ _ _ v hL h1 hv=>
    split at h
    ·rename_i cs hm
     obtain ⟨vs,e,fr,hb,hfr,hl,hone,hin,_⟩:=R.box hm
     split at h
     ·rename_i hr0
      have hr0:r=0:=Nat.eq_of_beq_eq_true hr0
      subst hr0
      have ev:=(hv (by rw [hm];simp)).1
      rw [Nat.zero_mul] at ev
      refine sound_loadRow (vs:=⟨vs⟩) H R ho hb ev (cs:=cs) (by simp [hl]) (fun l hl'=>?_) (fun l hl'=>?_) h
      ·refine hone _ ?_
       rw [Nat.zero_add,arr_getD,List.getD_eq_getElem?_getD,List.getElem?_eq_getElem (by omega)]
       exact List.getElem_mem _
      ·have:=hin l hl'
       rw [Nat.zero_add,arr_getD];exact this
     ·exact h.elim
    ·rename_i k rows own hm
     -- the row
     have hlen:=R.arr_data hm
     obtain ⟨ev,hrow⟩:=hv (by rw [hm];simp)
     rw [hlen.2.1] at hrow
     have hr:rows[r]?=some rows[r]:=List.getElem?_eq_getElem hrow
     obtain ⟨cs,e,fr,hb,hfit,hl,_,hin⟩:=R.arrRow hm hr
     refine sound_loadRow (vs:=cs) H R ho hb ev (cs:=rows[r].map .d) (by simpa using hfit) (fun l hl'=>?_) (fun l hl'=>?_) (h.2 _ hr)
     ·exact (hin l (by simpa using hl')).one
     ·rw [getD_map_d _ _ (by simpa using hl')];exact .d _ _ (hin l (by simpa using hl'))
    ·rename_i k rows hm
     have hlen:=R.deep_data hm
     obtain ⟨ev,hrow⟩:=hv (by rw [hm];simp)
     rw [hlen.2.1] at hrow
     have hr:rows[r]?=some rows[r]:=List.getElem?_eq_getElem hrow
     obtain ⟨cs,e,fr,hb,hfit,hl,_,hin⟩:=R.deepRow hL hm hr
     refine sound_loadRow (vs:=cs) H R ho hb ev (cs:=celR ob r 0 rows[r]) (by simpa [celR_len] using hfit) (fun l hl'=>?_) (fun l hl'=>?_) (h.2 _ hr)
     ·exact (hin l (by simpa [celR_len] using hl')).1
     ·exact (hin l (by simpa [celR_len] using hl')).2
    ·exact h.elim
  ·rename_i row j hx
   have ex:=R.ev (T:=T) 0 x
   rw [hx] at ex
   generalize hval:a.eval x=val at ex
   cases ex with
   | dp _ _ b off cs e fr hS hb hfit hin=>
    refine sound_loadRow (vs:=cs) H R ho hb hval (cs:=row.map .d) (by simpa using hfit) (fun l hl'=>?_) (fun l hl'=>?_) h
    ·exact (hin l (by simpa using hl')).one
    ·rw [getD_map_d _ _ (by simpa using hl')];exact .d _ _ (hin l (by simpa using hl'))
  ·exact h.elim
 ·exact h.elim

theorem sound_nilCheck (R:Rel B N w₀ L s a w S g []) {x:Operand} (ho:o.op=.nilCheck x) (h:stepR C T o (evA T s) (find s.mem) id K):Goal P B N w₀ L s a w id K o Q:=by
 unfold stepR at h;rw [ho] at h
 simp only at h
 have ex:=R.ev (T:=T) 0 x
 split at h
 ·rename_i ob r j hx
  rw [hx] at ex
  split at h
  ·rename_i ao hm
   have ex':=ex
   generalize hval:a.eval x=val at ex
   cases ex with
   | ptr _ _ _ v hL h1 hv=>
    have ev:=(hv (by rw [hm];simp)).1
    refine goal_same (v:=.ptr ob r j) (val:=a.eval x) R h ?_ ex'
    simp [execOp,ho,hval,ev]
  ·exact h.elim
 ·rename_i row j hx
  rw [hx] at ex
  have ex':=ex
  generalize hval:a.eval x=val at ex
  cases ex with
  | dp=>exact goal_same (v:=.dp row j) (val:=a.eval x) R h (by simp [execOp,ho,hval]) ex'
 ·rename_i f caps hx
  rw [hx] at ex
  have ex':=ex
  generalize hval:a.eval x=val at ex
  cases ex with
  | fn=>exact goal_same (v:=.fn f caps) (val:=a.eval x) R h (by simp [execOp,ho,hval]) ex'
 ·exact h.elim

theorem fields_get {fields:Array Field} {fs:List (Nat×TypeId)} (e:fields.toList.map (fun f=>(f.offset,f.type))=fs) {f off:Nat} {ft:TypeId} (h:fs[f]?=some (off,ft)):
  ∃fd,fields[f]?=some fd∧fd.offset=off∧fd.type=ft:=by
 subst e
 rw [List.getElem?_map] at h
 rw [← Array.getElem?_toList]
 cases hf:fields.toList[f]? with
 | none=>rw [hf] at h;simp at h
 | some fd=>rw [hf] at h;simp at h;exact ⟨fd,rfl,h.1,h.2⟩

theorem sound_fieldAddr (hT:TOk P T) (R:Rel B N w₀ L s a w S g []) {t:TypeId} {x:Operand} {f:Nat} (ho:o.op=.fieldAddr t x f) (h:stepR C T o (evA T s) (find s.mem) id K):Goal P B N w₀ L s a w id K o Q:=by
 unfold stepR at h;rw [ho] at h
 simp only at h
 split at h
 ·rename_i i hi
  have H:=hT t i hi
  obtain ⟨d,hd,_,hu⟩:=H.run_underlying w
  split at h
  ·rename_i fs htd
   rw [htd] at hd
   obtain ⟨fields,rfl,hfs,_⟩:=hd
   split at h
   ·rename_i off ft hf
    obtain ⟨fd,hfd,rfl,rfl⟩:=fields_get hfs hf
    split at h
    ·rename_i fi hft
     have HF:=hT _ _ hft
     have hz:(sizeOf fd.type).run P w=.ok fi.size w:=HF.run_size w
     have hpos:¬ fi.size=0:=by have:=HF.pos;omega
     have ex:=R.ev (T:=T) 0 x
     have run:∀b off,a.eval x=.pointer (some ⟨b,off,none⟩)→(execOp a.eval o).run P w=.ok (.value (.pointer (some ⟨b,off+fd.offset,none⟩))) w:=by
      intro b off hx
      simp [execOp,ho,hx,Instr.fieldAt,hu,hfd,Instr.sureAddr,fieldPlace,hz,hpos,Addr.add_off]
     split at h
     ·rename_i ob r j hx
      rw [hx] at ex
      split at h
      ·rename_i ao hm
       generalize hval:a.eval x=val at ex
       cases ex with
       | ptr _ _ _ v hL h1 hv=>
        obtain ⟨ev,hr⟩:=hv (by rw [hm];simp)
        subst ev
        exact goal_same (v:=.ptr ob r (j+fd.offset)) R h (run _ _ hval) (.ptr _ _ _ _ hL rfl fun _=>⟨by rw [Nat.add_assoc],hr⟩)
      ·exact h.elim
     ·rename_i row j hx
      rw [hx] at ex
      generalize hval:a.eval x=val at ex
      cases ex with
      | dp _ _ b off' cs e fr hS hb hfit hin=>
       exact goal_same (v:=.dp row (j+fd.offset)) R h (run _ _ hval) (by rw [Nat.add_assoc];exact .dp row (j+fd.offset) b off' cs e fr hS hb hfit hin)
     ·exact h.elim
    ·exact h.elim
   ·exact h.elim
  ·exact h.elim
 ·exact h.elim

theorem sound_field (hT:TOk P T) (R:Rel B N w₀ L s a w S g []) {t:TypeId} {x:Operand} {f:Nat} (ho:o.op=.field t x f) (h:stepR C T o (evA T s) (find s.mem) id K):Goal P B N w₀ L s a w id K o Q:=by
 unfold stepR at h;rw [ho] at h
 simp only at h
 split at h
 ·rename_i i hi
  have H:=hT t i hi
  obtain ⟨d,hd,_,hu⟩:=H.run_underlying w
  split at h
  ·rename_i fs htd
   rw [htd] at hd
   obtain ⟨fields,rfl,hfs,_⟩:=hd
   split at h
   ·rename_i off ft cs hf hx
    obtain ⟨fd,hfd,rfl,rfl⟩:=fields_get hfs hf
    split at h
    ·rename_i fi hft
     have HF:=hT _ _ hft
     have ex:=R.ev (T:=T) t x
     rw [hx] at ex
     generalize hval:a.eval x=val at ex
     cases ex with
     | agg _ vs hl h1 hin=>
      unfold loadRow at h
      cases hagg:fi.isAgg
      ·rw [hagg] at h
       simp only at h
       split at h
       ·rename_i c r hc
        have hj:fd.offset<cs.length:=by
         have:(cs.drop fd.offset).length=(c::r).length:=by rw [hc]
         simp at this;omega
        have hcj:cs.getD fd.offset .any=c:=by
         have:(cs.drop fd.offset).getD 0 .any=c:=by rw [hc];rfl
         rw [getD_drop] at this;simpa using this
        have hg:(⟨vs⟩:Array Value)[fd.offset]?=some (vs.getD fd.offset undef):=by
         rw [List.getElem?_toArray,List.getD_eq_getElem?_getD,List.getElem?_eq_getElem (by omega)];rfl
        refine goal_same (v:=c) R h ?_ (by rw [← hcj];exact hin _ hj)
        have hA:=HF.run_isAgg w
        rw [hagg] at hA
        simp only [execOp,ho,hval,Instr.field,Sem.run_bind,hu,Result.andThen_ok,hfd,asAgg,Sem.run_pure,part,hA,hg,Bool.false_eq_true,if_false]
       ·exact h.elim
      ·rw [hagg] at h
       simp only at h
       split at h
       ·rename_i r hr
        unfold splitAtA at hr
        split at hr
        ·rename_i hle
         have hle:=Nat.le_of_ble_eq_true hle
         simp only [Option.some.injEq] at hr
         have hA:=HF.run_isAgg w
         rw [hagg] at hA
         refine goal_same (v:=.agg r) (val:=.agg ((⟨vs⟩:Array Value).extract fd.offset (fd.offset+fi.size))) R h ?_ ?_
         ·simp only [execOp,ho,hval,Instr.field,Sem.run_bind,hu,Result.andThen_ok,hfd,asAgg,Sem.run_pure,part,hA,HF.run_size w,if_true]
         ·have e0:(⟨vs⟩:Array Value).extract fd.offset (fd.offset+fi.size)=⟨(vs.drop fd.offset).take fi.size⟩:=by
           apply Array.ext';simp [List.drop_take]
          rw [e0,← hr]
          refine .agg _ _ (by simp [hl]) (fun v hv=>h1 v (List.mem_of_mem_drop (List.mem_of_mem_take hv))) (fun l hl'=>?_)
          have hl2:l<fi.size:=by simp at hl';omega
          rw [getD_take _ _ _ _ hl2,getD_drop,getD_take _ _ _ _ hl2,getD_drop]
          exact hin _ (by simp at hl';omega)
        ·simp at hr
       ·exact h.elim
    ·exact h.elim
   ·exact h.elim
  ·exact h.elim
 ·exact h.elim

theorem sound_extract (R:Rel B N w₀ L s a w S g []) {x:Operand} {i:Nat} (ho:o.op=.extract x i) (h:stepR C T o (evA T s) (find s.mem) id K):Goal P B N w₀ L s a w id K o Q:=by
 unfold stepR at h;rw [ho] at h
 simp only at h
 split at h
 ·rename_i vs hx
  split at h
  ·rename_i v hv
   have ex:=R.ev (T:=T) 0 x
   rw [hx] at ex
   generalize hval:a.eval x=val at ex
   cases ex with
   | tup _ us hl hin=>
    have hlt:=(List.getElem?_eq_some_iff.1 hv).1
    have e1:vs.getD i .any=v:=by rw [List.getD_eq_getElem?_getD,hv];rfl
    have hg:us[i]?=some (us.getD i undef):=by rw [List.getD_eq_getElem?_getD,List.getElem?_eq_getElem (by omega)];rfl
    refine goal_same (v:=v) (val:=us.getD i undef) R h ?_ (by rw [← e1];exact hin i hlt)
    simp only [execOp,ho,hval,Instr.extract]
    rw [List.getElem?_toArray,hg]
    simp
  ·exact h.elim
 ·exact h.elim

theorem sound_unOp (R:Rel B N w₀ L s a w S g []) {op:UnOp} {t:TypeId} {x:Operand} (ho:o.op=.unOp op t x) (h:stepR C T o (evA T s) (find s.mem) id K):Goal P B N w₀ L s a w id K o Q:=by
 unfold stepR at h;rw [ho] at h
 simp only at h
 have ex:=R.ev (T:=T) t x
 split at h
 ·rename_i b hx
  rw [hx] at ex
  have ev:=(rv_v ex).1
  exact goal_same R h (by simp [execOp,ho,ev,Op.unary]) (rv_mk rfl)
 ·rename_i k n hx
  rw [hx] at ex
  have ev:=(rv_v ex).1
  exact goal_same R h (by simp [execOp,ho,ev,Op.unary,Op.intArith]) (rv_mk rfl)
 ·exact h.elim

theorem sound_makeFunc (R:Rel B N w₀ L s a w S g []) {f:FuncId} {caps:List Operand} (ho:o.op=.makeFunc (.func f) ⟨[]⟩ ⟨caps⟩) (h:stepR C T o (evA T s) (find s.mem) id K):Goal P B N w₀ L s a w id K o Q:=by
 unfold stepR at h;rw [ho] at h
 refine goal_same (val:=.func (.func f) #[] ⟨caps.map a.eval⟩) R h (by simp [execOp,ho,Instr.makeFunc]) ?_
 refine .fn f _ _ (by simp) fun i hi=>?_
 have hi':i<caps.length:=by simpa using hi
 have e1:(caps.map (evA T s 0)).getD i .any=evA T s 0 caps[i]:=by simp [List.getD_eq_getElem?_getD,hi']
 have e2:(caps.map a.eval).getD i undef=a.eval caps[i]:=by simp [List.getD_eq_getElem?_getD,hi']
 rw [e1,e2]
 exact R.ev 0 _

theorem sound_index (hT:TOk P T) (R:Rel B N w₀ L s a w S g []) {t:TypeId} {x ix:Operand} (ho:o.op=.index t x ix) (h:stepR C T o (evA T s) (find s.mem) id K):Goal P B N w₀ L s a w id K o Q:=by
 unfold stepR at h;rw [ho] at h
 simp only at h
 split at h
 ·rename_i i hi
  have H:=hT t i hi
  obtain ⟨d,hd,_,hu⟩:=H.run_underlying w
  split at h
  ·rename_i l n htd hx hn
   rw [htd] at hd
   simp only [DescOk] at hd;subst hd
   have ex:=R.ev (T:=T) 0 x
   rw [hx] at ex
   have ev:=(rv_v ex).1
   have ei:=R.ev (T:=T) 0 ix
   obtain ⟨k,hk⟩:∃k,evA T s 0 ix=.d (.v (.int k n)):=by
    unfold intA at hn;split at hn
    ·rename_i k m he;simp only [Option.some.injEq] at hn;subst hn;exact ⟨_,he⟩
    ·simp at hn
   rw [hk] at ei
   have ei:=(rv_v ei).1
   obtain ⟨⟨h0,h1⟩,h⟩:=h
   have hlt:n.toNat<l.length:=by omega
   have hg:(⟨⟨l⟩⟩:ByteArray)[n.toNat]?=some l[n.toNat]:=by
    rw [getElem?_pos _ _ (by show n.toNat<(⟨⟨l⟩⟩:ByteArray).size;exact hlt)];rfl
   refine goal_same R h ?_ (rv_mk rfl)
   have e1:l.getD n.toNat 0=l[n.toNat]:=by simp [List.getD_eq_getElem?_getD,hlt]
   simp only [execOp,ho,ev,ei,Instr.index,asIntOf,Sem.run_bind,Sem.run_pure,Result.andThen_ok,hu,if_pos h0,hg,e1]
  ·exact h.elim
 ·exact h.elim

end

end Go.Av
