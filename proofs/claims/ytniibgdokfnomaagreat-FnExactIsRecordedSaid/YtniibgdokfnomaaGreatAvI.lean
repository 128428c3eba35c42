/- ABSTRACT VALUES: operators, conversions, new slices. -/
import Derived.Test.YtniibgdokfnomaaGreatAvH
import Derived.Laws.StructEq
import Derived.Laws.BytesString
namespace Go.Av
open Go Go.RowKit
set_option linter.unusedSimpArgs false
set_option linter.unusedVariables false

section
variable {P:Program} {T:Tab} {C:Contract} {B:Fr} {N:Nat} {L:Nat→Prop} {w₀ w:World} {s:St} {a:Act} {S:Nat→Prop} {g:Nat→OG} {id:Nat} {K:AV→Ups→Prop} {o:Oper} {Q:Exit→Act→World→Prop}

theorem bytes_toList (l:List UInt8):(⟨⟨l⟩⟩:ByteArray).toList=l:=by rw [ByteArray.toList_eq]

def plain1:Value→Bool
 | .nilIface=>false
 | .agg _=>false
 | _=>true

theorem run_eqGuard (op:BinOp) (t:TypeId) (x y:Operand) (u v:Value) (hu:plain1 u=true):(eqGuard op t x y u v).run P w=.ok () w:=by
 unfold eqGuard
 cases op <;> simp <;> (cases u <;> simp_all [plain1])

theorem run_eqGuard_agg (op:BinOp) (t:TypeId) (x y:Operand) (u v:Array Value) (h:P.eqGuardType P.depth t=false):(eqGuard op t x y (.agg u) (.agg v)).run P w=.ok () w:=by
 unfold eqGuard
 cases op <;> simp [h]

theorem run_eqVal (d:Nat) {t:TypeId} {i:TI} (H:TypeOk P t i) {x y:Value} {r:Bool} (h:eqVal i.td x y=some r):(Op.equalIn (d+1) t x y).run P w=.ok r w:=by
 obtain ⟨desc,hd,hu,_⟩:=H.run_underlying w
 unfold eqVal at h
 split at h
 ·rename_i k htd
  rw [htd] at hd;simp only [DescOk] at hd;subst hd
  split at h
  ·split at h
   ·rename_i hk;simp only [decide_eq_true_eq] at hk;subst hk
    simp only [Option.some.injEq] at h;subst h
    exact run_equalIn_int w d t _ _ _ _ hu
   ·cases h
  ·cases h
 ·rename_i htd
  rw [htd] at hd;simp only [DescOk] at hd;subst hd
  split at h
  ·simp only [Option.some.injEq] at h;subst h
   exact run_equalIn_bool' w d t _ _ hu
  ·cases h
 ·rename_i htd
  rw [htd] at hd;simp only [DescOk] at hd;subst hd
  split at h
  ·simp only [Option.some.injEq] at h;subst h
   rw [run_equalIn_string w d t _ _ hu,bytes_toList,bytes_toList]
  ·cases h
 ·cases h

theorem td_scalar {i:TI} {x y:Value} {r:Bool} (h:eqVal i.td x y=some r):i.isAgg=false:=by
 unfold eqVal at h
 unfold TI.isAgg
 split at h
 ·rename_i e;rw [e]
 ·rename_i e;rw [e]
 ·rename_i e;rw [e]
 ·cases h

theorem run_eqF (hT:TOk P T) (d:Nat) {xs ys:List AV} {us vs:List Value} (hu:us.length=xs.length) (hv:vs.length=ys.length) {S:Nat→Prop} {h:Nat→Option Obj} {m:Nat→Option AO}
  (rx:∀i,i<xs.length→RV S h g m L (xs.getD i .any) (us.getD i undef)) (ry:∀i,i<ys.length→RV S h g m L (ys.getD i .any) (vs.getD i undef)):
  ∀(fields:List Field) {r:Bool},(∀f∈fields,f.name ≠ "_")→eqF T xs ys (fields.map fun f=>(f.offset,f.type))=some r→(Op.eqFields (d+1) ⟨us⟩ ⟨vs⟩ fields).run P w=.ok r w
 | [],r,_,he=>by simp [eqF] at he;subst he;simp [Op.eqFields]
 | f::fs,r,hn,he=>by
  simp only [List.map_cons,eqF] at he
  split at he
  ·rename_i i x y hi hx hy
   have H:=hT _ _ hi
   split at he
   ·rename_i p q hp hq
    simp only [Option.some.injEq] at he
    have ih:=run_eqF hT d hu hv rx ry fs (fun f' hf=>hn f' (by simp [hf])) hq
    have lx:=(List.getElem?_eq_some_iff.1 hx).1
    have ly:=(List.getElem?_eq_some_iff.1 hy).1
    have ex:=rx f.offset lx
    rw [List.getD_eq_getElem?_getD,hx] at ex
    have ex:=(rv_v ex).1
    have ey:=ry f.offset ly
    rw [List.getD_eq_getElem?_getD,hy] at ey
    have ey:=(rv_v ey).1
    have hagg:i.isAgg=false:=td_scalar hp
    have hA:=H.run_isAgg w
    rw [hagg] at hA
    have gx:(⟨us⟩:Array Value)[f.offset]?=some x:=by rw [List.getElem?_toArray,List.getElem?_eq_getElem (by omega),← ex,List.getD_eq_getElem?_getD,List.getElem?_eq_getElem (by omega)];rfl
    have gy:(⟨vs⟩:Array Value)[f.offset]?=some y:=by rw [List.getElem?_toArray,List.getElem?_eq_getElem (by omega),← ey,List.getD_eq_getElem?_getD,List.getElem?_eq_getElem (by omega)];rfl
    have px:(part f.type ⟨us⟩ f.offset).run P w=.ok x w:=by simp only [part,Sem.run_bind,hA,Result.andThen_ok,Bool.false_eq_true,if_false,gx,Sem.run_pure]
    have py:(part f.type ⟨vs⟩ f.offset).run P w=.ok y w:=by simp only [part,Sem.run_bind,hA,Result.andThen_ok,Bool.false_eq_true,if_false,gy,Sem.run_pure]
    have hr:=run_eqVal (w:=w) d H hp
    simp only [Op.eqFields,hn f (by simp),ne_eq,not_false_eq_true,if_true,Sem.run_bind,px,py,hr,Result.andThen_ok]
    cases p
    ·simp only [Bool.false_and] at he;subst he;simp
    ·simp only [Bool.true_and] at he;subst he;simpa using ih
   ·cases he
  ·cases he

theorem sound_binOp (hT:TOk P T) (R:Rel B N w₀ L s a w S g []) {op:BinOp} {t t':TypeId} {x y:Operand} (ho:o.op=.binOp op t x y t') (h:stepR C T o (evA T s) (find s.mem) id K):
  Goal P B N w₀ L s a w id K o Q:=by
 unfold stepR at h;rw [ho] at h
 simp only at h
 split at h
 ·rename_i i hi
  have H:=hT t i hi
  obtain ⟨d,hd,hu0,hu⟩:=H.run_underlying w
  have ex:=R.ev (T:=T) t x
  have ey:=R.ev (T:=T) t' y
  unfold binA at h
  split at h
  ·rename_i u v hx hy
   rw [hx] at ex;rw [hy] at ey
   replace ex:=(rv_v ex).1
   replace ey:=(rv_v ey).1
   have fin:∀{r:Value},K (.d (.v r)) []→r.oneCell'=true→(binOp op t u v).run P w=.ok r w→plain1 u=true→Goal P B N w₀ L s a w id K o Q:=by
    intro r hk h1 hr hg
    refine goal_same R hk ?_ (rv_mk h1)
    simp [execOp,ho,ex,ey,run_eqGuard op t x y u v hg,hr]
   unfold binV at h
   split at h
   ·rename_i k m k' n
    split at h
    ·rename_i hk;simp only [decide_eq_true_eq] at hk;subst hk
     cases op <;> simp only at h
     case add=>exact fin h rfl (by simp [binOp,Op.intArith]) rfl
     case sub=>exact fin h rfl (by simp [binOp,Op.intArith]) rfl
     case mul=>exact fin h rfl (by simp [binOp,Op.intArith]) rfl
     case quo=>exact fin h.2 rfl (by simp [binOp,Op.intDiv,h.1]) rfl
     case rem=>exact fin h.2 rfl (by simp [binOp,Op.intDiv,h.1]) rfl
     case eql=>exact fin h rfl (by simp [binOp,Op.intCmp]) rfl
     case neq=>exact fin h rfl (by simp [binOp,Op.intCmp]) rfl
     case lss=>exact fin h rfl (by simp [binOp,Op.intCmp]) rfl
     case leq=>exact fin h rfl (by simp [binOp,Op.intCmp]) rfl
     case gtr=>exact fin h rfl (by simp [binOp,Op.intCmp]) rfl
     case geq=>exact fin h rfl (by simp [binOp,Op.intCmp]) rfl
    ·exact h.elim
   ·rename_i l l'
    cases op <;> simp only at h
    case add=>
     refine fin h.2 rfl ?_ rfl
     have h1:=h.1
     have e0:∀q:List UInt8,(⟨⟨q⟩⟩:ByteArray).size=q.length:=fun _=>rfl
     have e1:(⟨⟨l⟩⟩:ByteArray)++⟨⟨l'⟩⟩=⟨⟨l++l'⟩⟩:=by apply ByteArray.ext;rw [ByteArray.data_append];apply Array.ext';simp
     have e2:=run_string_add_sum (P:=P) (w:=w) ⟨⟨l⟩⟩ ⟨⟨l'⟩⟩ (by rw [e0,e0];omega)
     rw [e1] at e2
     simpa [binOp] using e2
    case eql=>exact fin h rfl (by simp [binOp,Op.stringOp,bytes_toList]) rfl
    case neq=>exact fin h rfl (by simp [binOp,Op.stringOp,bytes_toList,bne]) rfl
    case lss=>exact fin h rfl (by simp [binOp,Op.stringOp,bytes_toList]) rfl
    case leq=>exact fin h rfl (by simp [binOp,Op.stringOp,bytes_toList]) rfl
    case gtr=>exact fin h rfl (by simp [binOp,Op.stringOp,bytes_toList]) rfl
    case geq=>exact fin h rfl (by simp [binOp,Op.stringOp,bytes_toList]) rfl
   ·rename_i p q
    split at h
    ·rename_i htd
     rw [htd] at hd;simp only [DescOk] at hd;subst hd
     have hr:(Op.equal t (.bool p) (.bool q)).run P w=.ok (p == q) w:=run_equalIn_bool' w 9999 t p q hu0
     cases op <;> simp only at h
     case eql=>exact fin h rfl (by simp [binOp,hr]) rfl
     case neq=>exact fin h rfl (by simp [binOp,hr,bne]) rfl
    ·exact h.elim
   ·exact h.elim
  ·rename_i xs ys hx hy
   rw [hx] at ex;rw [hy] at ey
   split at h
   ·rename_i fs htd
    have htd':=htd
    rw [htd] at hd
    obtain ⟨fields,rfl,hfs,hn⟩:=hd
    split at h
    ·rename_i r hr
     generalize hvx:a.eval x=vx at ex
     generalize hvy:a.eval y=vy at ey
     cases ex with
     | agg _ us hl h1 hin=>
      cases ey with
      | agg _ vs hl' h1' hin'=>
       obtain ⟨g1,g2⟩:=H.eqg fs htd'
       have hfo:P.fieldsOf t=fields:=by unfold Program.fieldsOf;rw [hu0]
       rw [← hfs] at hr
       have hrun:=run_eqF (w:=w) hT 9998 hl hl' hin hin' fields.toList hn hr
       have heq:(Op.equal t (.agg ⟨us⟩) (.agg ⟨vs⟩)).run P w=.ok r w:=by
        show (Op.equalIn (9999+1) t _ _).run P w=_
        rw [run_equalIn_struct w 9999 t ⟨us⟩ ⟨vs⟩ (by rw [hfo];exact hu0) g2,hfo]
        exact hrun
       cases op <;> simp only at h
       case eql=>exact goal_same R h (by simp [execOp,ho,hvx,hvy,run_eqGuard_agg,g1,binOp,heq]) (rv_mk rfl)
       case neq=>exact goal_same R h (by simp [execOp,ho,hvx,hvy,run_eqGuard_agg,g1,binOp,heq]) (rv_mk rfl)
    ·exact h.elim
   ·exact h.elim
  ·exact h.elim
 ·exact h.elim

theorem rv_map (R:Rel B N w₀ L s a w S g []) (t:TypeId) (xs:List Operand):∀i,i<xs.length→RV S (hp w) g (find s.mem) L ((xs.map (evA T s t)).getD i .any) ((xs.map a.eval).getD i undef):=by
 intro i hi
 have e1:(xs.map (evA T s t)).getD i .any=evA T s t xs[i]:=by simp [List.getD_eq_getElem?_getD,hi]
 have e2:(xs.map a.eval).getD i undef=a.eval xs[i]:=by simp [List.getD_eq_getElem?_getD,hi]
 rw [e1,e2];exact R.ev t _

theorem foldInts_run {f:Value→Value→Sem Value} {op:Int→Int→Int} (hf:∀x y (w:World),(f (.int .i64 x) (.int .i64 y)).run P w=.ok (.int .i64 (op x y)) w):
  ∀(cs:List AV) (vs:List Value) (acc n:Int),vs.length=cs.length→(∀i,i<cs.length→RV S (hp w) g (find s.mem) L (cs.getD i .any) (vs.getD i undef))→foldInts op acc cs=some n→
   (vs.foldlM f (.int .i64 acc)).run P w=.ok (.int .i64 n) w
 | [],[],acc,n,_,_,h=>by simp [foldInts] at h;subst h;rfl
 | c::cs,v::vs,acc,n,hl,hin,h=>by
  have h0:=hin 0 (by simp)
  simp only [List.getD_cons_zero] at h0
  unfold foldInts at h
  split at h
  ·rename_i heq;cases heq
  ·rename_i b r heq
   simp only [List.cons.injEq] at heq
   obtain ⟨rfl,rfl⟩:=heq
   have e0:=(rv_v h0).1
   subst e0
   simp only [List.foldlM_cons,Sem.run_bind,hf,Result.andThen_ok]
   exact foldInts_run hf cs vs _ n (by simpa using hl) (fun i hi=>by simpa using hin (i+1) (by simpa using hi)) h
  ·cases h
 | [],v::vs,_,_,hl,_,_=>by simp at hl
 | c::cs,[],_,_,hl,_,_=>by simp at hl

theorem sound_min (R:Rel B N w₀ L s a w S g []) {xs:List Operand} {ts:Array TypeId} (ho:o.op=.call { callee:=.builtin .min,args:=⟨xs⟩,argTypes:=ts }) (h:stepR C T o (evA T s) (find s.mem) id K):Goal P B N w₀ L s a w id K o Q:=by
 unfold stepR at h;rw [ho] at h
 simp only at h
 split at h
 ·rename_i n hn
  have hrv:=rv_map (T:=T) R 0 xs
  refine goal_same R h ?_ (rv_mk rfl)
  cases xs with
  | nil=>simp [maxInts] at hn
  | cons x xs=>
   unfold maxInts at hn
   split at hn
   ·rename_i m r heq
    simp only [List.map_cons,List.cons.injEq] at heq
    obtain ⟨hx,rfl⟩:=heq
    have h0:=hrv 0 (by simp)
    simp only [List.map_cons,List.getD_cons_zero,hx] at h0
    have e0:=(rv_v h0).1
    have:=foldInts_run (P:=P) (f:=Builtin.min2) (op:=min) (fun p q w=>by simp [Builtin.min2,Int.min_def];split <;> split <;> first | rfl | (congr 2;omega)) (xs.map (evA T s 0)) (xs.map a.eval) m n (by simp) (fun i hi=>by simpa using hrv (i+1) (by simpa using hi)) hn
    simp [execOp,ho,resolve,invoke,builtin,Builtin.min_,e0,this]
   ·cases hn
 ·exact h.elim

theorem sound_max (R:Rel B N w₀ L s a w S g []) {xs:List Operand} {ts:Array TypeId} (ho:o.op=.call { callee:=.builtin .max,args:=⟨xs⟩,argTypes:=ts }) (h:stepR C T o (evA T s) (find s.mem) id K):Goal P B N w₀ L s a w id K o Q:=by
 unfold stepR at h;rw [ho] at h
 simp only at h
 split at h
 ·rename_i n hn
  have hrv:=rv_map (T:=T) R 0 xs
  refine goal_same R h ?_ (rv_mk rfl)
  cases xs with
  | nil=>simp [maxInts] at hn
  | cons x xs=>
   unfold maxInts at hn
   split at hn
   ·rename_i m r heq
    simp only [List.map_cons,List.cons.injEq] at heq
    obtain ⟨hx,rfl⟩:=heq
    have h0:=hrv 0 (by simp)
    simp only [List.map_cons,List.getD_cons_zero,hx] at h0
    have e0:=(rv_v h0).1
    have:=foldInts_run (P:=P) (f:=Builtin.max2) (op:=max) (fun p q w=>by simp [Builtin.max2,Int.max_def];split <;> split <;> first | rfl | (congr 2;omega)) (xs.map (evA T s 0)) (xs.map a.eval) m n (by simp) (fun i hi=>by simpa using hrv (i+1) (by simpa using hi)) hn
    simp [execOp,ho,resolve,invoke,builtin,Builtin.max_,e0,this]
   ·cases hn
 ·exact h.elim

end

end Go.Av
