/- ABSTRACT VALUES: the table of types, and what the machine's operations do on blocks. -/
import Derived.Test.YtniibgdokfnomaaGreatAvD
namespace Go.Av
open Go Go.RowKit
set_option linter.unusedSimpArgs false
set_option linter.unusedVariables false

def DescOk (d:TypeDesc):TD→Prop
 | .int k=>d=.int k
 | .bool=>d=.bool
 | .str=>d=.string
 | .sl e=>d=.slice e
 | .struct fs=>∃fields:Array Field,d=.struct fields∧fields.toList.map (fun f=>(f.offset,f.type))=fs∧∀f∈fields.toList,f.name ≠ "_"
 | .map k e=>d=.map k e
 | .other=>(match d with | .struct _ | .array _ _=>true | _=>false)=false

structure TypeOk (P:Program) (t:TypeId) (i:TI):Prop where
 ex:∃info d z,P.info? t=some info∧P.underlying t=some d∧info.size=i.size∧info.bytes=i.bytes∧info.zero=some z∧z.cells=⟨i.zero⟩∧DescOk d i.td
 pos:0<i.size
 zl:i.zero.length=i.size
 one:i.isAgg=false→i.size=1
 z1:∀v∈i.zero,v.oneCell'=true
 fld:∀fs,i.td=.struct fs→∀p∈fs,(P.info? p.2).isSome=true
 eqg:∀fs,i.td=.struct fs→P.eqGuardType P.depth t=false∧P.stoodInHeld t=false
 zi:i.td=.int .i64→∃info,P.info? t=some info∧info.zero=some (.int .i64 0)

/-- a type that is no struct has one cell -/
theorem TypeOk.scalar {P:Program} {t:TypeId} {i:TI} (H:TypeOk P t i) (h:i.isAgg=false):i.size=1:=H.one h

def TOk (P:Program) (T:Tab):Prop:=∀t i,T.get t=some i→TypeOk P t i

section
variable {P:Program} {t:TypeId} {i:TI} (H:TypeOk P t i) (w:World)
include H

theorem TypeOk.run_underlying:∃d,DescOk d i.td∧P.underlying t=some d∧(underlying t).run P w=.ok d w:=by
 obtain ⟨info,d,z,h1,h2,_,_,_,_,h⟩:=H.ex
 exact ⟨d,h,h2,Go.run_underlying h2 w⟩

theorem TypeOk.run_size:(sizeOf t).run P w=.ok i.size w:=by
 obtain ⟨info,d,z,h1,h2,h3,_⟩:=H.ex
 simp [sizeOf,typeInfo,h1,h3]

theorem TypeOk.run_isAgg:(isAgg t).run P w=.ok i.isAgg w:=by
 obtain ⟨info,d,z,h1,h2,_,_,_,_,h⟩:=H.ex
 unfold isAgg
 rw [Sem.run_bind,Go.run_underlying h2 w]
 unfold TI.isAgg
 cases htd:i.td <;> rw [htd] at h <;> simp only [DescOk] at h
 case struct fs=>obtain ⟨fields,rfl,_⟩:=h;rfl
 case other=>cases d <;> simp_all
 all_goals subst h;rfl

theorem TypeOk.run_zero:∃z,(zeroValue t).run P w=.ok z w∧z.cells=⟨i.zero⟩:=by
 obtain ⟨info,d,z,h1,h2,h3,h4,h5,h6,_⟩:=H.ex
 exact ⟨z,by simp [zeroValue,typeInfo,h1,h5],h6⟩

end

theorem Addr.add_off (b off n:Nat):(⟨b,off,none⟩:Addr).add n=⟨b,off+n,none⟩:=by
 unfold Addr.add;split <;> simp_all

section
variable {P:Program} {w:World} {b:Nat} {cs:Array Value} {e:TypeId} {fr:Nat×Nat}

theorem cell_at (hb:hp w b=some (.cells cs e fr)) {j:Nat} (hj:j<cs.size):w.cell? ⟨b,j,none⟩=some (cs.getD j undef):=by
 have hb':w.heap[b]?=some (.cells cs e fr):=hb
 simp [World.cell?,hb',hj]

theorem run_loadCells_at (hb:hp w b=some (.cells cs e fr)) (off n:Nat) (h:off+n≤cs.size):(loadCells ⟨b,off,none⟩ n).run P w=.ok (Array.ofFn (n:=n) fun i=>cs.getD (off+i) undef) w:=by
 have:=run_loadCells (P:=P) w ⟨b,off,none⟩ n (fun j=>cs.getD (off+j) undef) fun j hj=>by
  rw [Addr.add_off,cell_at hb (by omega)]
 rw [this]
 congr 1
 apply Array.ext
 ·simp
 ·intro i h1 h2;simp

theorem run_load_at (hb:hp w b=some (.cells cs e fr)) {off:Nat} (h:off<cs.size):(load ⟨b,off,none⟩).run P w=.ok (cs.getD off undef) w:=by
 simp [load,Sem.run,cell_at hb h]

/-- load of a variable: its cells -/
theorem run_loadAt {T:TypeId} {i:TI} (H:TypeOk P T i) (hb:hp w b=some (.cells cs e fr)) (off:Nat) (h:off+i.size≤cs.size):
  (Instr.loadAt T (.pointer (some ⟨b,off,none⟩))).run P w=
   .ok (if i.isAgg then .agg (Array.ofFn (n:=i.size) fun j=>cs.getD (off+j) undef) else cs.getD off undef) w:=by
 unfold Instr.loadAt Instr.sureAddr loadVar
 simp only [Sem.run_bind,Sem.run_pure,Result.andThen_ok,H.run_isAgg]
 cases hagg:i.isAgg
 ·simp only [Bool.false_eq_true,if_false]
  exact run_load_at hb (by have:=H.pos;omega)
 ·simp only [if_true,Sem.run_bind,H.run_size,Result.andThen_ok,run_loadCells_at hb off i.size h,Sem.run_pure]

/-- the row behind a store of cells -/
def written (cs:Array Value) (off:Nat) (vs:List Value):Array Value:=(cs.toList.take off++vs++cs.toList.drop (off+vs.length)).toArray

theorem size_written (cs:Array Value) (off:Nat) (vs:List Value) (h:off+vs.length≤cs.size):(written cs off vs).size=cs.size:=by
 simp [written];omega

theorem getD_written (cs:Array Value) (off:Nat) (vs:List Value) (h:off+vs.length≤cs.size) (i:Nat):
  (written cs off vs).getD i undef=if off≤i∧i<off+vs.length then vs.getD (i - off) undef else cs.getD i undef:=by
 have hsz:(cs.toList.take off).length=off:=by simp;omega
 simp only [written,Array.getD_eq_getD_getElem?,List.getElem?_toArray,List.getD_eq_getElem?_getD]
 rw [List.append_assoc]
 by_cases h1:i<off
 ·rw [List.getElem?_append_left (by rw [hsz];exact h1),List.getElem?_take,if_pos h1,if_neg (by omega)]
  simp
 ·rw [List.getElem?_append_right (by rw [hsz];omega),hsz]
  by_cases h2:i<off+vs.length
  ·rw [List.getElem?_append_left (by omega),if_pos (by omega)]
  ·rw [List.getElem?_append_right (by omega),List.getElem?_drop,if_neg (by omega),show off+vs.length+(i - off - vs.length)=i by omega]
   simp

theorem run_storeCells_free:∀(vs:List Value) (i:Nat) (cs:Array Value) (w:World) (off:Nat),hp w b=some (.cells cs e fr)→free fr cs.size→off+i+vs.length≤cs.size→(∀v∈vs,v.oneCell'=true)→
  (storeCells ⟨b,off,none⟩ vs i).run P w=.ok () (if vs=[] then w else w.setRow b (written cs (off+i) vs))
 | [],i,cs,w,off,_,_,_,_=>by simp [storeCells]
 | v::vs,i,cs,w,off,hb,hfr,hle,h1=>by
  simp only [List.length_cons] at hle
  have hc:=cell_at hb (j:=off+i) (by omega)
  have hb':w.heap[b]?=some (.cells cs e fr):=hb
  have hf:w.frozen? ⟨b,off+i,none⟩=false:=by
   have:=hfr (off+i) (by omega)
   simp only [World.frozen?,hb']
   simp only [not_and,Nat.not_lt] at this
   by_cases h:fr.1≤off+i
   ·have:=this h;simp [h];omega
   ·simp [h]
  have hs:w.setCell ⟨b,off+i,none⟩ v=w.setRow b (cs.setIfInBounds (off+i) v):=setCell_eq_setRow w b (off+i) cs e fr v hb'
  have hset:∀x:Array Value,hp (w.setRow b x) b=some (.cells x e fr):=fun x=>setRow_heap w b cs x e fr hb'
  simp only [storeCells,Sem.run_bind,Addr.add_off]
  rw [run_store P w _ v _ (h1 v (by simp)),hc]
  simp only [hf,Bool.false_eq_true,if_false,Result.andThen_ok]
  rw [hs,run_storeCells_free vs (i+1) (cs.setIfInBounds (off+i) v) _ off (hset _) (by simpa using hfr) (by simp;omega) (fun u hu=>h1 u (by simp [hu]))]
  congr 1
  simp only [reduceCtorEq,if_false]
  split
  ·rename_i hv;subst hv
   congr 1
   apply Array.ext'
   simp only [written,Array.toList_setIfInBounds,List.length_cons,List.length_nil,Nat.zero_add]
   rw [List.set_eq_take_append_cons_drop,if_pos (by simp;omega)]
   simp
  ·rw [setRow_setRow]
   congr 1
   apply Array.ext'
   simp only [written,Array.toList_setIfInBounds,List.length_cons]
   rw [List.set_eq_take_append_cons_drop,if_pos (by simp;omega)]
   have e1:(cs.toList.take (off+i)).length=off+i:=by simp;omega
   rw [show off+(i+1)=(cs.toList.take (off+i)).length+1 by rw [e1];omega,List.take_length_add_append]
   rw [show (cs.toList.take (off+i)).length+1+vs.length=(cs.toList.take (off+i)).length+(1+vs.length) by omega,List.drop_length_add_append]
   simp only [List.take_succ_cons,List.take_zero,List.append_assoc,List.cons_append,List.nil_append]
   rw [show 1+vs.length=vs.length+1 by omega,List.drop_succ_cons,List.drop_drop]
   rw [show off+i+1+vs.length=off+i+(vs.length+1) by omega]

end

end Go.Av
