/- ABSTRACT VALUES: what they stand for in memory. -/
import Derived.Test.YtniibgdokfnomaaGreatAvA
import Derived.Lib.LaidTab
import Derived.Lib.ItoaNum
namespace Go.Av
open Go Go.RowKit
set_option linter.unusedSimpArgs false
set_option linter.unusedVariables false

theorem beq_ne {u t:Nat} (h:u≠t):Nat.beq u t=false:=by
 cases e:Nat.beq u t with
 | false=>rfl
 | true=>exact absurd (Nat.eq_of_beq_eq_true e) h

def free (fr:Nat×Nat) (n:Nat):Prop:=∀i,i<n→¬ (fr.1≤i∧i<fr.2)
/-- .. nor is the mark of a string's bytes behind the last cell, where a row has two cells or more -/
def freeK (k:Nat) (fr:Nat×Nat) (n:Nat):Prop:=∀i,i<n+min (k - 1) 1→¬ (fr.1≤i∧i<fr.2)
theorem freeK.weak {k:Nat} {fr:Nat×Nat} {n:Nat} (h:freeK k fr n):free fr n:=fun i hi=>h i (by omega)

/-- A datum in memory; S: the blocks that are never written any more. -/
inductive Data (S:Nat→Prop) (h:Nat→Option Obj):D→Value→Prop
 | v (x:Value) (hx:x.oneCell'=true):Data S h (.v x) x
 | nil (k:Nat) (oa:Option Addr) (cap:Nat):Data S h (.sl k []) (.slice oa 0 cap)
 | sl (k:Nat) (rows:List (List D)) (b off cap:Nat) (cs:Array Value) (e:TypeId) (fr:Nat×Nat) (hS:S b) (hb:h b=some (.cells cs e fr)) (hk:0<k)
   (hrow:∀r∈rows,r.length=k) (hcap:rows.length≤cap) (hfit:off+rows.length * k≤cs.size)
   (hin:∀i,i<rows.length * k→Data S h (rows.flatten.getD i default) (cs.getD (off+i) undef)):
   Data S h (.sl k rows) (.slice (some ⟨b,off,none⟩) rows.length cap)

/-- A datum whose slices lie each in a block of its own: fp. -/
inductive Own (h:Nat→Option Obj):D→Value→List Nat→Prop
 | v (x:Value) (hx:x.oneCell'=true):Own h (.v x) x []
 | nil (k:Nat) (oa:Option Addr):Own h (.sl k []) (.slice oa 0 0) []
 | sl (k:Nat) (rows:List (List D)) (b cap:Nat) (cs:Array Value) (e:TypeId) (fr:Nat×Nat) (fps:List (List Nat)) (hb:h b=some (.cells cs e fr)) (hfr:freeK k fr cs.size) (hk:0<k)
   (hrow:∀r∈rows,r.length=k) (hcap:rows.length≤cap) (hmax:cap≤maxLen) (hsz:cs.size=cap * k) (hfl:fps.length=rows.length * k)
   (hin:∀i,i<rows.length * k→Own h (rows.flatten.getD i default) (cs.getD i undef) (fps.getD i [])):
   Own h (.sl k rows) (.slice (some ⟨b,0,none⟩) rows.length cap) (b::fps.flatten)

theorem Data.mono {S S':Nat→Prop} {h h':Nat→Option Obj} (hs:∀b,S b→S' b) (hh:∀b,S b→h' b=h b) {d:D} {v:Value} (H:Data S h d v):Data S' h' d v:=by
 induction H with
 | v x hx=>exact .v x hx
 | nil k oa cap=>exact .nil k oa cap
 | sl k rows b off cap cs e fr hS hb hk hrow hcap hfit hin ih=>exact .sl k rows b off cap cs e fr (hs b hS) (by rw [hh b hS];exact hb) hk hrow hcap hfit ih

theorem mem_flatten_of_getD {fps:List (List Nat)} {i b:Nat} (h:b∈fps.getD i []):b∈fps.flatten:=by
 rw [List.getD_eq_getElem?_getD] at h
 cases hg:fps[i]? with
 | none=>rw [hg] at h;cases h
 | some l=>rw [hg] at h;exact List.mem_flatten.2 ⟨l,List.mem_of_getElem? hg,h⟩

theorem Own.mono {h h':Nat→Option Obj} {d:D} {v:Value} {fp:List Nat} (H:Own h d v fp) (hh:∀b∈fp,h' b=h b):Own h' d v fp:=by
 induction H with
 | v x hx=>exact .v x hx
 | nil k oa=>exact .nil k oa
 | sl k rows b cap cs e fr fps hb hfr hk hrow hcap hmax hsz hfl hin ih=>
  exact .sl k rows b cap cs e fr fps (by rw [hh b (by simp)];exact hb) hfr hk hrow hcap hmax hsz hfl
   fun i hi=>ih i hi fun b' hb'=>hh b' (List.mem_cons_of_mem _ (mem_flatten_of_getD hb'))

theorem Own.data {S:Nat→Prop} {h:Nat→Option Obj} {d:D} {v:Value} {fp:List Nat} (H:Own h d v fp) (hs:∀b∈fp,S b):Data S h d v:=by
 induction H with
 | v x hx=>exact .v x hx
 | nil k oa=>exact .nil k oa 0
 | sl k rows b cap cs e fr fps hb hfr hk hrow hcap hmax hsz hfl hin ih=>
  exact .sl k rows b 0 cap cs e fr (hs b (by simp)) hb hk hrow hcap (by rw [hsz,Nat.zero_add];exact Nat.mul_le_mul_right _ hcap)
   fun i hi=>by rw [Nat.zero_add];exact ih i hi fun b' hb'=>hs b' (List.mem_cons_of_mem _ (mem_flatten_of_getD hb'))

theorem Data.one {S:Nat→Prop} {h:Nat→Option Obj} {d:D} {v:Value} (H:Data S h d v):v.oneCell'=true:=by
 cases H with
 | v x hx=>exact hx
 | nil=>rfl
 | sl=>rfl

theorem Own.one {h:Nat→Option Obj} {d:D} {v:Value} {fp:List Nat} (H:Own h d v fp):v.oneCell'=true:=by
 cases H with
 | v x hx=>exact hx
 | nil=>rfl
 | sl=>rfl

theorem Own.block {h:Nat→Option Obj} {d:D} {v:Value} {fp:List Nat} (H:Own h d v fp):∀b∈fp,∃o,h b=some o:=by
 induction H with
 | v x hx=>intro b hb;cases hb
 | nil k oa=>intro b hb;cases hb
 | sl k rows b cap cs e fr fps hb hfr hk hrow hcap hmax hsz hfl hin ih=>
  intro b' hb'
  rcases List.mem_cons.1 hb' with rfl | hb'
  ·exact ⟨_,hb⟩
  ·obtain ⟨l,hl,hb'⟩:=List.mem_flatten.1 hb'
   obtain ⟨i,hi,rfl⟩:=List.mem_iff_getElem.1 hl
   exact ih i (by omega) b' (by rw [List.getD_eq_getElem?_getD,List.getElem?_eq_getElem hi];exact hb')

/-- an object's place: the value that names it, its block, the size of its rows, the blocks that are its own -/
structure OG where
 v:Value
 b:Nat
 k:Nat
 foot:List Nat
 len:Nat
 hd:Nat→Value

abbrev noHd:Nat→Value:=fun _=>undef
/-- an abstract value in memory -/
inductive RV (S:Nat→Prop) (h:Nat→Option Obj) (g:Nat→OG) (m:Nat→Option AO) (L:Nat→Prop):AV→Value→Prop
 | any (v:Value):RV S h g m L .any v
 | nil (k:Nat):RV S h g m L (.nil k) (.slice none 0 0)
 | d (x:D) (v:Value) (hd:Data S h x v):RV S h g m L (.d x) v
 | dp (row:List D) (j b off:Nat) (cs:Array Value) (e:TypeId) (fr:Nat×Nat) (hS:S b) (hb:h b=some (.cells cs e fr)) (hfit:off+row.length≤cs.size)
   (hin:∀i,i<row.length→Data S h (row.getD i default) (cs.getD (off+i) undef)):RV S h g m L (.dp row j) (.pointer (some ⟨b,off+j,none⟩))
 | ptr (o i j:Nat) (v:Value) (ho:L o) (h1:v.oneCell'=true) (hv:m o≠none→v=.pointer (some ⟨(g o).b,i * (g o).k+j,none⟩)∧i<(g o).len):RV S h g m L (.ptr o i j) v
 | sl (o:Nat) (v:Value) (ho:L o) (h1:v.oneCell'=true) (hv:m o≠none→v=(g o).v):RV S h g m L (.sl o) v
 | sub (o lo n:Nat) (v:Value) (ho:L o) (h1:v.oneCell'=true)
   (hv:m o≠none→lo+n≤(g o).len∧∃oa cap,v=.slice oa n cap∧n≤cap∧(n=0∨oa=some ⟨(g o).b,lo * (g o).k,none⟩)):RV S h g m L (.sub o lo n) v
 | cel (o i j:Nat) (v:Value) (ho:L o) (h1:v.oneCell'=true) (hv:m o≠none→v=(g o).hd (i * (g o).k+j)∧i<(g o).len):RV S h g m L (.cel o i j) v
 | agg (cs:List AV) (vs:List Value) (hl:vs.length=cs.length) (h1:∀v∈vs,v.oneCell'=true)
   (hin:∀i,i<cs.length→RV S h g m L (cs.getD i .any) (vs.getD i undef)):RV S h g m L (.agg cs) (.agg ⟨vs⟩)
 | tup (cs:List AV) (vs:List Value) (hl:vs.length=cs.length)
   (hin:∀i,i<cs.length→RV S h g m L (cs.getD i .any) (vs.getD i undef)):RV S h g m L (.tup cs) (.tuple ⟨vs⟩)
 | fn (f:FuncId) (cs:List AV) (vs:List Value) (hl:vs.length=cs.length)
   (hin:∀i,i<cs.length→RV S h g m L (cs.getD i .any) (vs.getD i undef)):RV S h g m L (.fn f cs) (.func (.func f) #[] ⟨vs⟩)

/-- what can be told of objects and memory goes on: more blocks are still, no live object has moved -/
structure Step (S S':Nat→Prop) (h h':Nat→Option Obj) (g g':Nat→OG) (m m':Nat→Option AO) (L L':Nat→Prop):Prop where
 s:∀b,S b→S' b
 h:∀b,S b→h' b=h b
 g:∀o,L o→m' o≠none→(g' o).v=(g o).v∧((g o).len≠0→(g' o).b=(g o).b)∧(g' o).k=(g o).k∧(g' o).len=(g o).len∧((g o).len≠0→(g' o).hd=(g o).hd)
 m:∀o,L o→m' o≠none→m o≠none
 nx:∀o,L o→L' o

theorem RV.step {S S':Nat→Prop} {h h':Nat→Option Obj} {g g':Nat→OG} {m m':Nat→Option AO} {L L':Nat→Prop} (st:Step S S' h h' g g' m m' L L') {a:AV} {v:Value}
  (H:RV S h g m L a v):RV S' h' g' m' L' a v:=by
 induction H with
 | any v=>exact .any v
 | nil k=>exact .nil k
 | d x v hd=>exact .d x v (hd.mono st.s st.h)
 | dp row j b off cs e fr hS hb hfit hin=>exact .dp row j b off cs e fr (st.s b hS) (by rw [st.h b hS];exact hb) hfit fun i hi=>(hin i hi).mono st.s st.h
 | ptr o i j v ho h1 hv=>
  refine .ptr o i j v (st.nx o ho) h1 fun hm=>?_
  obtain ⟨_,e2,e3,e4,_⟩:=st.g o ho hm
  obtain ⟨hv,hi⟩:=hv (st.m o ho hm)
  rw [e2 (by omega),e3,e4];exact ⟨hv,hi⟩
 | sl o v ho h1 hv=>
  refine .sl o v (st.nx o ho) h1 fun hm=>?_
  obtain ⟨e1,_,_,_,_⟩:=st.g o ho hm
  rw [e1];exact hv (st.m o ho hm)
 | cel o i j v ho h1 hv=>
  refine .cel o i j v (st.nx o ho) h1 fun hm=>?_
  obtain ⟨_,_,e3,e4,e5⟩:=st.g o ho hm
  obtain ⟨hv,hi⟩:=hv (st.m o ho hm)
  rw [e3,e4,e5 (by omega)];exact ⟨hv,hi⟩
 | sub o lo n v ho h1 hv=>
  refine .sub o lo n v (st.nx o ho) h1 fun hm=>?_
  obtain ⟨_,e2,e3,e4,_⟩:=st.g o ho hm
  obtain ⟨hle,oa,cap,hv,hn,ha⟩:=hv (st.m o ho hm)
  rw [e3,e4]
  refine ⟨hle,oa,cap,hv,hn,ha.elim .inl fun ha=>?_⟩
  by_cases h0:n=0
  ·exact .inl h0
  ·rw [e2 (by omega)];exact .inr ha
 | agg cs vs hl h1 hin ih=>exact .agg cs vs hl h1 ih
 | tup cs vs hl hin ih=>exact .tup cs vs hl ih
 | fn f cs vs hl hin ih=>exact .fn f cs vs hl ih

/-- strconv's table of powers, where the program has it -/
def Wld (P:Program) (w:World):Prop:=∀g,P.globalNamed "internal/strconv.uint64pow10" = some g→Lib.TabIs P w "internal/strconv.uint64pow10" .u64 Lib.pow10Tab
/-- what is known of a world at a program: its variables are as in a world that is shaped, and lie in U -/
def Inv (P:Program) (w:World) (U:Nat→Prop):Prop:=∃w':World,(w'.ShapedOpen P∧Wld P w')∧∀g o,g<P.globals.size→w'.heap[g]?=some o→w.heap[g]?=some o∧U g
theorem global_lt {P:Program} {n:String} {g:Nat} (h:P.globalNamed n=some g):g<P.globals.size:=by
 unfold Program.globalNamed at h
 split at h
 ·rename_i hx
  cases h
  have:g∈(List.range P.globals.size).filter fun g=>(P.globals[g]?).any (·.name == n):=by rw [hx];simp
  simpa using (List.mem_filter.1 this).1
 ·cases h
/-- the table is there -/
theorem Inv.tab {P:Program} {w:World} {U:Nat→Prop} (h:Inv P w U) {g:Nat} (hg:P.globalNamed "internal/strconv.uint64pow10" = some g):Lib.TabIs P w "internal/strconv.uint64pow10" .u64 Lib.pow10Tab:=by
 obtain ⟨w1,⟨_,h2⟩,h3⟩:=h
 have h2:=h2 g hg
 unfold Lib.TabIs World.var? at h2 ⊢
 rw [hg] at h2 ⊢
 simp only [Option.bind_some] at h2 ⊢
 split at h2
 ·rename_i cs t fr hc
  rw [(h3 g _ (global_lt hg) hc).1]
  exact h2
 ·cases h2
theorem Inv.keep {P:Program} {w w':World} {U:Nat→Prop} (h:Inv P w U) (hb:∀b,U b→w'.heap[b]?=w.heap[b]?):Inv P w' U:=by
 obtain ⟨w1,h2,h3⟩:=h
 exact ⟨w1,h2,fun g o hg ho=>by obtain ⟨q1,q2⟩:=h3 g o hg ho;exact ⟨(hb g q2).trans q1,q2⟩⟩
theorem Inv.mono {P:Program} {w:World} {U U':Nat→Prop} (h:Inv P w U) (hu:∀g,g<w.heap.size→U g→U' g):Inv P w U':=by
 obtain ⟨w1,h2,h3⟩:=h
 refine ⟨w1,h2,fun g o hg ho=>?_⟩
 obtain ⟨q1,q2⟩:=h3 g o hg ho
 exact ⟨q1,hu g (Array.getElem?_eq_some_iff.1 q1).1 q2⟩

/-- THE FRAME OF A CALL: U: the blocks that it leaves alone; S0: those of them that are still; γ: the values that it was handed, kept in mind. -/
structure Fr where
 U:Nat→Prop
 S0:Nat→Prop
 γ:List Value
 H:Nat→Option (Nat→Value)
 I:Program→Prop

/-- what is left alone is as it was -/
structure Keep (B:Fr) (w w':World):Prop where
 os:w'.os=w.os
 tape:w'.tape=w.tape
 output:w'.output=w.output
 size:w.heap.size≤w'.heap.size
 block:∀k,B.U k→w'.heap[k]?=w.heap[k]?

theorem Keep.refl (B:Fr) (w:World):Keep B w w:=⟨rfl,rfl,rfl,Nat.le_refl _,fun _ _=>rfl⟩
theorem Keep.trans {B:Fr} {a b c:World} (h:Keep B a b) (k:Keep B b c):Keep B a c:=
 ⟨k.os.trans h.os,k.tape.trans h.tape,k.output.trans h.output,Nat.le_trans h.size k.size,fun i hi=>(k.block i hi).trans (h.block i hi)⟩
theorem Keep.of {B:Fr} {n:Nat} {w w':World} (h:Below n w w') (hB:∀b,B.U b→b<n):Keep B w w':=⟨h.os,h.tape,h.output,h.size,fun k hk=>h.block k (hB k hk)⟩

/-- an object in memory -/
inductive RO (S:Nat→Prop) (h:Nat→Option Obj) (g:Nat→OG) (m:Nat→Option AO) (L:Nat→Prop) (B:Fr):OG→AO→Prop
 | box (cs:List AV) (b:Nat) (vs:List Value) (e:TypeId) (fr:Nat×Nat) (hb:h b=some (.cells ⟨vs⟩ e fr)) (hfr:free fr vs.length) (hl:vs.length=cs.length) (h1:∀v∈vs,v.oneCell'=true)
   (hin:∀i,i<cs.length→RV S h g m L (cs.getD i .any) (vs.getD i undef)) (hB:¬ B.U b) (hS:¬ S b):RO S h g m L B ⟨.pointer (some ⟨b,0,none⟩),b,0,[b],1,noHd⟩ (.box cs)
 | nil (k b:Nat) (own:Bool) (oa:Option Addr) (hk:0<k):RO S h g m L B ⟨.slice oa 0 0,b,k,[],0,noHd⟩ (.arr k [] own)
 | dnil {hd:Nat→Value} (k b:Nat) (oa:Option Addr) (hk:0<k):RO S h g m L B ⟨.slice oa 0 0,b,k,[],0,hd⟩ (.deep k [])
 | deep {hd:Nat→Value} (k:Nat) (rows:List (List D)) (b cap:Nat) (cs:Array Value) (e:TypeId) (fr:Nat×Nat) (fps:List (List Nat)) (hb:h b=some (.cells cs e fr)) (hfr:freeK k fr cs.size) (hk:0<k)
   (hrow:∀r∈rows,r.length=k) (hcap:rows.length≤cap) (hmax:cap≤maxLen) (hsz:cs.size=cap * k) (hfl:fps.length=rows.length * k)
   (hin:∀i,i<rows.length * k→Own h (rows.flatten.getD i default) (cs.getD i undef) (fps.getD i [])) (hhd:∀i k' rows',i<rows.length * k→rows.flatten.getD i default=.sl k' rows'→cs.getD i undef=hd i)
   (hB:∀b'∈b::fps.flatten,¬ B.U b'∧¬ S b') (hH:rows.length≠0→∀f,B.H b=some f→hd=f):RO S h g m L B ⟨.slice (some ⟨b,0,none⟩) rows.length cap,b,k,b::fps.flatten,rows.length,hd⟩ (.deep k rows)
 | arr (k:Nat) (rows:List (List D)) (own:Bool) (b cap:Nat) (cs:Array Value) (e:TypeId) (fr:Nat×Nat) (fps:List (List Nat)) (hb:h b=some (.cells cs e fr)) (hfr:freeK k fr cs.size) (hk:0<k)
   (hrow:∀r∈rows,r.length=k) (hcap:rows.length≤cap) (hmax:cap≤maxLen) (hsz:cs.size=cap * k)
   (hin:∀i,i<rows.length * k→Data S h (rows.flatten.getD i default) (cs.getD i undef))
   (hown:own=true→fps.length=rows.length * k∧(∀i,i<rows.length * k→Own h (rows.flatten.getD i default) (cs.getD i undef) (fps.getD i []))∧∀b'∈fps.flatten,S b')
   (hno:own=false→fps=[]) (hB:¬ B.U b) (hS:¬ S b):RO S h g m L B ⟨.slice (some ⟨b,0,none⟩) rows.length cap,b,k,b::fps.flatten,rows.length,noHd⟩ (.arr k rows own)
 | fro (k:Nat) (rows:List (List D)) (v:Value) (b:Nat) (hd:Data S h (.sl k rows) v) (hv:rows=[]∨∃cap,v=.slice (some ⟨b,0,none⟩) rows.length cap):RO S h g m L B ⟨v,b,k,[],rows.length,noHd⟩ (.fro k rows)
 | mp (l:List (Int×Int)) (b:Nat) (es:Array MapEntry) (clock:Nat) (hb:h b=some (.map es clock)) (he:es.toList.map (fun e=>(e.key,e.val))=l.map fun p=>(Value.int .i64 p.1,Value.int .i64 p.2)) (hB:¬ B.U b) (hS:¬ S b):
   RO S h g m L B ⟨.map (some b),b,0,[b],1,noHd⟩ (.mp l)
 | pin (cs:List AV) (G:OG) (hf:G.foot=[]) (hl:B.γ.length=cs.length) (hin:∀i,i<cs.length→RV S h g m L (cs.getD i .any) (B.γ.getD i undef)):RO S h g m L B G (.pin cs)

theorem RO.step {S S':Nat→Prop} {h h':Nat→Option Obj} {g g':Nat→OG} {m m':Nat→Option AO} {L L':Nat→Prop} {B:Fr} (st:Step S S' h h' g g' m m' L L') {x:OG} {a:AO}
  (H:RO S h g m L B x a) (hb:∀b∈x.foot,¬ S b→h' b=h b∧¬ S' b):RO S' h' g' m' L' B x a:=by
 cases H with
 | box cs b vs e fr hb' hfr hl h1 hin hB hS=>
  obtain ⟨e1,e2⟩:=hb b (by simp) hS
  exact .box cs b vs e fr (by rw [e1];exact hb') hfr hl h1 (fun i hi=>(hin i hi).step st) hB e2
 | nil k b own oa hk=>exact .nil k b own oa hk
 | dnil k b oa hk=>exact .dnil k b oa hk
 | deep k rows b cap cs e fr fps hb' hfr hk hrow hcap hmax hsz hfl hin hhd hB hH=>
  have same:∀b'∈b::fps.flatten,h' b'=h b'∧¬ S' b':=fun b' h1=>hb b' h1 (hB b' h1).2
  exact .deep k rows b cap cs e fr fps (by rw [(same b (by simp)).1];exact hb') hfr hk hrow hcap hmax hsz hfl
   (fun i hi=>(hin i hi).mono fun b' h1=>(same b' (List.mem_cons_of_mem _ (mem_flatten_of_getD h1))).1) hhd (fun b' h1=>⟨(hB b' h1).1,(same b' h1).2⟩) hH
 | arr k rows own b cap cs e fr fps hb' hfr hk hrow hcap hmax hsz hin hown hno hB hS=>
  obtain ⟨e1,e2⟩:=hb b (by simp) hS
  refine .arr k rows own b cap cs e fr fps (by rw [e1];exact hb') hfr hk hrow hcap hmax hsz (fun i hi=>(hin i hi).mono st.s st.h) (fun ho=>?_) hno hB e2
  obtain ⟨f1,f2,f3⟩:=hown ho
  exact ⟨f1,fun i hi=>(f2 i hi).mono fun b' hb'=>st.h b' (f3 b' (mem_flatten_of_getD hb')),fun b' hb'=>st.s b' (f3 b' hb')⟩
 | fro k rows v b hd hv=>exact .fro k rows v b (hd.mono st.s st.h) hv
 | mp l b es clock hb' he hB hS=>
  obtain ⟨e1,e2⟩:=hb b (by simp) hS
  exact .mp l b es clock (by rw [e1];exact hb') he hB e2
 | pin cs G hf hl hin=>exact .pin cs _ hf hl fun i hi=>(hin i hi).step st

abbrev hp (w:World):Nat→Option Obj:=fun b=>w.heap[b]?

/-- THE STATE IN MEMORY. B: where the call's own blocks begin; N: how many slots; X: blocks that are owned and lie in no object. -/
structure Rel (B:Fr) (N:Nat) (w₀:World) (L:Nat→Prop) (s:St) (a:Act) (w:World) (S:Nat→Prop) (g:Nat→OG) (X:List Nat):Prop where
 below:Keep B w₀ w
 hB:∀b,B.U b→b<w.heap.size
 hH:∀b,B.H b≠none→b<w.heap.size
 inv:∀P,B.I P→Inv P w₀ B.U
 defers:a.defers=[]
 size:a.tmps.size=N
 env:∀t,RV S (hp w) g (find s.mem) L (look s.env t) (a.tmps.getD t undef)
 obj:∀o ao,find s.mem o=some ao→RO S (hp w) g (find s.mem) L B (g o) ao
 new:∀o,¬ L o→find s.mem o=none
 nodup:∀o,find s.mem o≠none→(g o).foot.Nodup
 bound:∀o,find s.mem o≠none→∀b∈(g o).foot,¬ B.U b∧b<w.heap.size
 apart:∀o o',o≠o'→find s.mem o≠none→find s.mem o'≠none→∀b∈(g o).foot,b∉(g o').foot
 still:∀b,S b→b<w.heap.size
 sub:∀b,S b→B.U b→B.S0 b
 xs:X.Nodup∧(∀b∈X,¬ B.U b∧S b)∧∀o,find s.mem o≠none→∀b∈(g o).foot,b∉X

theorem look_cons (t u:Nat) (v:AV) (r:List (Nat×AV)):look ((u,v)::r) t=if u=t then v else look r t:=by
 simp only [look]
 by_cases h:u=t
 ·subst h;simp
 ·simp [h,beq_ne h]

theorem find_cons (t u:Nat) (v:Option AO) (r:List (Nat×Option AO)):find ((u,v)::r) t=if u=t then v else find r t:=by
 simp only [find]
 by_cases h:u=t
 ·subst h;simp
 ·simp [h,beq_ne h]

theorem find_append (u m:List (Nat×Option AO)) (x:Nat):find (u++m) x=ovr u (find m) x:=by
 induction u with
 | nil=>rfl
 | cons p r ih=>obtain ⟨o,a⟩:=p;simp only [List.cons_append,find,ovr];cases Nat.beq o x <;> simp [ih]

theorem getD_put (a:Act) (d t:Nat) (v:Value) (h:d<a.tmps.size):(a.put (some d) v).tmps.getD t undef=if d=t then v else a.tmps.getD t undef:=by
 simp only [Act.put,Array.getD_eq_getD_getElem?,Array.getElem?_setIfInBounds]
 split
 ·rename_i e;subst e;simp
 ·rfl

theorem Rel.now {B:Fr} {N:Nat} {L:Nat→Prop} {w₀ w:World} {s:St} {a:Act} {S:Nat→Prop} {g:Nat→OG} {X:List Nat} (R:Rel B N w₀ L s a w S g X) {P:Program} (h:B.I P):Inv P w B.U:=
 (R.inv P h).keep R.below.block
/-- a slot takes a value -/
theorem Rel.put {B:Fr} {N:Nat} {L:Nat→Prop} {w₀ w:World} {s:St} {a:Act} {S:Nat→Prop} {g:Nat→OG} {X:List Nat} (R:Rel B N w₀ L s a w S g X) {d:Nat} (hd:d<N) {v:AV} {u:Value}
  (hv:RV S (hp w) g (find s.mem) L v u):Rel B N w₀ L ⟨(d,v)::s.env,s.mem,s.next⟩ (a.put (some d) u) w S g X where
 below:=R.below
 hB:=R.hB
 hH:=R.hH
 inv:=R.inv
 defers:=by simpa [Act.put] using R.defers
 size:=by simpa [Act.put] using R.size
 env:=fun t=>by
  rw [look_cons,getD_put a d t u (by rw [R.size];exact hd)]
  split
  ·exact hv
  ·exact R.env t
 obj:=R.obj
 new:=R.new
 nodup:=R.nodup
 bound:=R.bound
 apart:=R.apart
 still:=R.still
 sub:=R.sub
 xs:=R.xs

/-- more names -/
theorem Rel.more {B:Fr} {N:Nat} {L L':Nat→Prop} {w₀ w:World} {s:St} {a:Act} {S:Nat→Prop} {g:Nat→OG} {X:List Nat} (R:Rel B N w₀ L s a w S g X) (hn:∀o,L o→L' o):
  Rel B N w₀ L' s a w S g X:=by
 have st:Step S S (hp w) (hp w) g g (find s.mem) (find s.mem) L L':=⟨fun _ h=>h,fun _ _=>rfl,fun _ _ _=>⟨rfl,fun _=>rfl,rfl,rfl,fun _=>rfl⟩,fun _ _ h=>h,hn⟩
 exact { R with env:=fun t=>(R.env t).step st,obj:=fun o ao h=>(R.obj o ao h).step st (fun b _ hs=>⟨rfl,hs⟩),new:=fun o ho=>R.new o (fun h=>ho (hn o h)) }

theorem Rel.next {B:Fr} {N:Nat} {L:Nat→Prop} {w₀ w:World} {s:St} {a:Act} {S:Nat→Prop} {g:Nat→OG} {X:List Nat} (R:Rel B N w₀ L s a w S g X) (n:Nat):
  Rel B N w₀ L ⟨s.env,s.mem,n⟩ a w S g X:={ R with }


/-- the world goes on, and all that was there stays -/
theorem Rel.world {B:Fr} {N:Nat} {L:Nat→Prop} {w₀ w w':World} {s:St} {a:Act} {S:Nat→Prop} {g:Nat→OG} {X:List Nat} (R:Rel B N w₀ L s a w S g X) (hw:Below w.heap.size w w'):
  Rel B N w₀ L s a w' S g X:=by
 have st:Step S S (hp w) (hp w') g g (find s.mem) (find s.mem) L L:=
  ⟨fun _ h=>h,fun b hb=>hw.block b (R.still b hb),fun _ _ _=>⟨rfl,fun _=>rfl,rfl,rfl,fun _=>rfl⟩,fun _ _ h=>h,fun _ h=>h⟩
 exact { R with
  below:=R.below.trans (.of hw R.hB)
  hB:=fun b hb=>Nat.lt_of_lt_of_le (R.hB b hb) hw.size
  hH:=fun b hb=>Nat.lt_of_lt_of_le (R.hH b hb) hw.size
  env:=fun t=>(R.env t).step st
  obj:=fun o ao h=>(R.obj o ao h).step st (fun b hb hs=>⟨hw.block b (R.bound o (by rw [h];simp) b hb).2,hs⟩)
  bound:=fun o h b hb=>⟨(R.bound o h b hb).1,Nat.lt_of_lt_of_le (R.bound o h b hb).2 hw.size⟩
  still:=fun b hb=>Nat.lt_of_lt_of_le (R.still b hb) hw.size }

/-- blocks more are still -/
theorem Rel.grow {B:Fr} {N:Nat} {L:Nat→Prop} {w₀ w:World} {s:St} {a:Act} {S S':Nat→Prop} {g:Nat→OG} {X:List Nat} (R:Rel B N w₀ L s a w S g X) (hs:∀b,S b→S' b) (hb:∀b,S' b→S b∨(¬ B.U b∧b<w.heap.size))
  (hn:∀o,find s.mem o≠none→∀b∈(g o).foot,¬ S b→¬ S' b):Rel B N w₀ L s a w S' g X:=by
 have st:Step S S' (hp w) (hp w) g g (find s.mem) (find s.mem) L L:=⟨hs,fun _ _=>rfl,fun _ _ _=>⟨rfl,fun _=>rfl,rfl,rfl,fun _=>rfl⟩,fun _ _ h=>h,fun _ h=>h⟩
 exact { R with
  env:=fun t=>(R.env t).step st
  obj:=fun o ao h=>(R.obj o ao h).step st (fun b hb' hs'=>⟨rfl,hn o (by rw [h];simp) b hb' hs'⟩)
  still:=fun b h=>(hb b h).elim (R.still b) (·.2)
  sub:=fun b h hu=>(hb b h).elim (fun h=>R.sub b h hu) (fun h=>absurd hu h.1)
  xs:=⟨R.xs.1,fun b hb=>⟨(R.xs.2.1 b hb).1,hs b (R.xs.2.1 b hb).2⟩,R.xs.2.2⟩ }

def setG (g:Nat→OG) (o:Nat) (G:OG):Nat→OG:=fun x=>if x=o then G else g x
theorem setG_same {g:Nat→OG} {o:Nat} {G:OG}:setG g o G o=G:=by simp [setG]
theorem setG_ne {g:Nat→OG} {o x:Nat} {G:OG} (h:x≠o):setG g o G x=g x:=by simp [setG,h]

/-- an object is turned (or laid, or dropped); memory turns nowhere but in its own block -/
theorem Rel.turnW {B:Fr} {N:Nat} {L L':Nat→Prop} {w₀ w w':World} {s:St} {a:Act} {S S':Nat→Prop} {g:Nat→OG} {X X':List Nat} (R:Rel B N w₀ L s a w S g X) (hw:Keep B w w') (hag:∀b,S b→hp w' b=hp w b) (o:Nat) (hoth:∀o',o'≠o→find s.mem o'≠none→∀b∈(g o').foot,hp w' b=hp w b) (G:OG) (new:Option AO)
  (hs:∀b,S b→S' b) (hb:∀b,S' b→S b∨(¬ B.U b∧b<w'.heap.size)) (hL:∀x,L x→L' x) (ho:new≠none→L' o)
  (hG:new≠none→L o→find s.mem o≠none→G.v=(g o).v∧G.b=(g o).b∧G.k=(g o).k∧G.len=(g o).len∧G.hd=(g o).hd)
  (hdead:new≠none→L o→find s.mem o≠none)
  (hkeep:∀o',o'≠o→find s.mem o'≠none→∀b∈(g o').foot,¬ S b→¬ S' b)
  (hRO:∀ao,new=some ao→RO S' (hp w') (setG g o G) (find ((o,new)::s.mem)) L' B G ao)
  (hfoot:new≠none→G.foot.Nodup∧∀b∈G.foot,¬ B.U b∧b<w'.heap.size)
  (hap:new≠none→∀o',o'≠o→find s.mem o'≠none→∀b∈G.foot,b∉(g o').foot)
  (hX:X'.Nodup∧(∀b∈X',¬ B.U b∧S' b)∧(∀o',o'≠o→find s.mem o'≠none→∀b∈(g o').foot,b∉X')∧(new≠none→∀b∈G.foot,b∉X')):
  Rel B N w₀ L' ⟨s.env,(o,new)::s.mem,s.next⟩ a w' S' (setG g o G) X':=by
 have fnd:∀x,find ((o,new)::s.mem) x=if o=x then new else find s.mem x:=fun x=>find_cons x o new s.mem
 have fo:find ((o,new)::s.mem) o=new:=by rw [fnd];simp
 have fne:∀x,x≠o→find ((o,new)::s.mem) x=find s.mem x:=fun x hx=>by rw [fnd,if_neg (fun e=>hx e.symm)]
 have gne:∀x,x≠o→setG g o G x=g x:=fun x hx=>setG_ne hx
 have st:Step S S' (hp w) (hp w') g (setG g o G) (find s.mem) (find ((o,new)::s.mem)) L L':=by
  refine ⟨hs,hag,fun x hx hm=>?_,fun x hx hm=>?_,hL⟩
  ·by_cases e:x=o
   ·subst e;rw [fo] at hm;rw [setG_same];obtain ⟨q1,q2,q3,q4,q5⟩:=hG hm hx (hdead hm hx);exact ⟨q1,fun _=>q2,q3,q4,fun _=>q5⟩
   ·rw [setG_ne e];exact ⟨rfl,fun _=>rfl,rfl,rfl,fun _=>rfl⟩
  ·by_cases e:x=o
   ·subst e;rw [fo] at hm;exact hdead hm hx
   ·rw [fne x e] at hm;exact hm
 refine { below:=R.below.trans hw,hB:=fun b hb=>Nat.lt_of_lt_of_le (R.hB b hb) hw.size,hH:=fun b hb=>Nat.lt_of_lt_of_le (R.hH b hb) hw.size,inv:=R.inv,defers:=R.defers,size:=R.size,env:=fun t=>(R.env t).step st,obj:=?_,new:=?_,nodup:=?_,bound:=?_,apart:=?_,still:=fun b h=>(hb b h).elim (fun h=>Nat.lt_of_lt_of_le (R.still b h) hw.size) (·.2),sub:=fun b h hu=>(hb b h).elim (fun h=>R.sub b h hu) (fun h=>absurd hu h.1),xs:=?_ }
 ·intro x ao hx
  replace hx:find ((o,new)::s.mem) x=some ao:=hx
  show RO S' (hp w') (setG g o G) (find ((o,new)::s.mem)) L' B (setG g o G x) ao
  by_cases e:x=o
  ·subst e;rw [fo] at hx;rw [setG_same];exact hRO ao hx
  ·have hx':find s.mem x=some ao:=by rw [← fne x e];exact hx
   rw [gne x e]
   exact (R.obj x ao hx').step st (fun b hb' hs'=>⟨hoth x e (by rw [hx'];simp) b hb',hkeep x e (by rw [hx'];simp) b hb' hs'⟩)
 ·intro x hx
  by_cases e:x=o
  ·subst e
   show find ((x,new)::s.mem) x=none
   rw [fo]
   cases new with
   | none=>rfl
   | some ao=>exact absurd (ho (by simp)) hx
  ·show find ((o,new)::s.mem) x=none
   rw [fne x e];exact R.new x (fun h=>hx (hL x h))
 ·intro x hx
  replace hx:find ((o,new)::s.mem) x≠none:=hx
  by_cases e:x=o
  ·subst e;rw [fo] at hx;rw [setG_same];exact (hfoot hx).1
  ·rw [fne x e] at hx;rw [gne x e];exact R.nodup x hx
 ·intro x hx
  replace hx:find ((o,new)::s.mem) x≠none:=hx
  by_cases e:x=o
  ·subst e;rw [fo] at hx;rw [setG_same];exact (hfoot hx).2
  ·rw [fne x e] at hx;rw [gne x e];exact fun b hb=>⟨(R.bound x hx b hb).1,Nat.lt_of_lt_of_le (R.bound x hx b hb).2 hw.size⟩
 ·intro x y hxy hx hy
  replace hx:find ((o,new)::s.mem) x≠none:=hx
  replace hy:find ((o,new)::s.mem) y≠none:=hy
  by_cases e:x=o
  ·subst e
   rw [fo] at hx
   have e':y≠x:=fun h=>hxy h.symm
   rw [fne y e'] at hy;rw [gne y e']
   rw [setG_same];exact hap hx y e' hy
  ·rw [fne x e] at hx;rw [gne x e]
   by_cases e':y=o
   ·subst e'
    rw [fo] at hy
    intro b hb hb'
    rw [setG_same] at hb'
    exact hap hy x e hx b hb' hb
   ·rw [fne y e'] at hy;rw [gne y e'];exact R.apart x y hxy hx hy
 ·refine ⟨hX.1,hX.2.1,fun x hx=>?_⟩
  replace hx:find ((o,new)::s.mem) x≠none:=hx
  by_cases e:x=o
  ·subst e;rw [fo] at hx;rw [setG_same];exact hX.2.2.2 hx
  ·rw [fne x e] at hx;rw [gne x e];exact hX.2.2.1 x e hx

theorem Rel.turn {B:Fr} {N:Nat} {L L':Nat→Prop} {w₀ w:World} {s:St} {a:Act} {S S':Nat→Prop} {g:Nat→OG} {X X':List Nat} (R:Rel B N w₀ L s a w S g X) (o:Nat) (G:OG) (new:Option AO)
  (hs:∀b,S b→S' b) (hb:∀b,S' b→S b∨(¬ B.U b∧b<w.heap.size)) (hL:∀x,L x→L' x) (ho:new≠none→L' o)
  (hG:new≠none→L o→find s.mem o≠none→G.v=(g o).v∧G.b=(g o).b∧G.k=(g o).k∧G.len=(g o).len∧G.hd=(g o).hd)
  (hdead:new≠none→L o→find s.mem o≠none)
  (hkeep:∀o',o'≠o→find s.mem o'≠none→∀b∈(g o').foot,¬ S b→¬ S' b)
  (hRO:∀ao,new=some ao→RO S' (hp w) (setG g o G) (find ((o,new)::s.mem)) L' B G ao)
  (hfoot:new≠none→G.foot.Nodup∧∀b∈G.foot,¬ B.U b∧b<w.heap.size)
  (hap:new≠none→∀o',o'≠o→find s.mem o'≠none→∀b∈G.foot,b∉(g o').foot)
  (hX:X'.Nodup∧(∀b∈X',¬ B.U b∧S' b)∧(∀o',o'≠o→find s.mem o'≠none→∀b∈(g o').foot,b∉X')∧(new≠none→∀b∈G.foot,b∉X')):
  Rel B N w₀ L' ⟨s.env,(o,new)::s.mem,s.next⟩ a w S' (setG g o G) X':=
 R.turnW (Keep.refl _ _) (fun _ _=>rfl) o (fun _ _ _ _ _=>rfl) G new hs hb hL ho hG hdead hkeep hRO hfoot hap hX

end Go.Av
