/- ABSTRACT VALUES: a law's contract, from what its function does. -/
import Derived.Test.YtniibgdokfnomaaGreatAvBa
import Derived.ReadAgain
import Derived.SizedLaws
import Derived.WideLaws
import Derived.ChangeOld
import Derived.ShutString
namespace Go.Av
open Go Go.RowKit Go.ChangeShapes Go.WideShapes
set_option linter.unusedSimpArgs false
set_option linter.unusedVariables false

/-- an argument that a law may be given -/
def argWf (T:Tab) (t:TypeId) (dv:DV):Prop:=
 match T.get t,tysOf T 20 t with
 | some i,some tys=>match i.isAgg with
  | true=>∃row,dv=.agg row∧WfR tys row
  | false=>∃d,dv=.one d∧WfR tys [d]
 | _,_=>False

def ArgsWf (T:Tab):List TypeId→List DV→Prop
 | [],ds=>ds=[]
 | t::ts,ds=>∃d r,ds=d::r∧argWf T t d∧ArgsWf T ts r

/-- each parameter's type stands in the table -/
def parB (P:Program) (T:Tab):List TypeId→Bool
 | []=>true
 | t::ts=>Nat.blt t P.types.size && (match T.get t,tysOf T 20 t with | some _,some _=>true | _,_=>false) && parB P T ts

section
variable {H:Type} {enc:TypeId×Value→H} {P:Program} {T:Tab} {w:World} {sp:Nat→Bool} {held:Bool}

theorem cells_one {v:Value} (h:v.oneCell'=true):v.cells.toList=[v]:=by
 cases v <;> first | rfl | simp [Value.oneCell'] at h

theorem arg_reads (hT:TOk P T) {t:TypeId} {i:TI} {tys:List Ty} (hi:T.get t=some i) (ht:tysOf T 20 t=some tys) {base:Nat} {v:Value} {d:DataW H} {p:List MemPlace} (hv:Value.okWide P w .any base t v)
  (hd:DataW.Trod enc P w 0 sp held t v d p):∃dv,argWf T t dv∧DataV (·<w.heap.size) (hp w) dv v:=by
 obtain ⟨fuel,hd⟩:=hd
 obtain ⟨⟨ds,l1,w1,r1⟩,_⟩:=reads_of hT 20 t tys ht fuel _ _ hd
 have HT:=hT t i hi
 obtain ⟨dd,hu,hdesc⟩:=HT.under
 cases hagg:i.isAgg with
 | false=>
  have h1:v.oneCell'=true:=by
   unfold Value.okWide at hv
   rw [hu] at hv
   unfold TI.isAgg at hagg
   cases htd:i.td <;> rw [htd] at hdesc hagg <;> simp only [DescOk] at hdesc
   case struct=>simp at hagg
   case other=>
    exfalso
    simp only [tysOf,hi,htd] at ht
    simp at ht
   all_goals (subst hdesc;simp only [Cell.okWide,Cell.ok,hu] at hv;cases v <;> simp_all [Value.oneCell'])
  rw [cells_one h1] at l1 r1
  match ds,l1 with
  | [x],_=>
   refine ⟨.one x,by unfold argWf;simp only [hi,ht,hagg];exact ⟨x,rfl,w1⟩,.d _ _ ?_⟩
   have:=r1 0 (by simp)
   simpa using this
 | true=>
  unfold TI.isAgg at hagg
  split at hagg
  ·rename_i fs htd
   rw [htd] at hdesc
   simp only [DescOk] at hdesc
   obtain ⟨fields,rfl,_⟩:=hdesc
   unfold Value.okWide at hv
   rw [hu] at hv
   obtain ⟨cs,rfl,_⟩:=hv
   obtain ⟨cs⟩:=cs
   have e:(Value.agg ⟨cs⟩).cells.toList=cs:=rfl
   rw [e] at l1 r1
   refine ⟨.agg ds,by unfold argWf;simp only [hi,ht,TI.isAgg,htd];exact ⟨ds,rfl,w1⟩,.agg _ _ (by simp [l1]) (fun v hv=>?_) (fun j hj=>?_)⟩
   ·obtain ⟨j,hj,rfl⟩:=List.mem_iff_getElem.1 hv
    have:=(r1 j hj).one
    rwa [List.getD_eq_getElem?_getD,List.getElem?_eq_getElem hj] at this
   ·simp only [List.length_map] at hj
    have e2:(ds.map AV.d).getD j .any=.d (ds.getD j default):=by
     simp [List.getD_eq_getElem?_getD,List.getElem?_eq_getElem hj]
    rw [e2]
    exact .d _ _ (r1 j (by omega))
  ·simp at hagg

theorem args_reads (hT:TOk P T) {base:Nat}:∀{ts:List TypeId} {vs:List Value} {ds:List (DataW H)} {p:List MemPlace},parB P T ts=true→DataW.TrodAll enc P w 0 sp held ts vs ds p→
  (∀(j:Nat) (t:TypeId) (v:Value),ts[j]?=some t→vs[j]?=some v→Value.okWide P w .any base t v)→∃dvs,ArgsWf T ts dvs∧ArgsV (·<w.heap.size) (hp w) dvs vs
 | [],vs,ds,p,_,h,_=>by
  obtain ⟨rfl,_,_⟩:=trodAll_nil h
  exact ⟨[],rfl,rfl,by simp⟩
 | t::ts,vs,ds,p,hb,h,hv=>by
  obtain ⟨v,vs',d,ds',p',q,rfl,rfl,rfl,h1,h2⟩:=trodAll_cons h
  simp only [parB,Bool.and_eq_true] at hb
  obtain ⟨⟨_,hb1⟩,hb2⟩:=hb
  split at hb1
  ·rename_i i tys hi ht
   obtain ⟨dv,q1,q2⟩:=arg_reads hT hi ht (hv 0 t v rfl rfl) h1
   obtain ⟨dvs,e1,e2,e3⟩:=args_reads hT hb2 h2 (fun j t v a b=>hv (j+1) t v (by simpa using a) (by simpa using b))
   refine ⟨dv::dvs,⟨dv,dvs,rfl,q1,e1⟩,by simp [e2],fun i hi=>?_⟩
   cases i with
   | zero=>simpa using q2
   | succ i=>simpa using e3 i (by simpa using hi)
  ·simp at hb1

theorem trodAll_again (K:Kids P (·<P.types.size)) (hz:∀t e,t<P.types.size→P.underlying t=some (.slice e)→0<P.cellsOf e) {w':World} (hb:Below w.heap.size w w') {ts:List TypeId} {vs:List Value} {ds:List (DataW H)} {p:List MemPlace}
  (hts:∀t∈ts,t<P.types.size) (h:DataW.TrodAll enc P w 0 (fun _=>true) true ts vs ds p):DataW.TrodAll enc P w' 0 (fun b=>decide (b<w.heap.size)) true ts vs ds p:=by
 have hlt:=DataW.TrodAll.lt h
 have h2:=DataW.TrodAll.respare (spare':=fun b=>decide (b<w.heap.size)) K hz hts h (fun q hq=>by simpa using hlt q hq)
 have carry:∀{ts:List TypeId} {vs:List Value} {ds:List (DataW H)} {p:List MemPlace},(∀q∈p,q.block<w.heap.size)→DataW.TrodAll enc P w 0 (fun b=>decide (b<w.heap.size)) true ts vs ds p→
   DataW.TrodAll enc P w' 0 (fun b=>decide (b<w.heap.size)) true ts vs ds p:=by
  intro ts
  induction ts with
  | nil=>
   intro vs ds p _ h
   obtain ⟨rfl,rfl,rfl⟩:=trodAll_nil h
   rfl
  | cons t ts ih=>
   intro vs ds p hp' h
   obtain ⟨v,vs',d,ds',p',q,rfl,rfl,rfl,⟨fuel,h1⟩,h2⟩:=trodAll_cons h
   exact ⟨p',q,⟨fuel,DataW.trod_carry fuel t _ _ h1 fun x hx=>hb.same (hp' x (List.mem_append_left _ hx))⟩,ih (fun x hx=>hp' x (List.mem_append_right _ hx)) h2,rfl⟩
 exact carry hlt h2

/-- where the program has no such table -/
theorem wld_none {P:Program} (h:P.globalNamed "internal/strconv.uint64pow10" = none) (w:World):Wld P w:=fun g hg=>by rw [h] at hg;cases hg

/-- a law that returns true and turns nothing -/
theorem law_contract {F:FuncId} {fn:Func} {s:ChangeSpec} (hT:TOk P T) (laid:laidOutB P=true) (rowed:mapsRowed P=true)
  (full:((List.range P.types.size).all fun t=>match P.underlying t with | some (.slice e)=>decide (0<P.cellsOf e) | _=>true)=true) (hpar:parB P T fn.params.toList=true)
  {rt:TypeId} (hres:fn.resultTypes=#[rt]) (hbool:P.underlying rt=some .bool) (hvars:s.vars=[])
  (hspec:∀ds:List (DataW H),ds.length=fn.params.toList.length→s.fn H ds={ results:=[.lit (.bool true)],args:=ds })
  (hpure:∀dvs,ArgsWf T fn.params.toList dvs→Pure P F dvs (.one (.b true)))
  (W:World) (base:Nat) (args:Array Value) (ds gs:List (DataW H)) (before:List MemPlace) (hval:∀(j:Nat) t v,fn.params[j]?=some t→args[j]?=some v→Value.okWide P W .any base t v)
  (hW:DataW.Whole enc P fn.params.toList s.vars false W args.toList ds gs before) (hsh:W.ShapedOpen P) (hwl:Wld P W):
  Calls P F args W fun e W'=>∃v,e=.returned v∧s.post enc P fn false true false false W args v W':=by
 have hW':=hW
 obtain ⟨p,q,hA,hV,rfl,hfz,hnd⟩:=hW
 rw [hvars] at hV
 obtain ⟨rfl,rfl⟩:=trodVars_none hV
 obtain ⟨dvs,hwf,hargs⟩:=args_reads hT hpar hA (fun j t v h1 h2=>hval j t v (by simpa using h1) (by simpa using h2))
 have hc:=(hpure dvs hwf).calls W args.toList ⟨W,⟨hsh,hwl⟩,fun _ _ _ h=>⟨h,trivial⟩⟩ hargs
 refine Calls.mono hc fun e W' he=>?_
 cases e with
 | returned v=>
  obtain ⟨hb,fp,ho,_⟩:=he
  have hv:v=.bool true:=by
   cases ho with | one _ _ _ h=>cases h;rfl
  subst hv
  have hlen:∀{ts:List TypeId} {vs:List Value} {ds:List (DataW H)} {p:List MemPlace},DataW.TrodAll enc P W 0 (fun _=>true) true ts vs ds p→ds.length=ts.length:=by
   intro ts
   induction ts with
   | nil=>intro vs ds p h;obtain ⟨_,rfl,_⟩:=trodAll_nil h;rfl
   | cons t ts ih=>
    intro vs ds p h
    obtain ⟨v,vs',d,ds',p',q,rfl,rfl,rfl,_,h2⟩:=trodAll_cons h
    simp [ih h2]
  have hsp:=hspec ds (hlen hA)
  have hts:∀t∈fn.params.toList,t<P.types.size:=by
   have:∀{ts:List TypeId},parB P T ts=true→∀t∈ts,t<P.types.size:=by
    intro ts
    induction ts with
    | nil=>intro _ t h;simp at h
    | cons u ts ih=>
     intro h t ht
     simp only [parB,Bool.and_eq_true,Nat.blt_eq] at h
     rcases List.mem_cons.1 ht with rfl | ht
     ·exact h.1.1
     ·exact ih h.2 t ht
   exact this hpar
  have hagain:=trodAll_again (kids_rows laid rowed) (slices_full_of P full) hb hts hA
  refine ⟨_,rfl,ds,[],_,[],p,[],hW',?_,?_,?_,hb.frame _,fun h=>by cases h⟩
  ·rw [List.append_nil,hsp,hres]
   exact trodAll_mk1 (shut_bool hbool _)
  ·rw [List.append_nil,hsp]
   exact hagain
  ·rw [List.append_nil,hsp,hvars]
   rfl
 | panicked c=>exact he.elim
 | outgrown=>exact he.elim

/-- as returnsInHanded_of_change_sized, the world's shape handed on -/
theorem returnsInHanded_shaped {a:Assume} {C:Checked} {os:Os} {f:FuncId} {fn:Func} {s:ChangeSpec} {conds:List PathCond} {apart fresh handsOn again:Bool}
  (own:ownKnob C.prog.godebug=none) (started:os.Started) (noInit:C.prog.inits.idxOf? f=none) (hfn:C.prog.funcs[f]?=some fn)
  (witness:∃(w:World) (tape:Tape) (i:Input),w.os=os∧(w.forCall tape i).Shaped C.prog∧i.vars=[]∧Input.okWide C.prog (w.forCall tape i) .any w.heap.size f i∧
   s.pre6 enc C.prog fn conds apart (w.forCall tape i).memory i.args∧a.holds C.prog (lone (Frame.enter C.prog f i.args .normal) [] (w.forCall tape i)))
  (contract:∀(W:World) (base:Nat) (args:Array Value) (ds gs:List (DataW H)) (before:List MemPlace),
   (∀(j:Nat) t v,fn.params[j]?=some t→args[j]?=some v→Value.okWide C.prog W .any base t v)→
   DataW.Whole enc C.prog fn.params.toList s.vars apart W args.toList ds gs before→W.ShapedOpen C.prog→
   Calls C.prog f args W fun e W'=>∃v,e=.returned v∧s.post enc C.prog fn apart fresh handsOn again W args v W'):
  ReturnsInHanded a C os f .any (s.pre6 enc C.prog fn conds apart) (s.post enc C.prog fn apart fresh handsOn again):=by
 refine returnsInHanded_of_calls own started noInit witness ?_
 intro w tape i _ hsh _ hok hpre hholds
 obtain ⟨_,_,_,fn',hfn',_,_,_,_,hval⟩:=hok
 have e:fn'=fn:=Option.some.inj (hfn'.symm.trans hfn)
 subst e
 obtain ⟨⟨ds,gs,before,hw,hc⟩,hz⟩:=hpre
 have hw':=DataW.Whole.of_heap (w':=w.forCall tape i) (by rfl) hw
 refine (contract (w.forCall tape i) w.heap.size i.args ds gs before hval hw' hsh).mono fun e W' ⟨v,he,hp⟩=>?_
 subst he
 exact ChangeSpec.post_blind hp

/-- .. with a condition besides -/
theorem returnsInHanded_shaped_and {a:Assume} {C:Checked} {os:Os} {f:FuncId} {fn:Func} {s:ChangeSpec} {conds:List PathCond} {apart fresh handsOn again:Bool} {X:World→Array Value→Prop}
  (hX:∀(w w':World) (args:Array Value),w.heap=w'.heap→X w args→X w' args)
  (own:ownKnob C.prog.godebug=none) (started:os.Started) (noInit:C.prog.inits.idxOf? f=none) (hfn:C.prog.funcs[f]?=some fn)
  (witness:∃(w:World) (tape:Tape) (i:Input),w.os=os∧(w.forCall tape i).Shaped C.prog∧i.vars=[]∧Input.okWide C.prog (w.forCall tape i) .any w.heap.size f i∧
   ((s.pre enc C.prog fn conds apart (w.forCall tape i).memory i.args∧X (w.forCall tape i).memory i.args)∧sizedMet enc C.prog fn (OpenSpec.ofChange s) apart (w.forCall tape i).memory i.args)∧a.holds C.prog (lone (Frame.enter C.prog f i.args .normal) [] (w.forCall tape i)))
  (contract:∀(W:World) (base:Nat) (args:Array Value) (ds gs:List (DataW H)) (before:List MemPlace),
   (∀(j:Nat) t v,fn.params[j]?=some t→args[j]?=some v→Value.okWide C.prog W .any base t v)→
   DataW.Whole enc C.prog fn.params.toList s.vars apart W args.toList ds gs before→X W args→W.ShapedOpen C.prog→
   Calls C.prog f args W fun e W'=>∃v,e=.returned v∧s.post enc C.prog fn apart fresh handsOn again W args v W'):
  ReturnsInHanded a C os f .any (fun w args=>(s.pre enc C.prog fn conds apart w args∧X w args)∧sizedMet enc C.prog fn (OpenSpec.ofChange s) apart w args) (s.post enc C.prog fn apart fresh handsOn again):=by
 refine returnsInHanded_of_calls own started noInit witness ?_
 intro w tape i _ hsh _ hok hpre hholds
 obtain ⟨_,_,_,fn',hfn',_,_,_,_,hval⟩:=hok
 have e:fn'=fn:=Option.some.inj (hfn'.symm.trans hfn)
 subst e
 obtain ⟨⟨⟨ds,gs,before,hw,hc⟩,hx⟩,hz⟩:=hpre
 have hw':=DataW.Whole.of_heap (w':=w.forCall tape i) (by rfl) hw
 refine (contract (w.forCall tape i) w.heap.size i.args ds gs before hval hw' (hX _ _ _ (by rfl) hx) hsh).mono fun e W' ⟨v,he,hp⟩=>?_
 subst he
 exact ChangeSpec.post_blind hp

end

end Go.Av
