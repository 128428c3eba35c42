/- ABSTRACT VALUES: the table of types, checked; weaker states, checked. -/
import Derived.Test.YtniibgdokfnomaaGreatAvYt
namespace Go.Av
open Go Go.RowKit
set_option linter.unusedSimpArgs false
set_option linter.unusedVariables false

def sameV:Value→Value→Bool
 | .int k n,.int k' n'=>decide (k=k') && decide (n=n')
 | .bool b,.bool b'=>b == b'
 | .string s,.string s'=>decide (s.data.toList=s'.data.toList)
 | .slice none 0 0,.slice none 0 0=>true
 | .pointer none,.pointer none=>true
 | .nilFunc,.nilFunc=>true
 | .nilIface,.nilIface=>true
 | .map none,.map none=>true
 | _,_=>false

theorem sameV_eq {a b:Value} (h:sameV a b=true):a=b:=by
 unfold sameV at h
 split at h <;> first | rfl | simp_all
 rename_i s s'
 obtain ⟨⟨l⟩⟩:=s
 obtain ⟨⟨l'⟩⟩:=s'
 simp_all

def sameVs:List Value→List Value→Bool
 | [],[]=>true
 | a::as,b::bs=>sameV a b && sameVs as bs
 | _,_=>false
theorem sameVs_eq:∀{a b:List Value},sameVs a b=true→a=b
 | [],[],_=>rfl
 | a::as,b::bs,h=>by
  simp only [sameVs,Bool.and_eq_true] at h
  rw [sameV_eq h.1,sameVs_eq h.2]
 | [],_::_,h=>by simp [sameVs] at h
 | _::_,[],h=>by simp [sameVs] at h

def descB (d:TypeDesc):TD→Bool
 | .int k=>match d with | .int k'=>decide (k'=k) | _=>false
 | .bool=>match d with | .bool=>true | _=>false
 | .str=>match d with | .string=>true | _=>false
 | .sl e=>match d with | .slice e'=>decide (e'=e) | _=>false
 | .struct fs=>match d with | .struct fields=>decide (fields.toList.map (fun f=>(f.offset,f.type))=fs) && fields.toList.all (fun f=>!(f.name == "_")) | _=>false
 | .map k e=>match d with | .map k' e'=>decide (k'=k) && decide (e'=e) | _=>false
 | .other=>match d with | .struct _ | .array _ _=>false | _=>true

theorem descB_ok {d:TypeDesc} {td:TD} (h:descB d td=true):DescOk d td:=by
 cases td <;> simp only [descB] at h <;> simp only [DescOk]
 case other=>cases d <;> simp_all
 case struct fs=>
  cases d with
  | struct fields=>
   simp only [Bool.and_eq_true,decide_eq_true_eq,List.all_eq_true] at h
   exact ⟨fields,rfl,h.1,fun f hf=>by have:=h.2 f hf;simpa using this⟩
  | _=>simp at h
 all_goals (cases d <;> simp_all)

def typeB (P:Program) (t:TypeId) (i:TI):Bool:=
 match P.info? t,P.underlying t with
 | some info,some d=>(info.size == i.size) && (info.bytes == i.bytes) && (match info.zero with | some z=>sameVs z.cells.toList i.zero | none=>false) && descB d i.td &&
   Nat.blt 0 i.size && (i.zero.length == i.size) && (i.isAgg || i.size == 1) && i.zero.all Value.oneCell' &&
   (match i.td with | .struct fs=>fs.all (fun p=>(P.info? p.2).isSome) && !(P.eqGuardType P.depth t) && !(P.stoodInHeld t) | .int .i64=>(match info.zero with | some z=>sameV z (.int .i64 0) | none=>false) | _=>true)
 | _,_=>false

theorem typeB_ok {P:Program} {t:TypeId} {i:TI} (h:typeB P t i=true):TypeOk P t i:=by
 unfold typeB at h
 split at h
 ·rename_i info d hi hd
  simp only [Bool.and_eq_true] at h
  obtain ⟨⟨⟨⟨⟨⟨⟨⟨h1,h2⟩,h3⟩,h4⟩,h5⟩,h6⟩,h7⟩,h8⟩,h9⟩:=h
  split at h3
  ·rename_i z hz
   have hzz:=sameVs_eq h3
   refine ⟨⟨info,d,z,hi,hd,by simpa using h1,by simpa using h2,hz,?_,descB_ok h4⟩,by simpa using h5,by simpa using h6,fun ha=>?_,fun v hv=>List.all_eq_true.1 h8 v hv,fun fs hfs p hp=>?_,fun fs hfs=>?_,fun hi'=>?_⟩
   ·rw [← hzz]
   ·rw [ha] at h7;simpa using h7
   ·rw [hfs] at h9
    simp only [Bool.and_eq_true,List.all_eq_true] at h9
    exact h9.1.1 p hp
   ·rw [hfs] at h9
    simp only [Bool.and_eq_true] at h9
    exact ⟨by simpa using h9.1.2,by simpa using h9.2⟩
   ·rw [hi'] at h9
    simp only [hz] at h9
    exact ⟨info,hi,by rw [hz,sameV_eq h9]⟩
  ·simp at h3
 ·simp at h

def tabB (P:Program):Tab→Bool
 | .nil=>true
 | .node l t i r=>typeB P t i && tabB P l && tabB P r

theorem tok_of {P:Program}:∀{T:Tab},tabB P T=true→TOk P T
 | .nil,_,t,i,h=>by simp [Tab.get] at h
 | .node l u j r,hb,t,i,h=>by
  simp only [tabB,Bool.and_eq_true] at hb
  simp only [Tab.get] at h
  split at h
  ·rename_i e
   have e:=Nat.eq_of_beq_eq_true e
   simp only [Option.some.injEq] at h
   subst e;subst h
   exact typeB_ok hb.1.1
  ·split at h
   ·exact tok_of hb.1.2 t i h
   ·exact tok_of hb.2 t i h

/-! ### Weaker states, checked -/

def rget:List (Nat×Nat)→Nat→Option Nat
 | [],_=>none
 | (u,v)::r,t=>match Nat.beq u t with | true=>some v | false=>rget r t

def unmapped (o:Nat):List (Nat×Nat)→Bool
 | []=>true
 | (_,v)::r=>match Nat.beq v o with | true=>false | false=>unmapped o r

mutual
def weakV (r:List (Nat×Nat)) (m m':Nat→Option AO):AV→AV→Prop
 | a,b=>match b with
  | .any=>True
  | .d y=>match a with
   | .d x=>x=y
   | .nil k=>y=.sl k []
   | .sl o=>match m o with
    | some (.arr k rows _)=>y=.sl k rows∧unmapped o r=true
    | some (.fro k rows)=>y=.sl k rows
    | _=>False
   | _=>False
  | .nil k'=>match a with | .nil k=>k=k' | _=>False
  | .dp row' j'=>match a with | .dp row j=>row=row'∧j=j' | _=>False
  | .ptr o' i' j'=>match a with | .ptr o i j=>rget r o'=some o∧i=i'∧j=j' | _=>False
  | .sl o'=>match a with
   | .sl o=>rget r o'=some o
   | .nil k=>rget r o'=none∧match m' o' with | some (.arr k' [] _)=>k=k' | _=>False
   | _=>False
  | .sub o' lo' n'=>match a with | .sub o lo n=>rget r o'=some o∧lo=lo'∧n=n' | _=>False
  | .cel _ _ _=>False
  | .agg cs'=>match a with | .agg cs=>weakL r m m' cs cs' | _=>False
  | .fn f' cs'=>match a with | .fn f cs=>f=f'∧weakL r m m' cs cs' | _=>False
  | .tup _=>False
def weakL (r:List (Nat×Nat)) (m m':Nat→Option AO):List AV→List AV→Prop
 | as,bs=>match bs with
  | []=>match as with | []=>True | _=>False
  | b::bs=>match as with | a::as=>weakV r m m' a b∧weakL r m m' as bs | []=>False
end

def weakE (r:List (Nat×Nat)) (m m':Nat→Option AO) (env:List (Nat×AV)):List (Nat×AV)→Prop
 | []=>True
 | (t,v)::l=>weakV r m m' (look env t) v∧weakE r m m' env l

def weakO (r:List (Nat×Nat)) (m m':Nat→Option AO):AO→AO→Prop
 | .box cs,.box cs'=>weakL r m m' cs cs'
 | .arr k rows own,.arr k' rows' own'=>k=k'∧rows=rows'∧(own'=true→own=true)
 | .fro k rows,.fro k' rows'=>k=k'∧rows=rows'
 | .pin cs,.pin cs'=>weakL r m m' cs cs'
 | .mp l,.mp l'=>l=l'
 | .deep k rows,.deep k' rows'=>k=k'∧rows=rows'
 | _,_=>False

def weakM (r:List (Nat×Nat)) (m m':Nat→Option AO) (next:Nat):List (Nat×Option AO)→Prop
 | []=>True
 | (o',some ao')::l=>(Nat.blt o' next=true∧match rget r o' with
  | some o=>match m o with | some ao=>weakO r m m' ao ao' | none=>False
  | none=>match ao' with | .arr k [] _=>0<k | _=>False)∧weakM r m m' next l
 | (_,none)::l=>weakM r m m' next l

def liveB (m':List (Nat×Option AO)):List (Nat×Nat)→Bool
 | []=>true
 | (o',_)::r=>match find m' o' with | some _=>liveB m' r | none=>false

def injB:List (Nat×Nat)→Bool
 | []=>true
 | (_,v)::r=>match unmapped v r with | true=>injB r | false=>false

/-- s' is weaker than s; r: new name, old name -/
def weakP (r:List (Nat×Nat)) (s s':St):Prop:=
 (injB r=true∧liveB s'.mem r=true)∧weakM r (find s.mem) (find s'.mem) s'.next s'.mem∧weakE r (find s.mem) (find s'.mem) s.env s'.env

theorem rget_mem {r:List (Nat×Nat)} {t v:Nat}:rget r t=some v→(t,v)∈r:=by
 induction r with
 | nil=>intro h;simp [rget] at h
 | cons p r ih=>
  obtain ⟨u,x⟩:=p
  intro h
  simp only [rget] at h
  split at h
  ·rename_i e;simp only [Option.some.injEq] at h;subst h;rw [Nat.eq_of_beq_eq_true e];simp
  ·exact List.mem_cons_of_mem _ (ih h)

theorem unmapped_spec {o:Nat}:∀{r:List (Nat×Nat)},unmapped o r=true→∀p∈r,p.2≠o
 | [],_,p,hp=>by simp at hp
 | (u,v)::r,h,p,hp=>by
  simp only [unmapped] at h
  split at h
  ·simp at h
  ·rename_i e
   rcases List.mem_cons.1 hp with rfl | hp
   ·intro e';subst e';simp at e
   ·exact unmapped_spec h p hp

theorem injB_spec:∀{r:List (Nat×Nat)},injB r=true→∀a b o,rget r a=some o→rget r b=some o→a=b
 | [],_,a,b,o,h,_=>by simp [rget] at h
 | (u,v)::r,h,a,b,o,h1,h2=>by
  simp only [injB] at h
  split at h
  ·rename_i e
   simp only [rget] at h1 h2
   split at h1
   ·rename_i ea
    simp only [Option.some.injEq] at h1;subst h1
    split at h2
    ·rename_i eb;exact (Nat.eq_of_beq_eq_true ea).symm.trans (Nat.eq_of_beq_eq_true eb)
    ·exact absurd rfl (unmapped_spec e _ (rget_mem h2))
   ·split at h2
    ·simp only [Option.some.injEq] at h2;subst h2
     exact absurd rfl (unmapped_spec e _ (rget_mem h1))
    ·exact injB_spec h a b o h1 h2
  ·simp at h

theorem liveB_spec {m':List (Nat×Option AO)}:∀{r:List (Nat×Nat)},liveB m' r=true→∀p∈r,find m' p.1≠none
 | [],_,p,hp=>by simp at hp
 | (u,v)::r,h,p,hp=>by
  simp only [liveB] at h
  split at h
  ·rename_i e
   rcases List.mem_cons.1 hp with rfl | hp
   ·rw [e];simp
   ·exact liveB_spec h p hp
  ·simp at h

mutual
theorem weakV_ok {r:List (Nat×Nat)} {m m':Nat→Option AO}:∀{a b:AV},weakV r m m' a b→WV (rget r) m m' a b
 | a,.any,_=>.any a
 | a,.d y,h=>by
  unfold weakV at h
  simp only at h
  split at h
  ·subst h;exact .d _
  ·subst h;exact .nild _
  ·split at h
   ·rename_i hm;obtain ⟨rfl,h2⟩:=h
    exact .frz _ _ _ _ hm fun o' ho'=>unmapped_spec h2 _ (rget_mem ho') rfl
   ·rename_i hm;subst h;exact .fro _ _ _ hm
   ·exact h.elim
  ·exact h.elim
 | a,.nil k',h=>by
  unfold weakV at h
  simp only at h
  split at h
  ·subst h;exact .nil _
  ·exact h.elim
 | a,.dp row' j',h=>by
  unfold weakV at h
  simp only at h
  split at h
  ·obtain ⟨rfl,rfl⟩:=h;exact .dp _ _
  ·exact h.elim
 | a,.ptr o' i' j',h=>by
  unfold weakV at h
  simp only at h
  split at h
  ·obtain ⟨h1,rfl,rfl⟩:=h;exact .ptr _ _ _ _ h1
  ·exact h.elim
 | a,.sl o',h=>by
  unfold weakV at h
  simp only at h
  split at h
  ·exact .sl _ _ h
  ·obtain ⟨h1,h2⟩:=h
   split at h2
   ·rename_i hm;subst h2;exact .slnew _ _ _ h1 hm
   ·exact h2.elim
  ·exact h.elim
 | a,.sub o' lo' n',h=>by
  unfold weakV at h
  simp only at h
  split at h
  ·obtain ⟨h1,rfl,rfl⟩:=h;exact .sub _ _ _ _ h1
  ·exact h.elim
 | a,.agg cs',h=>by
  unfold weakV at h
  simp only at h
  split at h
  ·obtain ⟨h1,h2⟩:=weakL_ok h;exact .agg _ _ h1 h2
  ·exact h.elim
 | a,.fn f' cs',h=>by
  unfold weakV at h
  simp only at h
  split at h
  ·obtain ⟨rfl,h⟩:=h
   obtain ⟨h1,h2⟩:=weakL_ok h;exact .fn _ _ _ h1 h2
  ·exact h.elim
 | a,.cel _ _ _,h=>by
  unfold weakV at h
  exact h.elim
 | a,.tup _,h=>by
  unfold weakV at h
  exact h.elim
theorem weakL_ok {r:List (Nat×Nat)} {m m':Nat→Option AO}:∀{a b:List AV},weakL r m m' a b→a.length=b.length∧∀i,i<a.length→WV (rget r) m m' (a.getD i .any) (b.getD i .any)
 | a,[],h=>by
  unfold weakL at h
  simp only at h
  split at h
  ·exact ⟨rfl,by simp⟩
  ·exact h.elim
 | a,b::bs,h=>by
  unfold weakL at h
  simp only at h
  split at h
  ·obtain ⟨h1,h2⟩:=h
   have v:=weakV_ok h1
   obtain ⟨e1,e2⟩:=weakL_ok h2
   refine ⟨by simp [e1],fun i hi=>?_⟩
   cases i with
   | zero=>simpa using v
   | succ i=>simpa using e2 i (by simpa using hi)
  ·exact h.elim
end

theorem weakE_ok {r:List (Nat×Nat)} {m m':Nat→Option AO} {env:List (Nat×AV)}:∀{l:List (Nat×AV)},weakE r m m' env l→∀t,WV (rget r) m m' (look env t) (look l t)
 | [],_,t=>.any _
 | (u,v)::l,h,t=>by
  obtain ⟨h1,h2⟩:=h
  rw [look_cons]
  split
  ·rename_i e;subst e;exact weakV_ok h1
  ·exact weakE_ok h2 t

theorem weakO_ok {r:List (Nat×Nat)} {m m':Nat→Option AO} {a b:AO} (h:weakO r m m' a b):WO (rget r) m m' a b:=by
 unfold weakO at h
 split at h
 ·obtain ⟨h1,h2⟩:=weakL_ok h;exact .box _ _ h1 h2
 ·obtain ⟨rfl,rfl,h3⟩:=h
  rename_i own own'
  cases own' with
  | false=>exact .disown _ _ _
  | true=>rw [h3 rfl];exact .arr _ _ _
 ·obtain ⟨rfl,rfl⟩:=h;exact .fro _ _
 ·obtain ⟨h1,h2⟩:=weakL_ok h;exact .pin _ _ h1 h2
 ·subst h;exact .mp _
 ·obtain ⟨rfl,rfl⟩:=h;exact .deep _ _
 ·exact h.elim

theorem weakM_ok {r:List (Nat×Nat)} {m m':Nat→Option AO} {next:Nat}:∀{l:List (Nat×Option AO)},weakM r m m' next l→∀o' ao',find l o'=some ao'→o'<next∧
  ((∃o ao,rget r o'=some o∧m o=some ao∧WO (rget r) m m' ao ao')∨(rget r o'=none∧∃k own,0<k∧ao'=.arr k [] own))
 | [],_,o',ao',h=>by simp [find] at h
 | (u,none)::l,hw,o',ao',h=>by
  rw [find_cons] at h
  split at h
  ·simp at h
  ·exact weakM_ok (l:=l) hw o' ao' h
 | (u,some x)::l,hw,o',ao',h=>by
  obtain ⟨⟨h1,h2⟩,h3⟩:=hw
  rw [find_cons] at h
  split at h
  ·rename_i e
   subst e
   simp only [Option.some.injEq] at h;subst h
   simp only [Nat.blt_eq] at h1
   refine ⟨h1,?_⟩
   split at h2
   ·rename_i o ho
    split at h2
    ·rename_i ao hm;exact .inl ⟨o,ao,ho,hm,weakO_ok h2⟩
    ·exact h2.elim
   ·rename_i ho
    split at h2
    ·exact .inr ⟨ho,_,_,h2,rfl⟩
    ·exact h2.elim
  ·exact weakM_ok h3 o' ao' h

theorem weak_of (r:List (Nat×Nat)) {s s':St} (h:weakP r s s'):Weak s s':=by
 obtain ⟨⟨h1,h2⟩,h3,h4⟩:=h
 exact ⟨rget r,weakE_ok h4,weakM_ok h3,injB_spec h1,fun o' o ho=>liveB_spec h2 _ (rget_mem ho)⟩

/-- a loop: a state for each value of the loop's own variables, what is known of them, and what falls -/
theorem loop_intro {α:Type} (st:α→St) (inv:α→Prop) (μ:α→Nat) {s:St} {R:(Nat→St→Prop)→Nat→St→Prop} (p₀:α) (hw:Weak s (st p₀)) (h0:inv p₀)
  (h:∀p,inv p→R (fun n s=>∃q,s=st q∧n=μ q∧inv q) (μ p) (st p)):
  ∃I:Nat→St→Prop,(∃n s₀,Weak s s₀∧I n s₀)∧∀n s₀,I n s₀→R I n s₀:=
 ⟨fun n s=>∃q,s=st q∧n=μ q∧inv q,⟨μ p₀,st p₀,hw,p₀,rfl,rfl,h0⟩,by rintro n s₀ ⟨p,rfl,rfl,hp⟩;exact h p hp⟩

theorem loop_next {α:Type} {st:α→St} {inv:α→Prop} {μ:α→Nat} {s:St} {n:Nat} (q:α) (hw:Weak s (st q)) (hlt:μ q<n) (hi:inv q):
  ∃n' s₁,n'<n∧Weak s s₁∧(fun n s=>∃q,s=st q∧n=μ q∧inv q) n' s₁:=⟨μ q,st q,hlt,hw,q,rfl,rfl,hi⟩

end Go.Av
