/- ABSTRACT VALUES: what a function does, from its body's walk. -/
import Derived.Test.YtniibgdokfnomaaGreatAvX
namespace Go.Av
open Go Go.RowKit
set_option linter.unusedSimpArgs false
set_option linter.unusedVariables false

def feet (g:Nat→OG) (u:List Nat):List Nat:=(u.map fun o=>(g o).foot).flatten

theorem feet_append (g:Nat→OG) (u v:List Nat):feet g (u++v)=feet g u++feet g v:=by simp [feet]
theorem feet_nil (g:Nat→OG):feet g []=[]:=rfl

theorem noDup_spec:∀{u:List Nat},noDup u=true→u.Nodup
 | [],_=>by simp
 | x::r,h=>by
  simp only [noDup] at h
  split at h
  ·rename_i e
   rw [List.nodup_cons]
   refine ⟨fun hx=>?_,noDup_spec h⟩
   have:=List.all_eq_true.1 e x hx
   simp at this
  ·simp at h

section
variable {P:Program} {T:Tab} {C:Contract} {B:Fr} {N:Nat} {L:Nat→Prop} {w₀ w:World} {s:St} {a:Act} {S:Nat→Prop} {g:Nat→OG} {Q:Exit→Act→World→Prop}

theorem Rel.feet_nodup (R:Rel B N w₀ L s a w S g []):∀{u:List Nat},u.Nodup→(∀o∈u,find s.mem o≠none)→(feet g u).Nodup
 | [],_,_=>by simp [feet]
 | o::u,hn,hl=>by
  rw [List.nodup_cons] at hn
  have e:feet g (o::u)=(g o).foot++feet g u:=by simp [feet]
  rw [e,List.nodup_append]
  refine ⟨R.nodup o (hl o (by simp)),R.feet_nodup hn.2 fun o' h=>hl o' (List.mem_cons_of_mem _ h),fun b hb c hc=>?_⟩
  rintro rfl
  obtain ⟨l,hl1,hl2⟩:=List.mem_flatten.1 hc
  obtain ⟨o',ho',rfl⟩:=List.mem_map.1 hl1
  exact R.apart o o' (fun e=>hn.1 (e ▸ ho')) (hl o (by simp)) (hl o' (List.mem_cons_of_mem _ ho')) b hb hl2

theorem Rel.outC (R:Rel B N w₀ L s a w S g []) {c:AV} {v:Value} (hv:RV S (hp w) g (find s.mem) L c v) {d:D} {u:List Nat} (h:Av.outC (find s.mem) c=some (d,u)):Own (hp w) d v (feet g u)∧∀o∈u,find s.mem o≠none:=by
 unfold Av.outC at h
 split at h
 ·simp only [Option.some.injEq,Prod.mk.injEq] at h;obtain ⟨rfl,rfl⟩:=h
  obtain ⟨rfl,h1⟩:=rv_v hv
  exact ⟨.v _ h1,by simp⟩
 ·simp only [Option.some.injEq,Prod.mk.injEq] at h;obtain ⟨rfl,rfl⟩:=h
  cases hv;exact ⟨.nil _ none,by simp⟩
 ·rename_i o
  split at h
  ·rename_i k rows hm
   simp only [Option.some.injEq,Prod.mk.injEq] at h;obtain ⟨rfl,rfl⟩:=h
   cases hv with
   | sl _ _ ho h1 hv=>
    rw [hv (by rw [hm];simp)]
    refine ⟨?_,fun o' ho'=>by simp at ho';subst ho';rw [hm];simp⟩
    have hro:=R.obj o _ hm
    have e:feet g [o]=(g o).foot:=by simp [feet]
    rw [e]
    generalize g o=G at hro
    cases hro with
    | nil _ b own oa hk=>exact .nil k oa
    | arr _ _ own b cap cs e fr fps hb hfr hk hrow hcap hmax hsz hin hown hno hB hS0=>
     obtain ⟨f1,f2,_⟩:=hown rfl
     exact .sl k rows b cap cs e fr fps hb hfr hk hrow hcap hmax hsz f1 f2
  ·simp at h
 ·simp at h

theorem Rel.outRow (R:Rel B N w₀ L s a w S g []):∀{cs:List AV} {vs:List Value} {ds:List D} {u:List Nat},vs.length=cs.length→(∀i,i<cs.length→RV S (hp w) g (find s.mem) L (cs.getD i .any) (vs.getD i undef))→
  Av.outRow (find s.mem) cs=some (ds,u)→∃fps,fps.length=ds.length∧ds.length=cs.length∧(∀i,i<ds.length→Own (hp w) (ds.getD i default) (vs.getD i undef) (fps.getD i []))∧List.flatten fps=feet g u∧∀o∈u,find s.mem o≠none
 | [],vs,ds,u,hl,_,h=>by
  simp [Av.outRow] at h;obtain ⟨rfl,rfl⟩:=h
  exact ⟨[],rfl,rfl,by simp,rfl,by simp⟩
 | c::cs,[],_,_,hl,_,_=>by simp at hl
 | c::cs,v::vs,ds,u,hl,hin,h=>by
  simp only [Av.outRow] at h
  split at h
  ·rename_i d u1 hd
   split at h
   ·rename_i ds' us hds
    simp only [Option.some.injEq,Prod.mk.injEq] at h;obtain ⟨rfl,rfl⟩:=h
    obtain ⟨q1,q2⟩:=R.outC (hin 0 (by simp)) hd
    obtain ⟨fps,e1,e2,e3,e4,e5⟩:=R.outRow (cs:=cs) (vs:=vs) (by simpa using hl) (fun i hi=>by simpa using hin (i+1) (by simpa using hi)) hds
    refine ⟨feet g u1::fps,by simp [e1],by simp [e2],fun i hi=>?_,by rw [List.flatten_cons,e4,feet_append],fun o ho=>(List.mem_append.1 ho).elim (q2 o) (e5 o)⟩
    cases i with
    | zero=>simpa using q1
    | succ i=>simpa using e3 i (by simpa using hi)
   ·simp at h
  ·simp at h

theorem Rel.outV (R:Rel B N w₀ L s a w S g []) {c:AV} {v:Value} (hv:RV S (hp w) g (find s.mem) L c v) {d:DV} {u:List Nat} (h:Av.outV (find s.mem) c=some (d,u)):OwnV (hp w) d v (feet g u)∧∀o∈u,find s.mem o≠none:=by
 unfold Av.outV at h
 split at h
 ·split at h
  ·rename_i ds us hds
   simp only [Option.some.injEq,Prod.mk.injEq] at h;obtain ⟨rfl,rfl⟩:=h
   cases hv with
   | agg _ vs hl h1 hin=>
    obtain ⟨fps,e1,e2,e3,e4,e5⟩:=R.outRow hl hin hds
    rw [← e4]
    exact ⟨.agg _ _ _ (by omega) e1 e3,e5⟩
  ·simp at h
 ·split at h
  ·rename_i hd
   simp only [Option.some.injEq,Prod.mk.injEq] at h;obtain ⟨rfl,rfl⟩:=h
   obtain ⟨q1,q2⟩:=R.outC hv hd
   exact ⟨.one _ _ _ q1,q2⟩
  ·simp at h

theorem Rel.outVs (R:Rel B N w₀ L s a w S g []):∀{cs:List AV} {vs:List Value} {ds:List DV} {u:List Nat},vs.length=cs.length→(∀i,i<cs.length→RV S (hp w) g (find s.mem) L (cs.getD i .any) (vs.getD i undef))→
  Av.outVs (find s.mem) cs=some (ds,u)→∃fps,fps.length=ds.length∧ds.length=cs.length∧(∀i,i<ds.length→OwnV (hp w) (ds.getD i default) (vs.getD i undef) (fps.getD i []))∧List.flatten fps=feet g u∧∀o∈u,find s.mem o≠none
 | [],vs,ds,u,hl,_,h=>by
  simp [Av.outVs] at h;obtain ⟨rfl,rfl⟩:=h
  exact ⟨[],rfl,rfl,by simp,rfl,by simp⟩
 | c::cs,[],_,_,hl,_,_=>by simp at hl
 | c::cs,v::vs,ds,u,hl,hin,h=>by
  simp only [Av.outVs] at h
  split at h
  ·rename_i d u1 hd
   split at h
   ·rename_i ds' us hds
    simp only [Option.some.injEq,Prod.mk.injEq] at h;obtain ⟨rfl,rfl⟩:=h
    obtain ⟨q1,q2⟩:=R.outV (hin 0 (by simp)) hd
    obtain ⟨fps,e1,e2,e3,e4,e5⟩:=R.outVs (cs:=cs) (vs:=vs) (by simpa using hl) (fun i hi=>by simpa using hin (i+1) (by simpa using hi)) hds
    refine ⟨feet g u1::fps,by simp [e1],by simp [e2],fun i hi=>?_,by rw [List.flatten_cons,e4,feet_append],fun o ho=>(List.mem_append.1 ho).elim (q2 o) (e5 o)⟩
    cases i with
    | zero=>simpa using q1
    | succ i=>simpa using e3 i (by simpa using hi)
   ·simp at h
  ·simp at h

/-- a result variable, read -/
def readRes (tmps:Array Value):ResultVar→Sem Value
 | .tmp t=>pure (tmps.getD t undef)
 | .cell a t=>do loadVar t (← asAddr (tmps.getD a undef))

theorem results_eq (fn:Func) (tmps:Array Value):results fn tmps=(do
  let vs ← fn.results.mapM (readRes tmps)
  pure (if h:vs.size=1 then vs[0] else .tuple vs)):=by
 unfold results
 congr 1

theorem Rel.resV (hT:TOk P T) (R:Rel B N w₀ L s a w S g []) {r:ResultVar} {v:AV} (h:Av.resV T s r=some v):∃val,(readRes a.tmps r).run P w=.ok val w∧RV S (hp w) g (find s.mem) L v val:=by
 unfold Av.resV at h
 split at h
 ·simp only [Option.some.injEq] at h;subst h
  exact ⟨_,rfl,R.env _⟩
 ·rename_i ad t
  split at h
  ·rename_i o i ho hi
   have H:=hT t i hi
   split at h
   ·rename_i cs hm
    have ex:=R.env ad
    rw [ho] at ex
    generalize hval:a.tmps.getD ad undef=val at ex
    cases ex with
    | ptr _ _ _ v' hL h1 hv=>
     obtain ⟨vs,e,fr,hb,hfr,hl,hone,hin,_⟩:=R.box hm
     have ev:=(hv (by rw [hm];simp)).1
     simp only [Nat.zero_mul,Nat.zero_add] at ev
     have load:∀(hle:0+i.size≤vs.length),(readRes a.tmps (.cell ad t)).run P w=.ok (if i.isAgg then .agg (Array.ofFn (n:=i.size) fun j=>(⟨vs⟩:Array Value).getD (0+j) undef) else (⟨vs⟩:Array Value).getD 0 undef) w:=by
      intro hle
      have:=run_loadAt H hb 0 hle
      have e0:readRes a.tmps (.cell ad t)=(do loadVar t (← asAddr (a.tmps.getD ad undef))):=rfl
      rw [e0,hval,ev]
      simpa [Instr.loadAt,Instr.sureAddr,asAddr] using this
     split at h
     ·rename_i hagg
      split at h
      ·rename_i hlen
       have hlen:=Nat.eq_of_beq_eq_true hlen
       simp only [Option.some.injEq] at h;subst h
       refine ⟨_,load (by omega),?_⟩
       rw [hagg]
       simp only [if_true,Nat.zero_add]
       have e0:Array.ofFn (n:=i.size) (fun j=>(⟨vs⟩:Array Value).getD j undef)=⟨vs⟩:=by
        apply Array.ext
        ·simp;omega
        ·intro j h1 h2
         have:j<vs.length:=h2
         simp [this]
       rw [e0]
       exact .agg _ _ hl hone hin
      ·simp at h
     ·rename_i hagg
      split at h
      ·rename_i c
       simp only [Option.some.injEq] at h;subst h
       have hs:=H.scalar hagg
       simp only [List.length_cons,List.length_nil] at hl
       refine ⟨_,load (by omega),?_⟩
       rw [hagg]
       simp only [Bool.false_eq_true,if_false]
       have:=hin 0 (by simp)
       simpa using this
      ·simp at h
   ·simp at h
  ·simp at h

theorem Rel.resVs (hT:TOk P T) (R:Rel B N w₀ L s a w S g []):∀{rs:List ResultVar} {cs:List AV},Av.resVs T s rs=some cs→∃vals:List Value,(rs.mapM (readRes a.tmps)).run P w=.ok vals w∧vals.length=cs.length∧cs.length=rs.length∧∀i,i<cs.length→RV S (hp w) g (find s.mem) L (cs.getD i .any) (vals.getD i undef)
 | [],cs,h=>by
  simp [Av.resVs] at h;subst h
  exact ⟨[],by simp,rfl,rfl,by simp⟩
 | r::rs,cs,h=>by
  simp only [Av.resVs] at h
  split at h
  ·rename_i v vs h1 h2
   simp only [Option.some.injEq] at h;subst h
   obtain ⟨val,q1,q2⟩:=R.resV hT h1
   obtain ⟨vals,e1,e2,e3,e4⟩:=R.resVs hT h2
   refine ⟨val::vals,by simp [q1,e1],by simp [e2],by simp [e3],fun i hi=>?_⟩
   cases i with
   | zero=>simpa using q2
   | succ i=>simpa using e4 i (by simpa using hi)
  ·simp at h

theorem done_sound (hT:TOk P T) (R:Rel B N w₀ L s a w S g []) {fn:Func} {rs:List ResultVar} (hr:fn.results=⟨rs⟩) {res:DV} (h:done T rs s (·=res)):
  ∃v,(results fn a.tmps).run P w=.ok v w∧∃fp,OwnV (hp w) res v fp∧fp.Nodup∧∀b∈fp,¬ B.U b∧b<w.heap.size:=by
 unfold done at h
 split at h
 ·rename_i vs hvs
  split at h
  ·rename_i ds u hds
   split at h
   ·rename_i hnd
    obtain ⟨vals,e1,e2,e3,e4⟩:=R.resVs hT hvs
    obtain ⟨fps,f1,f2,f3,f4,f5⟩:=R.outVs e2 e4 hds
    have hb:∀b∈feet g u,¬ B.U b∧b<w.heap.size:=by
     intro b hb
     obtain ⟨l,hl1,hl2⟩:=List.mem_flatten.1 hb
     obtain ⟨o',ho',rfl⟩:=List.mem_map.1 hl1
     exact R.bound o' (f5 o' ho') b hl2
    have hn:=R.feet_nodup (noDup_spec hnd) f5
    have run:(results fn a.tmps).run P w=.ok (if h:(⟨vals⟩:Array Value).size=1 then (⟨vals⟩:Array Value)[0] else .tuple ⟨vals⟩) w:=by
     rw [results_eq,hr]
     have:((⟨rs⟩:Array ResultVar).mapM (readRes a.tmps)).run P w=.ok ⟨vals⟩ w:=by
      rw [List.mapM_toArray]
      simp [e1]
     rw [Sem.run_bind,this]
     rfl
    split at h
    ·rename_i d
     subst h
     simp only [List.length_cons,List.length_nil,Nat.zero_add] at f2 f1 f3
     obtain ⟨v,rfl⟩:∃v,vals=[v]:=by
      match vals,(show vals.length=1 by omega) with
      | [v],_=>exact ⟨v,rfl⟩
     refine ⟨v,by rw [run];simp,feet g u,?_,hn,hb⟩
     have:=f3 0 (by omega)
     rw [← f4]
     obtain ⟨fp,rfl⟩:∃fp,fps=[fp]:=by
      match fps,f1 with
      | [fp],_=>exact ⟨fp,rfl⟩
     simpa using this
    ·rename_i ds' hne
     subst h
     have hlen:¬ (⟨vals⟩:Array Value).size=1:=by
      show ¬ vals.length=1
      intro hl
      match ds,hne,(show ds.length=1 by omega) with
      | [d],hne,_=>exact hne d rfl
     refine ⟨.tuple ⟨vals⟩,by rw [run,dif_neg hlen],feet g u,?_,hn,hb⟩
     rw [← f4]
     exact .tup _ _ _ (by omega) f1 f3
   ·exact h.elim
  ·exact h.elim
 ·exact h.elim

theorem look_params {n t:Nat}:∀{ds:List DV},look (params n ds) t=if n≤t∧t<n+ds.length then paramA (ds.getD (t - n) default) else .any
 | []=>by simp [params,look];omega
 | d::ds=>by
  simp only [params,look_cons]
  by_cases h:n=t
  ·subst h;rw [if_pos rfl,if_pos ⟨by omega,by simp⟩];simp
  ·rw [if_neg h,look_params (n:=n+1)]
   by_cases h':n+1≤t∧t<n+1+ds.length
   ·rw [if_pos h',if_pos ⟨by omega,by simp only [List.length_cons];omega⟩]
    have e:t - n=(t - (n+1))+1:=by omega
    rw [e,List.getD_cons_succ]
   ·rw [if_neg h',if_neg (by simp only [List.length_cons];omega)]

theorem dstOk_mono {n m:Nat} (h:n≤m) {o:Oper} (ho:dstOk n o=true):dstOk m o=true:=by
 unfold dstOk at ho ⊢
 split
 ·rename_i d hd;rw [hd] at ho;simp only [Nat.blt_eq] at ho ⊢;omega
 ·rfl

theorem codeOk_mono {n m:Nat} (h:n≤m):∀{c:Code},codeOk n c=true→codeOk m c=true:=by
 intro c
 induction c with
 | region id ops drw=>
  obtain ⟨ops⟩:=ops
  intro hc
  simp only [codeOk,List.all_eq_true] at hc ⊢
  exact fun o ho=>dstOk_mono h (hc o ho)
 | seq x y ihx ihy=>intro hc;simp only [codeOk,Bool.and_eq_true] at hc ⊢;exact ⟨ihx hc.1,ihy hc.2⟩
 | cond c x y ihx ihy=>intro hc;simp only [codeOk,Bool.and_eq_true] at hc ⊢;exact ⟨ihx hc.1,ihy hc.2⟩
 | block id c ih=>intro hc;exact ih hc
 | loop c ih=>intro hc;exact ih hc
 | _=>intro _;rfl

/-- what is to be checked of a function, once -/
def fnOk (fn:Func):Bool:=
 match fn.body with
 | some c=>!(fn.name == "runtime.NumGoroutine") && codeOk fn.ntmps c
 | none=>false

theorem pure_of_body (hT:TOk P T) (hm:P.follows .mixedOrders=true) {F:FuncId} {fn:Func} {ds:List DV} {res:DV} (hf:P.funcs[F]?=some fn) (hok:fnOk fn=true)
  (h:body (Con P) T (draw (Con P) T) fn ds (·=res)):Pure P F ds res:=by
 unfold fnOk at hok
 unfold body at h
 cases hb:fn.body with
 | none=>rw [hb] at hok;simp at hok
 | some c=>
  rw [hb] at h hok
  simp only [Bool.and_eq_true,Bool.not_eq_true'] at hok
  refine ⟨⟨fn,hf,hok.1,by rw [hb];rfl⟩,fun w vs hinv hargs=>?_⟩
  refine calls_of_wp hf hb ?_
  obtain ⟨hl,hin⟩:=hargs
  let BB:Fr:=⟨fun b=>b<w.heap.size,fun b=>b<w.heap.size,[],fun _=>none,fun Q=>Q=P⟩
  let a:Act:={ tmps:=(⟨vs⟩:Array Value)++Array.replicate (fn.ntmps - (⟨vs⟩:Array Value).size) undef,defers:=[] }
  have hsz:fn.ntmps≤a.tmps.size:=by
   have:a.tmps.size=vs.length+(fn.ntmps - vs.length):=by simp [a]
   omega
  have R:Rel BB a.tmps.size w (fun _=>False) ⟨params 0 ds,[],0⟩ a w (·<w.heap.size) noG []:=
   { below:=Keep.refl _ _,hB:=fun _ h=>h,hH:=fun _ h=>absurd rfl h,inv:=fun Q hQ=>(by have hQ:Q=P:=hQ;subst hQ;exact hinv.mono fun _ h _=>h),defers:=rfl,size:=rfl,env:=fun t=>by
      show RV _ (hp w) noG (find []) (fun _=>False) (look (params 0 ds) t) (a.tmps.getD t undef)
      rw [look_params]
      split
      ·rename_i ht
       have hlt:t<vs.length:=by omega
       have e:a.tmps.getD t undef=vs.getD t undef:=by
        simp [a,Array.getElem?_append_left,hlt]
       rw [e]
       exact (hin t (by omega)).rv (fun _ h=>h) (fun _ _=>rfl)
      ·exact .any _,obj:=fun o ao h=>by simp [find] at h,new:=fun _ _=>rfl,nodup:=fun o h=>absurd rfl h,bound:=fun o h=>absurd rfl h,apart:=fun o o' _ h=>absurd rfl h,still:=fun b h=>h,sub:=fun _ h _=>h,xs:=⟨by simp,by simp,by simp⟩ }
  refine run_sound (N:=a.tmps.size) hT (show BB.I P from rfl) hm c (codeOk_mono hsz hok.2) ?_ R (fun _ h=>h.elim) h
  intro e s a' w' S g L R' hL hk
  have fin:done T fn.results.toList s (·=res)→a'.defers=[]∧∃v,(results fn a'.tmps).run P w'=.ok v w'∧(Below w.heap.size w w'∧∃fp,OwnV (hp w') res v fp∧fp.Nodup∧∀b∈fp,w.heap.size≤b∧b<w'.heap.size):=by
   intro hd
   obtain ⟨v,q1,fp,q2,q3,q4⟩:=done_sound hT R' (rs:=fn.results.toList) rfl hd
   exact ⟨R'.defers,v,q1,⟨R'.below.os,R'.below.tape,R'.below.output,R'.below.size,R'.below.block⟩,fp,q2,q3,fun b hb=>⟨Nat.le_of_not_lt (q4 b hb).1,(q4 b hb).2⟩⟩
  cases e with
  | normal=>exact fin hk
  | ret=>exact fin hk
  | exit i=>exact hk.elim

end

end Go.Av
