/- ABSTRACT VALUES: stores. -/
import Derived.Test.YtniibgdokfnomaaGreatAvP
namespace Go.Av
open Go Go.RowKit
set_option linter.unusedSimpArgs false
set_option linter.unusedVariables false

theorem force1_eq {a:AV} {K:AV→Prop}:force1 a K=K a:=by
 cases a with
 | ptr o i j=>cases o <;> rfl
 | sl o=>cases o <;> rfl
 | sub o lo n=>cases o <;> rfl
 | cel o i j=>cases o <;> rfl
 | _=>rfl
theorem forceL_eq:∀{cs:List AV} {K:List AV→Prop},forceL cs K=K cs
 | [],K=>rfl
 | c::cs,K=>by simp only [forceL,force1_eq,forceL_eq]
theorem forceA_eq {a:AV} {K:AV→Prop}:forceA a K=K a:=by
 cases a <;> simp only [forceA,forceL_eq,force1_eq]
theorem forceO_eq {a:Option AO} {K:Option AO→Prop}:forceO a K=K a:=by
 cases a with
 | none=>rfl
 | some o=>
  cases o with
  | box cs=>simp only [forceO,forceL_eq]
  | arr k rows own=>cases own <;> rfl
  | fro k rows=>rfl
  | pin cs=>simp only [forceO,forceL_eq]
  | mp l=>rfl
  | deep k rows=>rfl
theorem forceU_eq:∀{u:Ups} {m:List (Nat×Option AO)} {K:List (Nat×Option AO)→Prop},forceU u m K=K (u++m)
 | [],m,K=>rfl
 | (o,a)::r,m,K=>by
  simp only [forceU,forceU_eq,forceO_eq]
  cases o <;> rfl
theorem put_eq {s:St} {dst:Option Nat} {v:AV} {u:Ups} {K:St→Prop}:s.put dst v u K=K ⟨(match dst with | some t=>(t,v)::s.env | none=>s.env),u++s.mem,s.next+stride⟩:=by
 obtain ⟨env,mem,next⟩:=s
 cases dst <;> simp only [St.put,forceA_eq,forceU_eq,stride]

theorem splice_eq:∀(cs:List AV) (j:Nat) (new:List AV),j+new.length≤cs.length→splice cs j new=cs.take j++new++cs.drop (j+new.length)
 | cs,0,new,_=>by simp [splice]
 | [],j+1,new,h=>by simp at h
 | c::cs,j+1,new,h=>by
  have e:j+1+new.length=(j+new.length)+1:=by omega
  simp only [splice,List.take_succ_cons,List.cons_append,e,List.drop_succ_cons]
  rw [splice_eq cs j new (by simp at h;omega)]

theorem written_getD (cs:Array Value) (p:Nat) (vs:List Value) (i:Nat) (h:p+vs.length≤cs.size):(written cs p vs).getD i undef=if p≤i∧i<p+vs.length then vs.getD (i - p) undef else cs.getD i undef:=by
 unfold written
 have e0:∀(l:List Value),l.toArray.getD i undef=l.getD i undef:=fun l=>by simp
 rw [e0,getD_mid _ _ _ _ _ (by simpa using h)]
 congr 1
 simp [List.getD_eq_getElem?_getD]

/-- what holds behind an operation, told of states -/
abbrev GoalS (P:Program) (B:Fr) (N:Nat) (w₀:World) (a:Act) (w:World) (K:St→Prop) (o:Oper) (Q:Exit→Act→World→Prop):Prop:=
 o.wp P a w (fun a' w'=>∃s' S' g' L',K s'∧Rel B N w₀ L' s' a' w' S' g' []∧∀x,L' x→x<s'.next) Q

section
variable {P:Program} {T:Tab} {C:Contract} {B:Fr} {N:Nat} {L:Nat→Prop} {w₀ w:World} {s:St} {a:Act} {S:Nat→Prop} {g:Nat→OG} {id:Nat} {K:St→Prop} {o:Oper} {Q:Exit→Act→World→Prop} {X:List Nat}

/-- a variable's cells are written -/
theorem Rel.writeBox (R:Rel B N w₀ L s a w S g X) {ob j:Nat} {cs new:List AV} {nv:List Value} (hm:find s.mem ob=some (.box cs)) (hne:nv≠[]) (hl:nv.length=new.length) (hj:j+new.length≤cs.length) (h1:∀v∈nv,v.oneCell'=true)
  (hin:∀i,i<new.length→RV S (hp w) g (find s.mem) L (new.getD i .any) (nv.getD i undef)):
  ∃cs0 e fr g',hp w (g ob).b=some (.cells cs0 e fr)∧free fr cs0.size∧j+nv.length≤cs0.size∧Rel B N w₀ L ⟨s.env,(ob,some (.box (splice cs j new)))::s.mem,s.next⟩ a (w.setRow (g ob).b (written cs0 j nv)) S g' X:=by
 have hne':find s.mem ob≠none:=by rw [hm];simp
 have hro:=R.obj ob _ hm
 have hnd:=R.nodup ob hne'
 have hbd:=R.bound ob hne'
 have hap:∀o',o'≠ob→find s.mem o'≠none→∀b∈(g o').foot,b∉(g ob).foot:=fun o' e h=>R.apart o' ob e h hne'
 have hx:=R.xs.2.2 ob hne'
 have hL:=names R hne'
 generalize hG:g ob=G at hro hnd hbd hap hx ⊢
 cases hro with
 | box cs b vs e fr hb hfr hl' h1' hin' hB hS=>
  have hb':w.heap[b]?=some (.cells ⟨vs⟩ e fr):=hb
  have hle:j+nv.length≤(⟨vs⟩:Array Value).size:=by show j+nv.length≤vs.length;omega
  refine ⟨⟨vs⟩,e,fr,setG g ob ⟨.pointer (some ⟨b,0,none⟩),b,0,[b],1,noHd⟩,hb,hfr,hle,?_⟩
  have hother:∀b',b'≠b→hp (w.setRow b (written ⟨vs⟩ j nv)) b'=hp w b':=fun b' h=>setRow_other w b b' _ h
  have hS':∀b',S b'→hp (w.setRow b (written ⟨vs⟩ j nv)) b'=hp w b':=fun b' h=>hother b' fun e=>hS (e ▸ h)
  have st:Step S S (hp w) (hp (w.setRow b (written ⟨vs⟩ j nv))) g (setG g ob ⟨.pointer (some ⟨b,0,none⟩),b,0,[b],1,noHd⟩) (find s.mem) (find ((ob,some (.box (splice cs j new)))::s.mem)) L L:=by
   refine ⟨fun _ h=>h,hS',fun o' _ _=>?_,fun o' _ hm'=>?_,fun _ h=>h⟩
   ·by_cases e:o'=ob
    ·subst e;rw [setG_same,hG];exact ⟨rfl,fun _=>rfl,rfl,rfl,fun _=>rfl⟩
    ·rw [setG_ne e];exact ⟨rfl,fun _=>rfl,rfl,rfl,fun _=>rfl⟩
   ·by_cases e:o'=ob
    ·subst e;exact hne'
    ·rw [find_cons,if_neg (fun x=>e x.symm)] at hm';exact hm'
  have hbelow:Keep B w (w.setRow b (written ⟨vs⟩ j nv)):=⟨rfl,rfl,rfl,by simp,fun i hi=>setRow_other w b i _ (fun e=>hB (e ▸ hi))⟩
  refine R.turnW (S':=S) (X':=X) hbelow hS' ob
   (fun o' e ho' x hx=>hother x (fun e'=>hap o' e ho' x hx (by simp [e']))) _ (some (.box (splice cs j new))) (fun _ h=>h) (fun _ h=>.inl h) (fun _ h=>h) (fun _=>hL)
   (fun _ _ _=>by rw [hG];exact ⟨rfl,rfl,rfl,rfl,rfl⟩) (fun _ _=>hne') (fun _ _ _ _ _ hs=>hs)
   (fun ao hao=>?_) (fun _=>⟨hnd,fun x hx=>by simpa using hbd x hx⟩) (fun _ o' e ho' x hx hx'=>hap o' e ho' x hx' hx)
   ⟨R.xs.1,R.xs.2.1,fun o' _ ho'=>R.xs.2.2 o' ho',fun _ x hx'=>hx x hx'⟩
  simp only [Option.some.injEq] at hao;subst hao
  have el:(vs.take j++nv++vs.drop (j+nv.length)).length=vs.length:=mid_length _ _ _ (by omega)
  have es:(splice cs j new).length=cs.length:=by rw [splice_eq _ _ _ hj,mid_length _ _ _ hj]
  refine .box _ b (vs.take j++nv++vs.drop (j+nv.length)) e fr (setRow_heap w b ⟨vs⟩ _ e fr hb') (by rw [el];exact hfr) (by rw [el,es];exact hl') (fun v hv=>?_) (fun i hi=>?_) hB hS
  ·simp only [List.mem_append] at hv
   rcases hv with (hv | hv) | hv
   ·exact h1' v (List.mem_of_mem_take hv)
   ·exact h1 v hv
   ·exact h1' v (List.mem_of_mem_drop hv)
  ·have e1:(splice cs j new).getD i .any=if j≤i∧i<j+new.length then new.getD (i - j) .any else cs.getD i .any:=by rw [splice_eq _ _ _ hj,getD_mid _ _ _ _ _ hj]
   rw [e1,getD_mid _ _ _ _ _ (by omega),hl]
   split
   ·exact (hin _ (by omega)).step st
   ·exact (hin' i (by omega)).step st

/-- a row's cells are written -/
theorem Rel.writeArr {f':List (List Nat)} (R:Rel B N w₀ L s a w S g (f'.flatten++X)) {ob k r j:Nat} {rows:List (List D)} {row ds:List D} {own own':Bool} {nv:List Value} (hm:find s.mem ob=some (.arr k rows own)) (hr:rows[r]?=some row)
  (hl:nv.length=ds.length) (hj:j+ds.length≤k) (d2:∀i,i<ds.length→Data S (hp w) (ds.getD i default) (nv.getD i undef))
  (ho:own'=true→f'.length=ds.length∧∀i,i<ds.length→Own (hp w) (ds.getD i default) (nv.getD i undef) (f'.getD i [])):
  ∃cs0 e fr g',hp w (g ob).b=some (.cells cs0 e fr)∧free fr cs0.size∧(g ob).k=k∧r * k+j+nv.length≤cs0.size∧
   Rel B N w₀ L ⟨s.env,(ob,some (.arr k (rows.set r (row.take j++ds++row.drop (j+ds.length))) (andB own' own)))::s.mem,s.next⟩ a (w.setRow (g ob).b (written cs0 (r * k+j) nv)) S g' X:=by
 have hne':find s.mem ob≠none:=by rw [hm];simp
 have hro:=R.obj ob _ hm
 have hnd:=R.nodup ob hne'
 have hbd:=R.bound ob hne'
 have hap:∀o',o'≠ob→find s.mem o'≠none→∀b∈(g o').foot,b∉(g ob).foot:=fun o' e h=>R.apart o' ob e h hne'
 have hx:=R.xs.2.2 ob hne'
 have hL:=names R hne'
 have xnd:=R.xs.1
 rw [List.nodup_append] at xnd
 generalize hG:g ob=G at hro hnd hbd hap hx ⊢
 cases hro with
 | nil=>simp at hr
 | arr k rows own b cap cs e fr fps hb hfr hk hrow hcap hmax hsz hin hown hno hB hS=>
  have hb':w.heap[b]?=some (.cells cs e fr):=hb
  have hlen:row.length=k:=hrow row (List.mem_of_getElem? hr)
  have hlt:r<rows.length:=(List.getElem?_eq_some_iff.1 hr).1
  have hle0:r * k+k≤rows.length * k:=by rw [← Nat.succ_mul];exact Nat.mul_le_mul_right _ hlt
  have hle1:rows.length * k≤cap * k:=Nat.mul_le_mul_right _ hcap
  have hle:r * k+j+nv.length≤cs.size:=by omega
  generalize hO:andB own' own=O
  have hO':O=true→own'=true∧own=true:=by subst hO;exact and_true_of
  let p:=r * k+j
  let F:List (List Nat):=if O=true then fps.take p++f'++fps.drop (p+f'.length) else []
  have hFm:∀x∈F.flatten,O=true∧(x∈fps.flatten∨x∈f'.flatten):=by
   intro x hx
   by_cases h:O=true
   ·simp only [F,h,if_true,List.flatten_append,List.mem_append] at hx
    refine ⟨h,?_⟩
    rcases hx with (hx | hx) | hx
    ·obtain ⟨l,hl,hx⟩:=List.mem_flatten.1 hx
     exact .inl (List.mem_flatten.2 ⟨l,List.mem_of_mem_take hl,hx⟩)
    ·exact .inr hx
    ·obtain ⟨l,hl,hx⟩:=List.mem_flatten.1 hx
     exact .inl (List.mem_flatten.2 ⟨l,List.mem_of_mem_drop hl,hx⟩)
   ·simp [F,h] at hx
  rw [List.nodup_cons] at hnd
  have hbf:b∉f'.flatten:=fun h=>hx b (by simp) (List.mem_append_left _ h)
  have hFnd:(b::F.flatten).Nodup:=by
   rw [List.nodup_cons]
   refine ⟨fun h=>(hFm b h).2.elim hnd.1 hbf,?_⟩
   by_cases h:O=true
   ·simp only [F,h,if_true,List.flatten_append]
    have sub:List.Sublist (fps.take p++fps.drop (p+f'.length)) fps:=by
     conv=>rhs;rw [← List.take_append_drop p fps]
     refine List.Sublist.append (List.Sublist.refl _) ?_
     have e0:fps.drop (p+f'.length)=(fps.drop p).drop f'.length:=by rw [List.drop_drop]
     rw [e0]
     exact List.drop_sublist _ _
    have n1:((fps.take p).flatten++(fps.drop (p+f'.length)).flatten).Nodup:=by
     rw [← List.flatten_append]
     exact (flatten_sub sub).nodup hnd.2
    have pm:((fps.take p).flatten++f'.flatten++(fps.drop (p+f'.length)).flatten).Perm (f'.flatten++((fps.take p).flatten++(fps.drop (p+f'.length)).flatten)):=by
     rw [← List.append_assoc]
     exact List.Perm.append_right _ List.perm_append_comm
    rw [pm.nodup_iff,List.nodup_append]
    refine ⟨xnd.1,n1,fun x hx1 y hy=>?_⟩
    rintro rfl
    refine hx x (List.mem_cons_of_mem _ ?_) (List.mem_append_left _ hx1)
    rw [← List.flatten_append] at hy
    exact (flatten_sub sub).subset hy
   ·simp [F,h]
  have hFS:∀x∈F.flatten,S x:=by
   intro x hx'
   obtain ⟨h,hx'⟩:=hFm x hx'
   rcases hx' with hx' | hx'
   ·exact (hown (hO' h).2).2.2 x hx'
   ·exact (R.xs.2.1 x (List.mem_append_left _ hx')).2
  have hother:∀b',b'≠b→hp (w.setRow b (written cs (r * k+j) nv)) b'=hp w b':=fun b' h=>setRow_other w b b' _ h
  have hS':∀b',S b'→hp (w.setRow b (written cs (r * k+j) nv)) b'=hp w b':=fun b' h=>hother b' fun e=>hS (e ▸ h)
  have hbelow:Keep B w (w.setRow b (written cs (r * k+j) nv)):=⟨rfl,rfl,rfl,by simp,fun i hi=>setRow_other w b i _ (fun e=>hB (e ▸ hi))⟩
  refine ⟨cs,e,fr,setG g ob ⟨.slice (some ⟨b,0,none⟩) rows.length cap,b,k,b::F.flatten,rows.length,noHd⟩,hb,hfr.weak,rfl,hle,?_⟩
  refine R.turnW (S':=S) (X':=X) hbelow hS' ob (fun o' e ho' x hx=>hother x (fun e'=>hap o' e ho' x hx (by simp [e']))) _ (some (.arr k (rows.set r (row.take j++ds++row.drop (j+ds.length))) O)) (fun _ h=>h) (fun _ h=>.inl h) (fun _ h=>h) (fun _=>hL)
   (fun _ _ _=>by rw [hG];exact ⟨rfl,rfl,rfl,rfl,rfl⟩) (fun _ _=>hne') (fun _ _ _ _ _ hs=>hs)
   (fun ao hao=>?_) (fun _=>⟨hFnd,fun x hx=>?_⟩) (fun _ o' e' ho' x hx1 hx2=>?_)
   ⟨xnd.2.1,fun x hx=>R.xs.2.1 x (List.mem_append_right _ hx),fun o' _ ho' x hx hx'=>R.xs.2.2 o' ho' x hx (List.mem_append_right _ hx'),fun _ x hx1 hx2=>?_⟩
  ·simp only [Option.some.injEq] at hao;subst hao
   have hc:∀i,i<rows.length * k→(written cs (r * k+j) nv).getD i undef=if r * k+j≤i∧i<r * k+j+ds.length then nv.getD (i - (r * k+j)) undef else cs.getD i undef:=by
    intro i hi;rw [getD_written _ _ _ hle,hl]
   have harr:=RO.arr (S:=S) (h:=hp (w.setRow b (written cs (r * k+j) nv))) (g:=setG g ob ⟨.slice (some ⟨b,0,none⟩) rows.length cap,b,k,b::F.flatten,rows.length,noHd⟩) (m:=find ((ob,some (.arr k (rows.set r (row.take j++ds++row.drop (j+ds.length))) O))::s.mem)) (L:=L) (B:=B)
    k (rows.set r (row.take j++ds++row.drop (j+ds.length))) O b cap (written cs (r * k+j) nv) e fr F (setRow_heap w b cs _ e fr hb') (by rw [size_written _ _ _ hle];exact hfr) hk
    (fun x hx=>by
     rcases List.mem_or_eq_of_mem_set hx with hx | rfl
     ·exact hrow x hx
     ·rw [mid_length _ _ _ (by omega)];exact hlen)
    (by simpa using hcap) hmax (by rw [size_written _ _ _ hle];exact hsz)
    (fun i hi=>by
     simp only [List.length_set] at hi
     rw [hc i hi,set_at hrow hr hj i hi]
     split
     ·exact (d2 _ (by omega)).mono (fun _ h=>h) hS'
     ·exact (hin i hi).mono (fun _ h=>h) hS')
    (fun hw=>by
     obtain ⟨w1,w2⟩:=hO' hw
     obtain ⟨p1,p2,p3⟩:=hown w2
     obtain ⟨q1,q2⟩:=ho w1
     have eF:F=fps.take p++f'++fps.drop (p+f'.length):=by simp [F,hw]
     have hpl:p+f'.length≤fps.length:=by rw [q1,p1];simp only [p];omega
     refine ⟨by rw [eF,mid_length _ _ _ hpl,p1];simp,fun i hi=>?_,hFS⟩
     simp only [List.length_set] at hi
     rw [hc i hi,set_at hrow hr hj i hi,eF,getD_mid _ _ _ _ _ hpl,q1]
     split
     ·refine (q2 _ (by omega)).mono fun x hx'=>hS' x ?_
      exact (R.xs.2.1 x (List.mem_append_left _ (mem_flatten_of_getD hx'))).2
     ·exact (p2 i hi).mono fun x hx'=>hS' x (p3 x (mem_flatten_of_getD hx')))
    (fun hw=>by simp [F,hw]) hB hS
   simpa using harr
  ·rcases List.mem_cons.1 hx with rfl | hx
   ·have:=hbd x (by simp);simpa using this
   ·obtain ⟨h,hx'⟩:=hFm x hx
    refine ⟨?_,by simpa using R.still x (hFS x hx)⟩
    rcases hx' with hx' | hx'
    ·exact (hbd x (List.mem_cons_of_mem _ hx')).1
    ·exact (R.xs.2.1 x (List.mem_append_left _ hx')).1
  ·rcases List.mem_cons.1 hx1 with rfl | hx1
   ·exact hap o' e' ho' _ hx2 (by simp)
   ·rcases (hFm x hx1).2 with h | h
    ·exact hap o' e' ho' x hx2 (List.mem_cons_of_mem _ h)
    ·exact R.xs.2.2 o' ho' x hx2 (List.mem_append_left _ h)
  ·rcases List.mem_cons.1 hx1 with rfl | hx1
   ·exact hx x (by simp) (List.mem_append_right _ hx2)
   ·rcases (hFm x hx1).2 with h | h
    ·exact hx x (List.mem_cons_of_mem _ h) (List.mem_append_right _ hx2)
    ·exact xnd.2.2 x h x hx2 rfl

/-- scalars are written over scalars of a deep object -/
theorem Rel.writeDeep (R:Rel B N w₀ L s a w S g X) {ob k r j:Nat} {rows:List (List D)} {row ds:List D} {nv:List Value} (hm:find s.mem ob=some (.deep k rows)) (hr:rows[r]?=some row)
  (hl:nv.length=ds.length) (hj:j+ds.length≤k) (hds:∀i,i<ds.length→ds.getD i default=.v (nv.getD i undef)∧(nv.getD i undef).oneCell'=true) (hold:∀i,i<ds.length→∃y,row.getD (j+i) default=.v y):
  ∃cs0 e fr g',hp w (g ob).b=some (.cells cs0 e fr)∧free fr cs0.size∧(g ob).k=k∧r * k+j+nv.length≤cs0.size∧
   Rel B N w₀ L ⟨s.env,(ob,some (.deep k (rows.set r (row.take j++ds++row.drop (j+ds.length)))))::s.mem,s.next⟩ a (w.setRow (g ob).b (written cs0 (r * k+j) nv)) S g' X:=by
 have hne':find s.mem ob≠none:=by rw [hm];simp
 have hro:=R.obj ob _ hm
 have hnd:=R.nodup ob hne'
 have hbd:=R.bound ob hne'
 have hap:∀o',o'≠ob→find s.mem o'≠none→∀b∈(g o').foot,b∉(g ob).foot:=fun o' e h=>R.apart o' ob e h hne'
 have hx:=R.xs.2.2 ob hne'
 have hL:=names R hne'
 generalize hG:g ob=G at hro hnd hbd hap hx ⊢
 cases hro with
 | dnil=>simp at hr
 | @deep hd _ _ b cap cs e fr fps hb hfr hk hrow hcap hmax hsz hfl hin hhd hB hH=>
  have hb':w.heap[b]?=some (.cells cs e fr):=hb
  have hlen:row.length=k:=hrow row (List.mem_of_getElem? hr)
  have hlt:r<rows.length:=(List.getElem?_eq_some_iff.1 hr).1
  have hle0:r * k+k≤rows.length * k:=by rw [← Nat.succ_mul];exact Nat.mul_le_mul_right _ hlt
  have hle1:rows.length * k≤cap * k:=Nat.mul_le_mul_right _ hcap
  have hle:r * k+j+nv.length≤cs.size:=by omega
  rw [List.nodup_cons] at hnd
  have hbB:=hB b (by simp)
  have hother:∀b',b'≠b→hp (w.setRow b (written cs (r * k+j) nv)) b'=hp w b':=fun b' h=>setRow_other w b b' _ h
  have hS':∀b',S b'→hp (w.setRow b (written cs (r * k+j) nv)) b'=hp w b':=fun b' h=>hother b' fun e=>hbB.2 (e ▸ h)
  have hbelow:Keep B w (w.setRow b (written cs (r * k+j) nv)):=⟨rfl,rfl,rfl,by simp,fun i hi=>setRow_other w b i _ (fun e=>hbB.1 (e ▸ hi))⟩
  refine ⟨cs,e,fr,setG g ob ⟨.slice (some ⟨b,0,none⟩) rows.length cap,b,k,b::fps.flatten,rows.length,hd⟩,hb,hfr.weak,rfl,hle,?_⟩
  refine R.turnW (S':=S) (X':=X) hbelow hS' ob (fun o' e ho' x hx=>hother x (fun e'=>hap o' e ho' x hx (by simp [e']))) _ (some (.deep k (rows.set r (row.take j++ds++row.drop (j+ds.length))))) (fun _ h=>h) (fun _ h=>.inl h) (fun _ h=>h) (fun _=>hL)
   (fun _ _ _=>by rw [hG];exact ⟨rfl,rfl,rfl,rfl,rfl⟩) (fun _ _=>hne') (fun _ _ _ _ _ hs=>hs)
   (fun ao hao=>?_) (fun _=>⟨by rw [List.nodup_cons];exact hnd,fun x hx=>by simpa using hbd x hx⟩) (fun _ o' e' ho' x hx1 hx2=>hap o' e' ho' x hx2 hx1)
   ⟨R.xs.1,fun x hx=>R.xs.2.1 x hx,fun o' _ ho' x hx hx'=>R.xs.2.2 o' ho' x hx hx',fun _ x hx1 hx2=>hx x hx1 hx2⟩
  simp only [Option.some.injEq] at hao;subst hao
  have hc:∀i,i<rows.length * k→(written cs (r * k+j) nv).getD i undef=if r * k+j≤i∧i<r * k+j+ds.length then nv.getD (i - (r * k+j)) undef else cs.getD i undef:=by
   intro i hi;rw [getD_written _ _ _ hle,hl]
  have hdp:=RO.deep (hd:=hd) (S:=S) (h:=hp (w.setRow b (written cs (r * k+j) nv))) (g:=setG g ob ⟨.slice (some ⟨b,0,none⟩) rows.length cap,b,k,b::fps.flatten,rows.length,hd⟩) (m:=find ((ob,some (.deep k (rows.set r (row.take j++ds++row.drop (j+ds.length)))))::s.mem)) (L:=L) (B:=B)
   k (rows.set r (row.take j++ds++row.drop (j+ds.length))) b cap (written cs (r * k+j) nv) e fr fps (setRow_heap w b cs _ e fr hb') (by rw [size_written _ _ _ hle];exact hfr) hk
   (fun x hx=>by
    rcases List.mem_or_eq_of_mem_set hx with hx | rfl
    ·exact hrow x hx
    ·rw [mid_length _ _ _ (by omega)];exact hlen)
   (by simpa using hcap) hmax (by rw [size_written _ _ _ hle];exact hsz) (by simpa using hfl)
   (fun i hi=>by
    simp only [List.length_set] at hi
    rw [hc i hi,set_at hrow hr hj i hi]
    have old:=hin i hi
    split
    ·rename_i c
     obtain ⟨q1,q2⟩:=hds (i - (r * k+j)) (by omega)
     obtain ⟨y,hy⟩:=hold (i - (r * k+j)) (by omega)
     have ei:i=r * k+(j+(i - (r * k+j))):=by omega
     have e1:rows.flatten.getD i default=.v y:=by
      have:=row_at r (j+(i - (r * k+j))) row hrow hr (by omega)
      rw [← ei] at this
      rw [this,hy]
     rw [e1] at old
     rw [q1]
     generalize fps.getD i []=fp at old ⊢
     cases old with
     | v _ _=>exact .v _ q2
    ·exact old.mono fun x hx'=>hother x fun e'=>hnd.1 (e' ▸ mem_flatten_of_getD hx'))
   (fun i k2 rows2 hi he=>by
    simp only [List.length_set] at hi
    rw [set_at hrow hr hj i hi] at he
    rw [hc i hi]
    split at he
    ·obtain ⟨q1,_⟩:=hds (i - (r * k+j)) (by omega)
     rw [q1] at he;simp at he
    ·rename_i c
     rw [if_neg c]
     exact hhd i k2 rows2 hi he) hB (by simpa using hH)
  simpa using hdp

theorem scalD_get {S:Nat→Prop} {h:Nat→Option Obj} {m:Nat→Option AO}:∀{new:List AV} {ds:List D} {nv:List Value},scalD new=some ds→nv.length=new.length→(∀i,i<new.length→RV S h g m L (new.getD i .any) (nv.getD i undef))→
  ds.length=new.length∧∀i,i<ds.length→ds.getD i default=.v (nv.getD i undef)∧(nv.getD i undef).oneCell'=true
 | [],ds,nv,h,_,_=>by simp [scalD] at h;subst h;simp
 | c::new,ds,[],h,hl,_=>by simp at hl
 | c::new,ds,v::nv,h,hl,hin=>by
  have h0:=hin 0 (by simp)
  simp only [List.getD_cons_zero] at h0
  unfold scalD at h
  split at h
  ·rename_i e;simp at e
  ·rename_i y n e
   simp only [List.cons.injEq] at e
   obtain ⟨rfl,rfl⟩:=e
   split at h
   ·rename_i r hr
    simp only [Option.some.injEq] at h;subst h
    obtain ⟨q1,q2⟩:=scalD_get (nv:=nv) hr (by simpa using hl) (fun i hi=>by simpa using hin (i+1) (by simpa using hi))
    refine ⟨by simp [q1],fun i hi=>?_⟩
    cases i with
    | zero=>
     simp only [List.getD_cons_zero]
     cases h0 with
     | d _ _ hd=>cases hd with
      | v _ hx=>exact ⟨rfl,hx⟩
    | succ i=>simpa using q2 i (by simpa using hi)
   ·simp at h
  ·simp at h

theorem allV_get:∀{l:List D},allV l=true→∀i,i<l.length→∃y,l.getD i default=.v y
 | [],_,i,hi=>by simp at hi
 | .v y::r,h,0,_=>⟨y,rfl⟩
 | .v y::r,h,i+1,hi=>by simpa using allV_get (l:=r) (by simpa [allV] using h) i (by simpa using hi)
 | .sl _ _::r,h,_,_=>by simp [allV] at h

end

end Go.Av
