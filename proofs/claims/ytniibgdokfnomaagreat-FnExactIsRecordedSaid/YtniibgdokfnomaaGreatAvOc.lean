/- ABSTRACT VALUES: calls that turn a slice in a deep object's cell. -/
import Derived.Test.YtniibgdokfnomaaGreatAvOt
namespace Go.Av
open Go Go.RowKit
set_option linter.unusedSimpArgs false
set_option linter.unusedVariables false

theorem flatten_sub {α:Type} {x y:List (List α)} (h:List.Sublist x y):List.Sublist x.flatten y.flatten:=by
 induction h with
 | slnil=>exact List.Sublist.refl _
 | cons a h ih=>rw [List.flatten_cons];exact ih.trans (List.sublist_append_right _ _)
 | cons_cons a h ih=>rw [List.flatten_cons,List.flatten_cons];exact List.Sublist.append (List.Sublist.refl _) ih

theorem getD_mid {α:Type} (x y:List α) (p i:Nat) (d:α) (h:p+y.length≤x.length):(x.take p++y++x.drop (p+y.length)).getD i d=if p≤i∧i<p+y.length then y.getD (i - p) d else x.getD i d:=by
 have hl:(x.take p).length=p:=by simp;omega
 rw [getD_append,getD_append,hl,List.length_append,hl]
 by_cases h1:i<p
 ·rw [if_pos (by omega),if_pos h1,if_neg (by omega),getD_take _ _ _ _ h1]
 ·by_cases h2:i<p+y.length
  ·rw [if_pos h2,if_neg h1,if_pos (by omega)]
  ·rw [if_neg h2,if_neg (by omega),getD_drop]
   congr 1;omega

theorem mid_length {α:Type} (x y:List α) (p:Nat) (h:p+y.length≤x.length):(x.take p++y++x.drop (p+y.length)).length=x.length:=by
 simp;omega

/-- a row's part replaced, told cell by cell -/
theorem set_at {rows:List (List D)} {k r j:Nat} {row ds:List D} (hrow:∀x∈rows,x.length=k) (hr:rows[r]?=some row) (hj:j+ds.length≤k) (i:Nat) (hi:i<rows.length * k):
  (rows.set r (row.take j++ds++row.drop (j+ds.length))).flatten.getD i default=if r * k+j≤i∧i<r * k+j+ds.length then ds.getD (i - (r * k+j)) default else rows.flatten.getD i default:=by
 have hlen:row.length=k:=hrow row (List.mem_of_getElem? hr)
 have hk:0<k:=by
  rcases Nat.eq_zero_or_pos k with e | e
  ·subst e;simp at hi
  ·exact e
 have hlt:r<rows.length:=(List.getElem?_eq_some_iff.1 hr).1
 have hrow':∀x∈rows.set r (row.take j++ds++row.drop (j+ds.length)),x.length=k:=by
  intro x hx
  rcases List.mem_or_eq_of_mem_set hx with hx | rfl
  ·exact hrow x hx
  ·rw [mid_length _ _ _ (by omega)];exact hlen
 have hq:i / k<rows.length:=by rw [Nat.div_lt_iff_lt_mul hk];exact hi
 have hm:i % k<k:=Nat.mod_lt _ hk
 have ei:i / k * k+i % k=i:=by rw [Nat.mul_comm];exact Nat.div_add_mod i k
 by_cases e:i / k=r
 ·have h1:=row_at (rows:=rows.set r (row.take j++ds++row.drop (j+ds.length))) r (i % k) (row.take j++ds++row.drop (j+ds.length)) hrow' (by simp [hlt]) hm
  have h2:=row_at (rows:=rows) r (i % k) row hrow hr hm
  rw [← e,ei] at h1 h2
  rw [← e] at hr ⊢
  rw [h1,h2,getD_mid _ _ _ _ _ (by omega)]
  by_cases hc:j≤i % k∧i % k<j+ds.length
  ·rw [if_pos hc,if_pos (by omega)];congr 1;omega
  ·rw [if_neg hc,if_neg (by omega)]
 ·obtain ⟨row2,hr2⟩:∃x,rows[i / k]?=some x:=⟨_,List.getElem?_eq_getElem hq⟩
  have h1:=row_at (rows:=rows.set r (row.take j++ds++row.drop (j+ds.length))) (i / k) (i % k) row2 hrow' (by rw [List.getElem?_set_ne (fun h=>e h.symm)];exact hr2) hm
  have h2:=row_at (rows:=rows) (i / k) (i % k) row2 hrow hr2 hm
  rw [ei] at h1 h2
  rw [h1,h2,if_neg]
  intro ⟨c1,c2⟩
  apply e
  have a1:r≤i / k:=by rw [Nat.le_div_iff_mul_le hk];omega
  have a2:i / k<r+1:=by rw [Nat.div_lt_iff_lt_mul hk,Nat.succ_mul];omega
  omega

theorem nodup_flat {α:Type}:∀{l:List (List α)},l.flatten.Nodup→(∀x∈l,x.Nodup)∧l.Pairwise fun a b=>∀x∈a,x∉b
 | [],_=>by simp
 | a::r,h=>by
  simp only [List.flatten_cons,List.nodup_append] at h
  obtain ⟨h1,h2,h3⟩:=h
  obtain ⟨q1,q2⟩:=nodup_flat h2
  refine ⟨fun x hx=>?_,?_⟩
  ·rcases List.mem_cons.1 hx with rfl | hx
   ·exact h1
   ·exact q1 x hx
  ·rw [List.pairwise_cons]
   exact ⟨fun b hb x hx hx'=>h3 x hx x (List.mem_flatten.2 ⟨b,hb,hx'⟩) rfl,q2⟩
theorem getD_apart {fps:List (List Nat)} (hn:fps.flatten.Nodup) {i p:Nat} (h:i≠p) {x:Nat} (h1:x∈fps.getD i []) (h2:x∈fps.getD p []):False:=by
 rw [List.getD_eq_getElem?_getD] at h1 h2
 cases e1:fps[i]? with
 | none=>rw [e1] at h1;simp at h1
 | some l1=>cases e2:fps[p]? with
  | none=>rw [e2] at h2;simp at h2
  | some l2=>
   rw [e1] at h1;rw [e2] at h2
   simp only [Option.getD_some] at h1 h2
   obtain ⟨b1,c1⟩:=List.getElem?_eq_some_iff.1 e1
   obtain ⟨b2,c2⟩:=List.getElem?_eq_some_iff.1 e2
   have pw:=List.pairwise_iff_getElem.1 (nodup_flat hn).2
   subst c1;subst c2
   rcases Nat.lt_or_gt_of_ne h with hlt | hlt
   ·exact pw i p b1 b2 hlt x h1 h2
   ·exact pw p i b2 b1 hlt x h2 h1

theorem scal_rv {S:Nat→Prop} {h:Nat→Option Obj} {g g1:Nat→OG} {m m1:Nat→Option AO} {L L1:Nat→Prop}:∀{rest:List AV},scal rest=true→∀i,i<rest.length→∀v,RV S h g m L (rest.getD i .any) v→RV S h g1 m1 L1 (rest.getD i .any) v
 | [],_,i,hi,_,_=>by simp at hi
 | c::r,hs,i,hi,v,hv=>by
  unfold scal at hs
  split at hs
  ·rename_i e;simp at e
  ·rename_i x r' e
   simp only [List.cons.injEq] at e
   obtain ⟨rfl,rfl⟩:=e
   cases i with
   | zero=>simp only [List.getD_cons_zero] at hv ⊢;cases hv with
    | d _ _ hd=>exact .d _ _ hd
   | succ i=>simp only [List.getD_cons_succ] at hv ⊢;exact scal_rv hs i (by simpa using hi) v hv
  ·simp at hs

section
variable {P:Program} {T:Tab} {C:Contract} {B:Fr} {N:Nat} {L:Nat→Prop} {w₀ w:World} {s:St} {a:Act} {S:Nat→Prop} {g:Nat→OG} {id:Nat} {K:AV→Ups→Prop} {o:Oper} {Q:Exit→Act→World→Prop} {X:List Nat}

theorem sound_cel (hP:B.I P) (hC:∀g args objs objs' rv,C.t g args objs objs' rv→Turn P g args objs objs' rv) (R:Rel B N w₀ L s a w S g []) {f:Operand} {xs:List Operand} {ts:List TypeId} (ho:o.op=.call { callee:=.value f,args:=⟨xs⟩,argTypes:=⟨ts⟩ }) {gf:FuncId} {caps:List AV} (hf:evA T s 0 f=.fn gf caps) (h:celA C (find s.mem) gf (mapT (evA T s) ts xs++caps) K):
  Goal P B N w₀ L s a w id K o Q:=by
 have ef:=R.ev (T:=T) 0 f
 rw [hf] at ef
 generalize hfv:a.eval f=fv at ef
 cases ef with
 | fn _ _ vcaps hl hin=>
 obtain ⟨l1,r1⟩:=rv_mapT (T:=T) R ts xs
 have hargs:∀i,i<(mapT (evA T s) ts xs++caps).length→RV S (hp w) g (find s.mem) L ((mapT (evA T s) ts xs++caps).getD i .any) ((xs.map a.eval++vcaps).getD i undef):=by
  intro i hi
  rw [getD_append,getD_append,l1,List.length_map]
  split
  ·rename_i hlt;exact r1 i hlt
  ·exact hin _ (by simp [l1] at hi;omega)
 have hlen:(xs.map a.eval++vcaps).length=(mapT (evA T s) ts xs++caps).length:=by simp [l1,hl]
 generalize mapT (evA T s) ts xs++caps=A at h hargs hlen
 generalize hvs:xs.map a.eval++vcaps=vs at hargs hlen
 unfold celA at h
 split at h
 ·rename_i ob r j rest
  split at h
  ·rename_i k rows hm hsc
   obtain ⟨hr,h⟩:=h
   obtain ⟨row,hrow⟩:∃row,rows[r]?=some row:=⟨_,List.getElem?_eq_getElem hr⟩
   have h:=h row hrow
   split at h
   ·rename_i k' rows' hj
    split at h
    ·rename_i hk1
     have hk1:=Nat.le_of_ble_eq_true hk1
     obtain ⟨rows'',x,ht,hK⟩:=h
     have ht:=hC _ _ _ _ _ ht
     obtain ⟨fn,hfn,hname,hbody⟩:=ht.fn
     have hrun:(execOp a.eval o).run P w=.ok (.enter gf ⟨vs⟩) w:=by
      have hname':¬ (fn.name = "runtime.NumGoroutine"):=by simpa using hname
      have hbody':¬ (fn.body=none):=by intro e;rw [e] at hbody;simp at hbody
      simp [execOp,ho,resolve,invoke,Deferred.ofValue,hfv,callFunc,hfn,hname',hbody',hvs]
     unfold Goal Oper.wp
     rw [hrun,Oper.upon_enter]
     have h0:=hargs 0 (by simp)
     simp only [List.getD_cons_zero] at h0
     have hne:find s.mem ob≠none:=by rw [hm];simp
     generalize hv0:vs.getD 0 undef=v0 at h0
     cases h0 with
     | cel _ _ _ _ hLo h1 hv=>
     have ev:=(hv hne).1
     have hro:=R.obj ob _ hm
     have hnd:=R.nodup ob hne
     have hbd:=R.bound ob hne
     have hap:∀o',o'≠ob→find s.mem o'≠none→∀b∈(g o').foot,b∉(g ob).foot:=fun o' e h=>R.apart o' ob e h hne
     generalize hG:g ob=G at hro hnd hbd hap ev
     cases hro with
     | dnil=>simp at hrow
     | @deep hd _ _ b cap cs e fr fps hb hfr hk hrw hcap hmax hsz hfl hinn hhd hB hH=>
     have hlenr:row.length=k:=hrw row (List.mem_of_getElem? hrow)
     have hjk:j<k:=by have:=(List.getElem?_eq_some_iff.1 hj).1;omega
     have hle0:r * k+k≤rows.length * k:=by rw [← Nat.succ_mul];exact Nat.mul_le_mul_right _ hr
     have hidx:r * k+j<rows.length * k:=by omega
     have eidx:rows.flatten.getD (r * k+j) default=.sl k' rows':=by
      rw [row_at r j row hrw hrow hjk,List.getD_eq_getElem?_getD,hj];rfl
     have own0:=hinn (r * k+j) hidx
     rw [eidx] at own0
     have ehd:=hhd (r * k+j) k' rows' hidx eidx
     simp only at ev
     rw [← ehd] at ev
     rw [← ev] at own0
     have fp0m:∀x∈fps.getD (r * k+j) [],x∈fps.flatten:=fun x hx=>mem_flatten_of_getD hx
     rw [List.nodup_cons] at hnd
     have fp0n:(fps.getD (r * k+j) []).Nodup:=by
      rw [List.getD_eq_getElem?_getD,List.getElem?_eq_getElem (by omega)]
      exact (nodup_flat hnd.2).1 _ (List.getElem_mem _)
     generalize hfp:fps.getD (r * k+j) []=fp0 at own0 fp0m fp0n
     have fp0S:∀x∈fp0,¬ B.U x∧¬ S x∧x<w.heap.size:=fun x hx=>⟨(hB x (List.mem_cons_of_mem _ (fp0m x hx))).1,(hB x (List.mem_cons_of_mem _ (fp0m x hx))).2,(hbd x (List.mem_cons_of_mem _ (fp0m x hx))).2⟩
     obtain ⟨G1,hG1v,hG1f,hRO⟩:∃G1:OG,G1.v=v0∧G1.foot=fp0∧∀(g1:Nat→OG) (m1:Nat→Option AO) (L1:Nat→Prop) (B1:Fr),(∀x∈fp0,¬ B1.U x)→(∀x,B1.H x=none)→RO S (hp w) g1 m1 L1 B1 G1 (.deep k' rows'):=by
      cases own0 with
      | nil k oa=>exact ⟨⟨.slice oa 0 0,0,k',[],0,noHd⟩,rfl,rfl,fun _ _ _ _ _ _=>.dnil k' 0 oa hk1⟩
      | sl _ _ b1 cap1 cs1 e1 fr1 fps1 hb1 hfr1 hk1' hrow1 hcap1 hmax1 hsz1 hfl1 hin1=>
       exact ⟨⟨.slice (some ⟨b1,0,none⟩) rows'.length cap1,b1,k',b1::fps1.flatten,rows'.length,fun i=>cs1.getD i undef⟩,rfl,rfl,fun g1 m1 L1 B1 hu hn0=>
        .deep k' rows' b1 cap1 cs1 e1 fr1 fps1 hb1 hfr1 hk1' hrow1 hcap1 hmax1 hsz1 hfl1 hin1 (fun _ _ _ _ _=>rfl) (fun x hx=>⟨hu x hx,(fp0S x hx).2.1⟩) (fun _ f hf=>by rw [hn0] at hf;simp at hf)⟩
     have f0:∀(ao:AO) (i:Nat),find (lay 0 [some ao]) i=if i=0 then some ao else none:=by
      intro ao i
      simp only [lay,find_cons,find]
      by_cases e:i=0
      ·subst e;simp
      ·rw [if_neg (fun h=>e h.symm),if_neg e]
     have R1:Rel ⟨fun b'=>b'<w.heap.size∧b'∉fp0,S,[],fun _=>none,B.I⟩ 0 w (·<[AO.deep k' rows'].length) ⟨[],lay 0 ([AO.deep k' rows'].map some),[AO.deep k' rows'].length⟩ noAct w S (fun _=>G1) []:=by
      refine { below:=Keep.refl _ _,hB:=fun _ h=>h.1,hH:=fun _ h=>absurd rfl h,inv:=fun Q hQ=>(R.now hQ).mono fun b hb hu=>⟨hb,fun hx=>(fp0S b hx).1 hu⟩,defers:=rfl,size:=rfl,env:=fun t=>.any _,obj:=fun i ao hi=>?_,new:=fun i hi=>?_,nodup:=fun i hi=>by rw [hG1f];exact fp0n,bound:=fun i hi b' hb'=>?_,apart:=fun i j' hij hi hj'=>?_,still:=R.still,sub:=fun _ h _=>h,xs:=⟨by simp,by simp,by simp⟩ }
      ·simp only [List.map_cons,List.map_nil,f0] at hi
       split at hi
       ·simp only [Option.some.injEq] at hi;subst hi
        exact hRO _ _ _ _ (fun x hx hu=>hu.2 hx) fun _=>rfl
       ·simp at hi
      ·simp only [List.map_cons,List.map_nil,f0]
       rw [if_neg (by simp at hi;omega)]
      ·rw [hG1f] at hb'
       exact ⟨fun hu=>hu.2 hb',(fp0S b' hb').2.2⟩
      ·simp only [List.map_cons,List.map_nil,f0] at hi hj'
       by_cases e1:i=0
       ·by_cases e2:j'=0
        ·omega
        ·rw [if_neg e2] at hj';simp at hj'
       ·rw [if_neg e1] at hi;simp at hi
     refine Calls.mono (ht.calls w vs _ S _ R1 hP (by simpa using hlen) fun i hi=>?_) fun e w' he=>?_
     ·cases i with
      | zero=>simp only [List.getD_cons_zero];rw [hv0];exact .sl 0 _ (by simp) h1 fun _=>hG1v.symm
      | succ i=>
       have:=hargs (i+1) (by simpa using hi)
       simp only [List.getD_cons_succ] at this ⊢
       exact scal_rv hsc i (by simpa using hi) _ this
     ·cases e with
      | panicked c=>exact he.elim
      | outgrown=>exact he.elim
      | returned val=>
       obtain ⟨S',g',R2,hsame,hrv⟩:=he
       have hs0:=hsame 0 (by simp) (by simp [f0])
       have ro:=R2.obj 0 (.deep k' rows'') (by simp [f0])
       have nd2:=R2.nodup 0 (by simp [f0])
       have bd2:=R2.bound 0 (by simp [f0])
       have ev1:(g' 0).v=v0:=hs0.1.trans hG1v
       have own1:Own (hp w') (.sl k' rows'') v0 (g' 0).foot:=by
        generalize g' 0=G' at ro ev1
        cases ro with
        | dnil k b oa hk=>subst ev1;exact .nil _ oa
        | deep _ _ b1 cap1 cs1 e1 fr1 fps1 hb1 hfr1 hk1' hrow1 hcap1 hmax1 hsz1 hfl1 hin1 hhd1 hB1 hH1=>
         subst ev1;exact .sl _ _ b1 cap1 cs1 e1 fr1 fps1 hb1 hfr1 hk1' hrow1 hcap1 hmax1 hsz1 hfl1 hin1
       generalize (g' 0).foot=fp1 at own1 nd2 bd2
       have fp1c:∀x∈fp1,(x∈fp0∨w.heap.size≤x)∧x<w'.heap.size:=fun x hx=>by
        refine ⟨?_,(bd2 x hx).2⟩
        by_cases hlt:x<w.heap.size
        ·exact .inl (Classical.byContradiction fun hc=>(bd2 x hx).1 ⟨hlt,hc⟩)
        ·exact .inr (by omega)
       have keep:∀b',b'<w.heap.size→b'∉fp0→hp w' b'=hp w b':=fun b' h1 h2=>R2.below.block b' ⟨h1,h2⟩
       have hKeep:Keep B w w':=⟨R2.below.os,R2.below.tape,R2.below.output,R2.below.size,fun b' hb'=>R2.below.block b' ⟨R.hB b' hb',fun hx=>(fp0S b' hx).1 hb'⟩⟩
       let p:=r * k+j
       let F:List (List Nat):=fps.take p++[fp1]++fps.drop (p+1)
       have hpl:p+[fp1].length≤fps.length:=by simp only [p,List.length_singleton];omega
       have hFg:∀i,F.getD i []=if p≤i∧i<p+1 then [fp1].getD (i - p) [] else fps.getD i []:=fun i=>getD_mid fps [fp1] p i [] hpl
       have sub:List.Sublist (fps.take p++fps.drop (p+1)) fps:=by
        conv=>rhs;rw [← List.take_append_drop p fps]
        refine List.Sublist.append (List.Sublist.refl _) ?_
        have e0:fps.drop (p+1)=(fps.drop p).drop 1:=by rw [List.drop_drop]
        rw [e0];exact List.drop_sublist _ _
       have rest_m:∀x∈(fps.take p).flatten++(fps.drop (p+1)).flatten,x∈fps.flatten:=fun x hx=>by
        rw [← List.flatten_append] at hx;exact (flatten_sub sub).subset hx
       have cut:fps.flatten=(fps.take p).flatten++(fp0++(fps.drop (p+1)).flatten):=by
        have e1:fps[p]'(by simp only [p];omega)=fp0:=by rw [← hfp,List.getD_eq_getElem?_getD,List.getElem?_eq_getElem (by omega)];rfl
        conv=>lhs;rw [← List.take_append_drop p fps,List.drop_eq_getElem_cons (by simp only [p];omega),e1]
        simp
       have rest_a:∀x∈(fps.take p).flatten++(fps.drop (p+1)).flatten,x∉fp0:=by
        intro x hx hx0
        have n:=hnd.2
        rw [cut,List.nodup_append] at n
        obtain ⟨n1,n2,n3⟩:=n
        rw [List.nodup_append] at n2
        rcases List.mem_append.1 hx with hx | hx
        ·exact n3 x hx x (List.mem_append_left _ hx0) rfl
        ·exact n2.2.2 x hx0 x hx rfl
       have rest_n:((fps.take p).flatten++(fps.drop (p+1)).flatten).Nodup:=by rw [← List.flatten_append];exact (flatten_sub sub).nodup hnd.2
       have hFm:∀x∈F.flatten,x∈fp1∨(x∈fps.flatten∧x∉fp0):=by
        intro x hx
        simp only [F,List.flatten_append,List.mem_append,List.flatten_singleton] at hx
        rcases hx with (hx | hx) | hx
        ·exact .inr ⟨rest_m x (List.mem_append_left _ hx),rest_a x (List.mem_append_left _ hx)⟩
        ·exact .inl hx
        ·exact .inr ⟨rest_m x (List.mem_append_right _ hx),rest_a x (List.mem_append_right _ hx)⟩
       have hbsz:b<w.heap.size:=(hbd b (by simp)).2
       have hbf:b∉fp0:=fun hx=>hnd.1 (fp0m b hx)
       have hFnd:(b::F.flatten).Nodup:=by
        rw [List.nodup_cons]
        refine ⟨fun hx=>?_,?_⟩
        ·rcases hFm b hx with hx | hx
         ·rcases (fp1c b hx).1 with hx | hx
          ·exact hbf hx
          ·omega
         ·exact hnd.1 hx.1
        ·simp only [F,List.flatten_append,List.flatten_singleton]
         have pm:((fps.take p).flatten++fp1++(fps.drop (p+1)).flatten).Perm (fp1++((fps.take p).flatten++(fps.drop (p+1)).flatten)):=by
          rw [← List.append_assoc];exact List.Perm.append_right _ List.perm_append_comm
         rw [pm.nodup_iff,List.nodup_append]
         refine ⟨nd2,rest_n,fun x hx1 y hy=>?_⟩
         rintro rfl
         rcases (fp1c x hx1).1 with hx | hx
         ·exact rest_a x hy hx
         ·have:=(hbd x (List.mem_cons_of_mem _ (rest_m x hy))).2;omega
       have hFb:∀x∈b::F.flatten,¬ B.U x∧¬ S x∧x<w'.heap.size∧(x∈b::fps.flatten∨w.heap.size≤x):=by
        intro x hx
        have old:x∈b::fps.flatten→¬ B.U x∧¬ S x∧x<w'.heap.size∧(x∈b::fps.flatten∨w.heap.size≤x):=fun hx=>⟨(hB x hx).1,(hB x hx).2,Nat.lt_of_lt_of_le (hbd x hx).2 R2.below.size,.inl hx⟩
        rcases List.mem_cons.1 hx with rfl | hx
        ·exact old (by simp)
        ·rcases hFm x hx with hx | hx
         ·rcases (fp1c x hx).1 with hx' | hx'
          ·exact old (List.mem_cons_of_mem _ (fp0m x hx'))
          ·exact ⟨fun hu=>absurd (R.hB x hu) (by omega),fun hs=>absurd (R.still x hs) (by omega),(fp1c x hx).2,.inr hx'⟩
         ·exact old (List.mem_cons_of_mem _ hx.1)
       have hset:∀i,i<rows.length * k→(rows.set r (row.take j++[.sl k' rows'']++row.drop (j+1))).flatten.getD i default=if r * k+j≤i∧i<r * k+j+1 then [D.sl k' rows''].getD (i - (r * k+j)) default else rows.flatten.getD i default:=
        fun i hi=>set_at (ds:=[.sl k' rows'']) hrw hrow (by simp;omega) i hi
       have R3:=R.turnW (S':=S) (X':=[]) (L':=L) hKeep (fun b' hb'=>keep b' (R.still b' hb') fun hx=>(fp0S b' hx).2.1 hb') ob
        (fun o' e' ho' x hx=>keep x (R.bound o' ho' x hx).2 fun hx'=>hap o' e' ho' x hx (List.mem_cons_of_mem _ (fp0m x hx')))
        ⟨.slice (some ⟨b,0,none⟩) rows.length cap,b,k,b::F.flatten,rows.length,hd⟩ (some (.deep k (rows.set r (row.take j++[.sl k' rows'']++row.drop (j+1)))))
        (fun _ h=>h) (fun _ h=>.inl h) (fun _ h=>h) (fun _=>hLo) (fun _ _ _=>by rw [hG];exact ⟨rfl,rfl,rfl,rfl,rfl⟩) (fun _ _=>hne) (fun _ _ _ _ _ hs=>hs)
        (fun ao hao=>by
         simp only [Option.some.injEq] at hao;subst hao
         have hdeep:=RO.deep (hd:=hd) (S:=S) (h:=hp w') (g:=setG g ob ⟨.slice (some ⟨b,0,none⟩) rows.length cap,b,k,b::F.flatten,rows.length,hd⟩) (m:=find ((ob,some (.deep k (rows.set r (row.take j++[.sl k' rows'']++row.drop (j+1)))))::s.mem)) (L:=L) (B:=B)
          k (rows.set r (row.take j++[.sl k' rows'']++row.drop (j+1))) b cap cs e fr F (by rw [keep b hbsz hbf];exact hb) hfr hk
          (fun x hx=>by
           rcases List.mem_or_eq_of_mem_set hx with hx | rfl
           ·exact hrw x hx
           ·exact (mid_length row [.sl k' rows''] j (by simp;omega)).trans hlenr)
          (by simpa using hcap) hmax hsz ((mid_length fps [fp1] p hpl).trans (by rw [hfl];simp))
          (fun i hi=>by
           simp only [List.length_set] at hi
           rw [hset i hi,hFg i]
           by_cases c:p≤i∧i<p+1
           ·have ei:i=r * k+j:=by simp only [p] at c;omega
            rw [if_pos c,if_pos (by simpa [p] using c)]
            subst ei
            rw [← ev];simpa [p] using own1
           ·rw [if_neg c,if_neg (by simpa [p] using c)]
            refine (hinn i hi).mono fun x hx=>keep x (hbd x (List.mem_cons_of_mem _ (mem_flatten_of_getD hx))).2 fun hx0=>?_
            rw [← hfp] at hx0
            exact getD_apart hnd.2 (by simp only [p] at c;omega) hx hx0)
          (fun i k2 rows2 hi he=>by
           simp only [List.length_set] at hi
           rw [hset i hi] at he
           split at he
           ·rename_i c
            have ei:i=r * k+j:=by omega
            subst ei;exact ehd
           ·exact hhd i k2 rows2 hi he)
          (fun x hx=>⟨(hFb x hx).1,(hFb x hx).2.1⟩) (by simpa using hH)
         simpa using hdeep)
        (fun _=>⟨hFnd,fun x hx=>⟨(hFb x hx).1,(hFb x hx).2.2.1⟩⟩)
        (fun _ o' e' ho' x hx hx'=>by
         rcases (hFb x hx).2.2.2 with hx1 | hx1
         ·exact hap o' e' ho' x hx' hx1
         ·have:=(R.bound o' ho' x hx').2;omega)
        ⟨by simp,by simp,by simp,by simp⟩
       refine ⟨val,rfl,.d (.v x),_,S,_,L,hK,Names.refl L id,R3,?_⟩
       cases hrv with
       | d _ _ hd=>cases hd with
        | v _ hx=>exact .d _ _ (.v _ hx)
    ·exact h.elim
   ·exact h.elim
  ·exact h.elim
 ·exact h.elim

theorem sound_callT (hP:B.I P) (R:Rel B N w₀ L s a w S g []) (hF:Fresh L id) {f:Operand} {xs:List Operand} {ts:List TypeId} (ho:o.op=.call { callee:=.value f,args:=⟨xs⟩,argTypes:=⟨ts⟩ }) (h:stepR (Con P) T o (evA T s) (find s.mem) id K):
  Goal P B N w₀ L s a w id K o Q:=by
 unfold stepR at h;rw [ho] at h
 simp only at h
 split at h
 ·rename_i gf caps hf
  unfold callA at h
  rw [forceId_eq] at h
  rcases h with h | h | h | h
  ·exact sound_call hP R hF ho hf (fun _ _ _ h=>h) h
  ·exact sound_turn hP (fun _ _ _ _ _ h=>h) R hF ho hf h
  ·exact sound_call hP R hF ho hf (fun _ _ _ h=>h) h
  ·exact sound_cel hP (fun _ _ _ _ _ h=>h) R ho hf h
 ·exact h.elim

end

end Go.Av
