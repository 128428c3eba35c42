/- ABSTRACT VALUES: maps of numbers. -/
import Derived.Test.YtniibgdokfnomaaGreatAvOc
import Derived.MapKept
namespace Go.Av
open Go Go.RowKit
set_option linter.unusedSimpArgs false
set_option linter.unusedVariables false

def entI (p:Int×Int):Value×Value:=(.int .i64 p.1,.int .i64 p.2)

theorem findNow_mp (a:Int):∀(l:List (Int×Int)) (es:List MapEntry) (i:Nat),es.map (fun e=>(e.key,e.val))=l.map entI→
  (∃j v,Instr.findNow (.int .i64) (.int .i64 a) es i=some (some (i+j,.int .i64 v))∧j<es.length∧(∃e,es[j]?=some e∧e.key=.int .i64 a)∧mget a l=v∧
   ∀b,(es.modify j fun e=>{ e with key:=.int .i64 a,val:=.int .i64 b }).map (fun e=>(e.key,e.val))=(mput a b l).map entI)∨
  (Instr.findNow (.int .i64) (.int .i64 a) es i=some none∧mget a l=0∧∀b,mput a b l=l++[(a,b)])
 | [],[],i,_=>.inr ⟨rfl,rfl,fun _=>rfl⟩
 | [],e::es,i,h=>by simp at h
 | p::l,[],i,h=>by simp at h
 | (k,v)::l,e::es,i,h=>by
  simp only [List.map_cons,List.cons.injEq,entI,Prod.mk.injEq] at h
  obtain ⟨⟨h1,h2⟩,h3⟩:=h
  have hs:Instr.sameNow (.int .i64) (.int .i64 a) e.key=some (a == k):=by rw [h1];simp [Instr.sameNow]
  cases hak:a == k with
  | true=>
   rw [hak] at hs
   have e':a=k:=by simpa using hak
   subst e'
   refine .inl ⟨0,v,by simp [Instr.findNow,hs,h2],by simp,⟨e,by simp,h1⟩,by simp [mget],fun b=>?_⟩
   simp [mput,entI]
   exact h3
  | false=>
   rw [hak] at hs
   rcases findNow_mp a l es (i+1) h3 with ⟨j,v',q1,q2,q3,q4,q5⟩ | ⟨q1,q2,q3⟩
   ·refine .inl ⟨j+1,v',?_,by simp;omega,by simpa using q3,by simp [mget,hak,q4],fun b=>?_⟩
    ·simp only [Instr.findNow,hs];rw [q1];congr 3;omega
    ·have:=q5 b
     simp only [mput,hak,List.modify_succ_cons,List.map_cons,this,entI,h1,h2]
   ·refine .inr ⟨by simp only [Instr.findNow,hs];exact q1,by simp [mget,hak,q2],fun b=>by simp [mput,hak,q3 b]⟩

section
variable {P:Program} {T:Tab} {C:Contract} {B:Fr} {N:Nat} {L:Nat→Prop} {w₀ w:World} {s:St} {a:Act} {S:Nat→Prop} {g:Nat→OG} {id:Nat} {K:AV→Ups→Prop} {o:Oper} {Q:Exit→Act→World→Prop} {X:List Nat}

theorem wp_skipM {w':World} {next:Act→World→Prop} (h:(execOp a.eval o).run P w=.ok .skip w') (hn:next (a.put o.dst undef) w'):o.wp P a w next Q:=by
 unfold Oper.wp;rw [h];exact hn

theorem sound_makeMap (hT:TOk P T) (R:Rel B N w₀ L s a w S g []) (hF:Fresh L id) {t:TypeId} (ho:o.op=.makeMap t none) (h:stepR C T o (evA T s) (find s.mem) id K):Goal P B N w₀ L s a w id K o Q:=by
 unfold stepR at h;rw [ho] at h
 simp only at h
 split at h
 ·split at h
  ·have hw:=alloc_below w (.map #[] 0)
   have Rw:=R.world hw
   have stw:Step S S (hp w) (hp (w.alloc (.map #[] 0))) g g (find s.mem) (find s.mem) L L:=
    ⟨fun _ h=>h,fun b hb=>hw.block b (R.still b hb),fun _ _ _=>⟨rfl,fun _=>rfl,rfl,rfl,fun _=>rfl⟩,fun _ _ h=>h,fun _ h=>h⟩
   have hid:=hF.id
   have R':=Rw.turn (S':=S) (X':=[]) (L':=fun o=>L o∨o=id) id ⟨.map (some w.heap.size),w.heap.size,0,[w.heap.size],1,noHd⟩ (some (.mp [])) (fun _ h=>h) (fun _ h=>.inl h) (fun _ h=>.inl h) (fun _=>.inr rfl)
    (fun _ h _=>absurd h hid) (fun _ h=>absurd h hid) (fun _ _ _ b _ hs=>hs)
    (fun ao hao=>by
     simp only [Option.some.injEq] at hao;subst hao
     exact .mp [] w.heap.size #[] 0 (hp_alloc_new w _) (by simp) (fun h=>Nat.lt_irrefl _ (R.hB _ h)) (fun hs=>Nat.lt_irrefl _ (R.still _ hs)))
    (fun _=>⟨by simp,fun b hb=>by simp at hb;subst hb;exact ⟨fun h=>Nat.lt_irrefl _ (R.hB _ h),by simp⟩⟩)
    (fun _ o' _ ho' b hb hb'=>by simp at hb;subst hb;exact Nat.lt_irrefl _ (R.bound o' ho' _ hb').2)
    ⟨by simp,by simp,by simp,by simp⟩
   refine wp_val (v:=.map (some w.heap.size)) (w':=w.alloc (.map #[] 0)) ?_ ⟨_,rfl,_,_,_,_,_,h,Names.one L id,R',.sl id _ (.inr rfl) rfl fun _=>by rw [setG_same]⟩
   simp [execOp,ho,Instr.makeMap]
  ·exact h.elim
 ·exact h.elim

theorem Rel.mp (R:Rel B N w₀ L s a w S g X) {ob:Nat} {l:List (Int×Int)} (h:find s.mem ob=some (.mp l)):∃b es clock,g ob=⟨.map (some b),b,0,[b],1,noHd⟩∧hp w b=some (.map es clock)∧es.toList.map (fun e=>(e.key,e.val))=l.map entI∧¬ B.U b∧¬ S b:=by
 have:=R.obj ob _ h
 generalize g ob=G at this
 cases this with
 | mp _ b es clock hb he hB hS=>exact ⟨b,es,clock,rfl,hb,he,hB,hS⟩

theorem sound_lookup (hT:TOk P T) (R:Rel B N w₀ L s a w S g []) {t:TypeId} {x k:Operand} (ho:o.op=.lookup t x k false) (h:stepR C T o (evA T s) (find s.mem) id K):Goal P B N w₀ L s a w id K o Q:=by
 unfold stepR at h;rw [ho] at h
 simp only at h
 split at h
 ·rename_i i hi
  split at h
  ·rename_i kt et htd
   split at h
   ·rename_i ki ei hki hei
    split at h
    ·rename_i ob n hk1 hk2 hx hk
     split at h
     ·rename_i hz
      split at h
      ·rename_i l hm
       obtain ⟨d,hd1,hd2,hd3⟩:=(hT t i hi).run_underlying w
       rw [htd] at hd1;simp only [DescOk] at hd1;subst hd1
       obtain ⟨dk,hk1',hk2',hk3'⟩:=(hT kt ki hki).run_underlying w
       rw [hk1] at hk1';simp only [DescOk] at hk1';subst hk1'
       obtain ⟨b,es,clock,hg,hb,he,hB,hS⟩:=R.mp hm
       have ex:=R.ev (T:=T) t x
       rw [hx] at ex
       have ek:=R.ev (T:=T) kt k
       rw [hk] at ek
       have ek:=(rv_v ek).1
       generalize hxv:a.eval x=xv at ex
       cases ex with
       | sl _ _ hL h1 hv=>
        have hv:=hv (by rw [hm];simp)
        rw [hg] at hv
        simp only at hv
        rw [hv] at hxv
        obtain ⟨info,hz1,hz2⟩:=(hT et ei hei).zi hk2
        have hz3:(zeroValue et).run P w=.ok (.int .i64 0) w:=by simp [zeroValue,typeInfo,hz1,hz2]
        refine goal_same R h ?_ (rv_mk rfl)
        have hrun:(Instr.lookup t (.map (some b)) (.int .i64 n) false).run P w=.ok (.int .i64 (mget n l)) w:=by
         unfold Instr.lookup
         simp only [Sem.run_bind,hd3,Result.andThen,MapKept.run_getObj_map hb,MapKept.run_checkKey hk2' (show MapKept.IsKey (.int .i64) (.int .i64 n) from rfl),Instr.findKey,hk3']
         rcases findNow_mp n l es.toList 0 he with ⟨j,v,q1,q2,q3,q4,q5⟩ | ⟨q1,q2,q3⟩
         ·simp [hk3',q1,q4]
         ·simp [hk3',q1,q2,hz3]
        simp [execOp,ho,hxv,ek,hrun]
      ·exact h.elim
     ·exact h.elim
    ·exact h.elim
   ·exact h.elim
  ·exact h.elim
 ·exact h.elim

theorem sound_mapUpdate (hT:TOk P T) (R:Rel B N w₀ L s a w S g []) {t:TypeId} {x k y:Operand} (ho:o.op=.mapUpdate t x k y) (h:stepR C T o (evA T s) (find s.mem) id K):Goal P B N w₀ L s a w id K o Q:=by
 unfold stepR at h;rw [ho] at h
 simp only at h
 split at h
 ·rename_i i hi
  split at h
  ·rename_i kt et htd
   split at h
   ·rename_i ki hki
    split at h
    ·rename_i ob n v hk1 hx hk hy
     split at h
     ·rename_i l hm
      obtain ⟨d,hd1,hd2,hd3⟩:=(hT t i hi).run_underlying w
      rw [htd] at hd1;simp only [DescOk] at hd1;subst hd1
      obtain ⟨dk,hk1',hk2',hk3'⟩:=(hT kt ki hki).run_underlying w
      rw [hk1] at hk1';simp only [DescOk] at hk1';subst hk1'
      obtain ⟨b,es,clock,hg,hb,he,hB,hS⟩:=R.mp hm
      have ex:=R.ev (T:=T) t x
      rw [hx] at ex
      have ek:=R.ev (T:=T) kt k
      rw [hk] at ek
      have ek:=(rv_v ek).1
      have ey:=R.ev (T:=T) et y
      rw [hy] at ey
      have ey:=(rv_v ey).1
      have hbw:b<w.heap.size:=(Array.getElem?_eq_some_iff.1 hb).1
      generalize hxv:a.eval x=xv at ex
      cases ex with
      | sl _ _ hL h1 hv=>
       have hv:=hv (by rw [hm];simp)
       rw [hg] at hv
       simp only at hv
       rw [hv] at hxv
       obtain ⟨es',clock',hes,hrun⟩:∃(es':Array MapEntry) (clock':Nat),es'.toList.map (fun e=>(e.key,e.val))=(mput n v l).map entI∧(Instr.mapUpdate t (.map (some b)) (.int .i64 n) (.int .i64 v)).run P w=.ok () { w with heap:=w.heap.setIfInBounds b (.map es' clock') }:=by
        have hself:Instr.sameBits 10000 (.int .i64 n) (.int .i64 n)=true:=by simp [Instr.sameBits]
        rcases findNow_mp n l es.toList 0 he with ⟨j,v',q1,q2,⟨e0,q3,q3'⟩,q4,q5⟩ | ⟨q1,q2,q3⟩
        ·refine ⟨es.modify j fun e=>{ e with key:=.int .i64 n,val:=.int .i64 v },clock,by simpa using q5 v,?_⟩
         unfold Instr.mapUpdate
         simp only [Sem.run_bind,hd3,Result.andThen,MapKept.run_getObj_map hb,MapKept.run_checkKey hk2' (show MapKept.IsKey (.int .i64) (.int .i64 n) from rfl),Instr.findKey,hk3']
         have q3:es[j]?=some e0:=by simpa using q3
         simp [hk3',q1,q3,q3',Instr.keyThatStays,hself,MapKept.run_setObj_map _ hb]
        ·refine ⟨es.push { key:=.int .i64 n,val:=.int .i64 v,born:=clock },clock+1,by simp [he,q3 v,entI],?_⟩
         unfold Instr.mapUpdate
         simp only [Sem.run_bind,hd3,Result.andThen,MapKept.run_getObj_map hb,MapKept.run_checkKey hk2' (show MapKept.IsKey (.int .i64) (.int .i64 n) from rfl),Instr.findKey,hk3']
         simp [hk3',q1,MapKept.run_setObj_map _ hb]
       have hne:find s.mem ob≠none:=by rw [hm];simp
       have hoth:∀b',b'≠b→hp { w with heap:=w.heap.setIfInBounds b (.map es' clock') } b'=hp w b':=fun b' hne'=>by
        show (w.heap.setIfInBounds b (.map es' clock'))[b']?=_
        rw [Array.getElem?_setIfInBounds,if_neg (fun e=>hne' e.symm)]
       have hhere:hp { w with heap:=w.heap.setIfInBounds b (.map es' clock') } b=some (.map es' clock'):=by
        show (w.heap.setIfInBounds b (.map es' clock'))[b]?=_
        rw [Array.getElem?_setIfInBounds,if_pos rfl,if_pos hbw]
       have hfoot:∀o',o'≠ob→find s.mem o'≠none→∀x∈(g o').foot,x≠b:=fun o' e ho' x hx e'=>by
        refine R.apart o' ob e ho' hne x hx ?_
        rw [hg,e'];simp
       have R':=R.turnW (S':=S) (X':=[]) (L':=L) (w':={ w with heap:=w.heap.setIfInBounds b (.map es' clock') }) ⟨rfl,rfl,rfl,by simp,fun b' hb'=>hoth b' (fun e=>hB (e ▸ hb'))⟩ (fun b' hs=>hoth b' (fun e=>hS (e ▸ hs))) ob
        (fun o' e ho' x hx=>hoth x (hfoot o' e ho' x hx)) ⟨.map (some b),b,0,[b],1,noHd⟩ (some (.mp (mput n v l))) (fun _ h=>h) (fun _ h=>.inl h) (fun _ h=>h) (fun _=>hL)
        (fun _ _ _=>by rw [hg];exact ⟨rfl,rfl,rfl,rfl,rfl⟩) (fun _ _=>hne) (fun _ _ _ b _ hs=>hs)
        (fun ao hao=>by
         simp only [Option.some.injEq] at hao;subst hao
         exact .mp _ b es' clock' hhere hes hB hS)
        (fun _=>⟨by simp,fun x hx=>by simp at hx;subst hx;exact ⟨hB,by simpa using hbw⟩⟩)
        (fun _ o' e ho' x hx hx'=>by simp at hx;subst hx;exact hfoot o' e ho' x hx' rfl)
        ⟨by simp,by simp,by simp,by simp⟩
       refine wp_skipM (w':={ w with heap:=w.heap.setIfInBounds b (.map es' clock') }) (by simp [execOp,ho,hxv,ek,ey,hrun]) ⟨undef,rfl,_,_,_,_,_,h,.refl _ _,R',.any _⟩
     ·exact h.elim
    ·exact h.elim
   ·exact h.elim
  ·exact h.elim
 ·exact h.elim

end

end Go.Av
