/- ABSTRACT VALUES: lengths, indexes, parts. -/
import Derived.Test.YtniibgdokfnomaaGreatAvG
import Derived.Lib.IndexBytes
namespace Go.Av
open Go Go.RowKit
set_option linter.unusedSimpArgs false
set_option linter.unusedVariables false

theorem data_sl {S:Nat→Prop} {h:Nat→Option Obj} {k:Nat} {rows:List (List D)} {v:Value} (H:Data S h (.sl k rows) v):∃oa cap,v=.slice oa rows.length cap:=by
 cases H with
 | nil k oa cap=>exact ⟨oa,cap,rfl⟩
 | sl k rows b off cap cs e fr hS hb hk hrow hcap hfit hin=>exact ⟨_,cap,rfl⟩

section
variable {P:Program} {T:Tab} {C:Contract} {B:Fr} {N:Nat} {L:Nat→Prop} {w₀ w:World} {s:St} {a:Act} {S:Nat→Prop} {g:Nat→OG} {id:Nat} {K:AV→Ups→Prop} {o:Oper} {Q:Exit→Act→World→Prop}

theorem sound_len (hT:TOk P T) (R:Rel B N w₀ L s a w S g []) {t:TypeId} {x:Operand} (ho:o.op=.call { callee:=.builtin .len,args:=⟨[x]⟩,argTypes:=⟨[t]⟩ })
  (h:stepR C T o (evA T s) (find s.mem) id K):Goal P B N w₀ L s a w id K o Q:=by
 unfold stepR at h;rw [ho] at h
 simp only [lenK_eq] at h
 split at h
 ·rename_i i hi
  have H:=hT t i hi
  obtain ⟨d,hd,_,hu⟩:=H.run_underlying w
  have ex:=R.ev (T:=T) t x
  unfold lenA at h
  split at h
  ·rename_i htd
   rw [htd] at hd;simp only [DescOk] at hd;subst hd
   split at h
   ·rename_i l hx
    rw [hx] at ex
    have ev:=(rv_v ex).1
    refine goal_same R h ?_ (rv_mk rfl)
    have hsz:(⟨⟨l⟩⟩:ByteArray).size=l.length:=rfl
    simp [execOp,ho,resolve,invoke,builtin,Builtin.len_,hu,ev,goInt,hsz]
   ·exact h.elim
  ·rename_i e htd
   rw [htd] at hd;simp only [DescOk] at hd;subst hd
   have run:∀oa n cap,a.eval x=.slice oa n cap→(execOp a.eval o).run P w=.ok (.value (.int .i64 n)) w:=by
    intro oa n cap ev
    simp [execOp,ho,resolve,invoke,builtin,Builtin.len_,hu,ev,goInt]
   split at h
   ·rename_i k hx
    rw [hx] at ex
    generalize hval:a.eval x=val at ex
    cases ex with
    | nil=>exact goal_same R h (run _ _ _ hval) (rv_mk rfl)
   ·rename_i k rows hx
    rw [hx] at ex
    cases ex with
    | d _ _ hd=>
     obtain ⟨oa,cap,ev⟩:=data_sl hd
     exact goal_same R h (run _ _ _ ev) (rv_mk rfl)
   ·rename_i ob hx
    rw [hx] at ex
    cases ex with
    | sl _ _ hL h1 hv=>
     split at h
     ·rename_i k rows own hm
      obtain ⟨oa,cap,ev⟩:=data_sl (R.arr_data hm).1
      exact goal_same R h (run _ _ _ ((hv (by rw [hm];simp)).trans ev)) (rv_mk rfl)
     ·rename_i k rows hm
      obtain ⟨oa,cap,ev⟩:=data_sl (R.fro_data hm).1
      exact goal_same R h (run _ _ _ ((hv (by rw [hm];simp)).trans ev)) (rv_mk rfl)
     ·rename_i k rows hm
      obtain ⟨oa,cap,ev⟩:=data_sl (R.deep_data hm).1
      exact goal_same R h (run _ _ _ ((hv (by rw [hm];simp)).trans ev)) (rv_mk rfl)
     ·exact h.elim
   ·rename_i ob lo n hx
    rw [hx] at ex
    cases ex with
    | sub _ _ _ _ hL h1 hv=>
     split at h
     ·rename_i k rows own hm
      obtain ⟨_,oa,cap,ev,_⟩:=hv (by rw [hm];simp)
      exact goal_same R h (run _ _ _ ev) (rv_mk rfl)
     ·rename_i k rows hm
      obtain ⟨_,oa,cap,ev,_⟩:=hv (by rw [hm];simp)
      exact goal_same R h (run _ _ _ ev) (rv_mk rfl)
     ·exact h.elim
   ·exact h.elim
  ·exact h.elim
 ·exact h.elim

theorem run_indexAt {t e:TypeId} {ie:TI} (hu:(underlying t).run P w=.ok (.slice e) w) (he:TypeOk P e ie) (b off n cap:Nat) (k:IntKind) (i:Int) (h:0≤i∧i<n):
  (Instr.indexAt t (.slice (some ⟨b,off,none⟩) n cap) (.int k i)).run P w=.ok (.pointer (some ⟨b,off+i.toNat * ie.size,none⟩)) w:=by
 simp [Instr.indexAt,asIntOf,hu,h,he.run_size,Addr.add_off]

theorem intA_eq {c:AV} {n:Int} (h:intA c=some n):∃k,c=.d (.v (.int k n)):=by
 unfold intA at h
 split at h
 ·rename_i k m;simp only [Option.some.injEq] at h;subst h;exact ⟨_,rfl⟩
 ·simp at h

/-- the pointer to a row of a datum -/
theorem data_row {h:Nat→Option Obj} {m:Nat→Option AO} {k:Nat} {rows:List (List D)} {v:Value} (H:Data S h (.sl k rows) v) {r:Nat} {row:List D} (hr:rows[r]?=some row):
  ∃b off cap,v=.slice (some ⟨b,off,none⟩) rows.length cap∧RV S h g m L (.dp row 0) (.pointer (some ⟨b,off+r * k,none⟩)):=by
 cases H with
 | nil=>simp at hr
 | sl k rows b off cap cs e fr hS hb hk hrow hcap hfit hin=>
  have hlen:row.length=k:=hrow row (List.mem_of_getElem? hr)
  have hlt:r<rows.length:=(List.getElem?_eq_some_iff.1 hr).1
  have hle:r * k+k≤rows.length * k:=by rw [← Nat.succ_mul];exact Nat.mul_le_mul_right _ hlt
  refine ⟨b,off,cap,rfl,.dp row 0 b (off+r * k) cs e fr hS hb (by omega) fun l hl=>?_⟩
  have:=hin (r * k+l) (by omega)
  rwa [row_at r l row hrow hr (by omega),← Nat.add_assoc] at this

theorem sound_indexAddr (hT:TOk P T) (R:Rel B N w₀ L s a w S g []) {t:TypeId} {x ix:Operand} (ho:o.op=.indexAddr t x ix) (h:stepR C T o (evA T s) (find s.mem) id K):Goal P B N w₀ L s a w id K o Q:=by
 unfold stepR at h;rw [ho] at h
 simp only at h
 split at h
 ·rename_i i hi
  have H:=hT t i hi
  obtain ⟨d,hd,_,hu⟩:=H.run_underlying w
  split at h
  ·rename_i e htd
   rw [htd] at hd;simp only [DescOk] at hd;subst hd
   split at h
   ·rename_i ie n he hn
    have HE:=hT e ie he
    obtain ⟨kk,hk⟩:=intA_eq hn
    have ei:=R.ev (T:=T) 0 ix
    rw [hk] at ei
    have ei:=(rv_v ei).1
    have ex:=R.ev (T:=T) t x
    have run:∀b off len cap,a.eval x=.slice (some ⟨b,off,none⟩) len cap→(0≤n∧n<len)→(execOp a.eval o).run P w=.ok (.value (.pointer (some ⟨b,off+n.toNat * ie.size,none⟩))) w:=by
     intro b off len cap ev hb
     simp [execOp,ho,ev,ei,run_indexAt hu HE b off len cap kk n hb]
    unfold indexAddrA at h
    split at h
    ·rename_i k rows hx
     split at h
     ·rename_i hks
      have hks:=Nat.eq_of_beq_eq_true hks
      obtain ⟨hb,h⟩:=h
      have hlt:n.toNat<rows.length:=by omega
      have hr:rows[n.toNat]?=some rows[n.toNat]:=List.getElem?_eq_getElem hlt
      rw [hx] at ex
      cases ex with
      | d _ _ hd=>
       obtain ⟨b,off,cap,ev,rv⟩:=data_row (g:=g) (m:=find s.mem) (L:=L) hd hr
       refine goal_same R (h _ hr) (run _ _ _ _ ev hb) ?_
       rw [← hks];exact rv
     ·exact h.elim
    ·rename_i ob hx
     rw [hx] at ex
     cases ex with
     | sl _ _ hL h1 hv=>
      split at h
      ·rename_i k rows own hm
       split at h
       ·rename_i hks
        have hks:=Nat.eq_of_beq_eq_true hks
        obtain ⟨hb,h⟩:=h
        obtain ⟨_,e1,e2,_,_,e3⟩:=R.arr_data hm
        rcases e3 with e3 | ⟨cap,e3⟩
        ·subst e3;simp at hb;omega
        ·refine goal_same R h (run _ _ _ _ ((hv (by rw [hm];simp)).trans e3) hb) (.ptr _ _ _ _ hL rfl fun _=>⟨by rw [e2,hks];simp,by rw [e1];omega⟩)
       ·exact h.elim
      ·rename_i k rows hm
       split at h
       ·rename_i hks
        have hks:=Nat.eq_of_beq_eq_true hks
        obtain ⟨hb,h⟩:=h
        have hlt:n.toNat<rows.length:=by omega
        have hr:rows[n.toNat]?=some rows[n.toNat]:=List.getElem?_eq_getElem hlt
        obtain ⟨b,off,cap,ev,rv⟩:=data_row (g:=g) (m:=find s.mem) (L:=L) (R.fro_data hm).1 hr
        refine goal_same R (h _ hr) (run _ _ _ _ ((hv (by rw [hm];simp)).trans ev) hb) ?_
        rw [← hks];exact rv
       ·exact h.elim
      ·rename_i k rows hm
       split at h
       ·rename_i hks
        have hks:=Nat.eq_of_beq_eq_true hks
        obtain ⟨hb,h⟩:=h
        obtain ⟨_,e1,e2,_,_,e3⟩:=R.deep_data hm
        rcases e3 with e3 | ⟨cap,e3⟩
        ·subst e3;simp at hb;omega
        ·refine goal_same R h (run _ _ _ _ ((hv (by rw [hm];simp)).trans e3) hb) (.ptr _ _ _ _ hL rfl fun _=>⟨by rw [e2,hks];simp,by rw [e1];omega⟩)
       ·exact h.elim
      ·exact h.elim
    ·rename_i ob lo len hx
     rw [hx] at ex
     cases ex with
     | sub _ _ _ _ hL h1 hv=>
      split at h
      ·rename_i k rows own hm
       split at h
       ·rename_i hks
        have hks:=Nat.eq_of_beq_eq_true hks
        obtain ⟨hb,h⟩:=h
        obtain ⟨_,e1,e2,_,_,_⟩:=R.arr_data hm
        obtain ⟨hle,oa,cap,ev,hc,ho'⟩:=hv (by rw [hm];simp)
        rcases ho' with ho' | ho'
        ·subst ho';omega
        ·subst ho'
         refine goal_same R h (run _ _ _ _ ev hb) (.ptr _ _ _ _ hL rfl fun _=>⟨by rw [e2,hks,Nat.add_mul];simp,by omega⟩)
       ·exact h.elim
      ·exact h.elim
    ·exact h.elim
   ·exact h.elim
  ·exact h.elim
 ·exact h.elim

theorem run_sliceBounds (isSlice:Bool) (len cap:Nat) (lo hi:Option Value) (x y:Option Int) (hl:∀v,lo=some v→∃k n,v=.int k n∧x=some n) (hl':lo=none→x=none)
  (hh:∀v,hi=some v→∃k n,v=.int k n∧y=some n) (hh':hi=none→y=none) (hb:0≤x.getD 0∧x.getD 0≤y.getD len∧y.getD len≤len) (hc:len≤cap):
  (Instr.sliceBounds isSlice len cap lo hi none).run P w=.ok ((x.getD 0).toNat,(y.getD len).toNat,cap) w:=by
 obtain ⟨b1,b2,b3⟩:=hb
 cases lo with
 | none=>
  have:=hl' rfl;subst this
  cases hi with
  | none=>have:=hh' rfl;subst this;simp [Instr.sliceBounds]
  | some v=>
   obtain ⟨k,n,rfl,rfl⟩:=hh v rfl
   simp only [Option.getD_some,Option.getD_none] at b1 b2 b3
   simp [Instr.sliceBounds,Instr.sliceBound,asIntOf,b2,show n≤(cap:Int) by omega]
 | some u=>
  obtain ⟨k,n,rfl,rfl⟩:=hl u rfl
  cases hi with
  | none=>
   have:=hh' rfl;subst this
   simp only [Option.getD_some,Option.getD_none] at b1 b2 b3
   simp [Instr.sliceBounds,Instr.sliceBound,asIntOf,b1,b2]
  | some v=>
   obtain ⟨k',n',rfl,rfl⟩:=hh v rfl
   simp only [Option.getD_some] at b1 b2 b3
   simp [Instr.sliceBounds,Instr.sliceBound,asIntOf,show 0≤n' by omega,show n'≤(cap:Int) by omega,b1,show max n' 0=n' by omega,b2]

theorem optInt_eq (R:Rel B N w₀ L s a w S g []) {x:Option Operand} {r:Option Int} (h:optInt (x.map (evA T s 0))=some r):
  (∀v,x.map a.eval=some v→∃k n,v=.int k n∧r=some n)∧(x.map a.eval=none→r=none):=by
 cases x with
 | none=>simp [optInt] at h;subst h;simp
 | some y=>
  simp only [Option.map_some] at h ⊢
  unfold optInt at h
  split at h
  ·rename_i hc;cases hc
  ·rename_i k n hc
   simp only [Option.some.injEq] at h hc
   subst h
   have ey:=R.ev (T:=T) 0 y
   rw [hc] at ey
   have ey:=(rv_v ey).1
   exact ⟨fun v hv=>by simp only [Option.some.injEq] at hv;subst hv;exact ⟨k,n,ey,rfl⟩,fun h=>by cases h⟩
  ·cases h

theorem extract_str (l:List UInt8) (x y:Nat):(⟨⟨l⟩⟩:ByteArray).extract x y=⟨⟨(l.drop x).take (y - x)⟩⟩:=by
 apply ByteArray.ext
 rw [ByteArray.data_extract]
 apply Array.ext'
 simp

theorem sound_slice (hT:TOk P T) (R:Rel B N w₀ L s a w S g []) {t:TypeId} {x:Operand} {lo hi:Option Operand} (ho:o.op=.slice t x lo hi none) (h:stepR C T o (evA T s) (find s.mem) id K):
  Goal P B N w₀ L s a w id K o Q:=by
 unfold stepR at h;rw [ho] at h
 simp only at h
 split at h
 ·rename_i i hi'
  have H:=hT t i hi'
  obtain ⟨d,hd,_,hu⟩:=H.run_underlying w
  split at h
  ·rename_i p q hp hq
   obtain ⟨l1,l2⟩:=optInt_eq R hp
   obtain ⟨q1,q2⟩:=optInt_eq R hq
   have ex:=R.ev (T:=T) t x
   split at h
   ·rename_i htd
    rw [htd] at hd;simp only [DescOk] at hd;subst hd
    unfold sliceStr at h
    split at h
    ·rename_i l hx
     obtain ⟨hb,h⟩:=h
     rw [hx] at ex
     have ev:=(rv_v ex).1
     have hsz:(⟨⟨l⟩⟩:ByteArray).size=l.length:=rfl
     have hsb:=run_sliceBounds (P:=P) (w:=w) false l.length l.length (lo.map a.eval) (hi.map a.eval) p q l1 l2 q1 q2 hb (Nat.le_refl _)
     refine goal_same R h ?_ (rv_mk rfl)
     have e1:(q.getD (l.length:Int) - p.getD 0).toNat=(q.getD (l.length:Int)).toNat - (p.getD 0).toNat:=by omega
     simp [execOp,ho,Instr.sliceAt,Instr.slice,hu,ev,hsz,hsb,extract_str,e1]
    ·exact h.elim
   ·rename_i e htd
    rw [htd] at hd;simp only [DescOk] at hd;subst hd
    split at h
    ·rename_i ie he
     have HE:=hT e ie he
     have run:∀oa len cap,a.eval x=.slice oa len cap→len≤cap→(0≤p.getD 0∧p.getD 0≤q.getD len∧q.getD len≤len)→
       (execOp a.eval o).run P w=.ok (.value (.slice (if cap=(p.getD 0).toNat then oa else oa.map (·.add ((p.getD 0).toNat * ie.size))) ((q.getD len).toNat - (p.getD 0).toNat) (cap - (p.getD 0).toNat))) w:=by
      intro oa len cap ev hc hb
      have hsb:=run_sliceBounds (P:=P) (w:=w) true len cap (lo.map a.eval) (hi.map a.eval) p q l1 l2 q1 q2 hb hc
      simp [execOp,ho,Instr.sliceAt,Instr.slice,hu,ev,hsb,HE.run_size w]
     unfold sliceA at h
     split at h
     ·rename_i k rows hx
      split at h
      ·rename_i hks
       have hks:=Nat.eq_of_beq_eq_true hks
       obtain ⟨hb,h⟩:=h
       rw [hx] at ex
       cases ex with
       | d _ _ hd=>
        have hle:(p.getD 0).toNat+(q.getD (rows.length:Int) - p.getD 0).toNat≤rows.length:=by omega
        obtain ⟨oa,cap,ev,_,key⟩:=hd.part _ _ hle
        rw [ev] at hd
        have hcap:rows.length≤cap∨rows=[]:=by
         cases hd with
         | nil=>exact .inr rfl
         | sl _ _ b off cap' cs e' fr hS hb' hk hrow hcap hfit hin=>exact .inl hcap
        have hn:(q.getD (rows.length:Int)).toNat - (p.getD 0).toNat=(q.getD (rows.length:Int) - p.getD 0).toNat:=by omega
        have hc0:rows.length≤cap:=by
         rcases hcap with hc | hc
         ·exact hc
         ·subst hc;simp
        refine goal_same R h (run _ _ _ ev hc0 hb) (.d _ _ ?_)
        rw [hn]
        refine key _ _ ?_ (by omega)
        by_cases hz:(q.getD (rows.length:Int) - p.getD 0).toNat=0
        ·exact .inl hz
        ·right
         cases hd with
         | nil=>exact absurd (by simp only [List.length_nil] at hle ⊢;omega) hz
         | sl _ _ b off cap' cs e' fr hS hb' hk hrow hcap hfit hin=>
          refine ⟨b,off,rfl,?_⟩
          rw [if_neg (by omega)]
          simp [Addr.add_off,hks]
      ·exact h.elim
     ·rename_i k hx
      rw [hx] at ex
      generalize hval:a.eval x=val at ex
      cases ex with
      | nil=>
       split at h
       ·rename_i e1 e2
        have hb:0≤p.getD 0∧p.getD 0≤q.getD ((0:Nat):Int)∧q.getD ((0:Nat):Int)≤((0:Nat):Int):=by
         have e2':q.getD ((0:Nat):Int)=0:=by simpa using e2
         rw [e1,e2'];simp
        refine goal_same R h (run _ _ _ hval (Nat.le_refl _) hb) ?_
        have e2':q.getD ((0:Nat):Int)=0:=by simpa using e2
        rw [e1,e2']
        exact .nil k
       ·exact h.elim
     ·rename_i ob hx
      rw [hx] at ex
      cases ex with
      | sl _ _ hL h1 hv=>
       split at h
       ·rename_i k rows own hm
        split at h
        ·rename_i hks
         have hks:=Nat.eq_of_beq_eq_true hks
         obtain ⟨hb,h⟩:=h
         obtain ⟨kd,e1,e2,_,_,e3⟩:=R.arr_data hm
         have hv':=hv (by rw [hm];simp)
         have hn:(q.getD (rows.length:Int)).toNat - (p.getD 0).toNat=(q.getD (rows.length:Int) - p.getD 0).toNat:=by omega
         rcases e3 with e3 | ⟨cap,e3⟩
         ·obtain ⟨oa,cap,ev⟩:=data_sl kd
          subst e3
          simp only [List.length_nil] at ev hb hn h ⊢
          refine goal_same R h (run _ _ _ (hv'.trans ev) (by simp) hb) (.sub _ _ _ _ hL rfl fun _=>⟨by rw [e1];simp only [List.length_nil] at *;omega,_,_,by rw [hn],by omega,.inl (by simp only [List.length_nil] at *;omega)⟩)
         ·have hcap:rows.length≤cap:=R.arr_cap hm e3
          refine goal_same R h (run _ _ _ (hv'.trans e3) hcap hb) (.sub _ _ _ _ hL rfl fun _=>⟨by rw [e1];omega,_,_,by rw [hn],by omega,?_⟩)
          by_cases hz:(q.getD (rows.length:Int) - p.getD 0).toNat=0
          ·exact .inl hz
          ·right
           rw [if_neg (by omega)]
           simp [Addr.add_off,hks,e2]
        ·exact h.elim
       ·exact h.elim
     ·rename_i ob l n hx
      rw [hx] at ex
      cases ex with
      | sub _ _ _ _ hL h1 hv=>
       split at h
       ·rename_i k rows own hm
        split at h
        ·rename_i hks
         have hks:=Nat.eq_of_beq_eq_true hks
         obtain ⟨hb,h⟩:=h
         obtain ⟨kd,e1,e2,_,_,e3⟩:=R.arr_data hm
         obtain ⟨hle,oa,cap,ev,hc,ho'⟩:=hv (by rw [hm];simp)
         have hn:(q.getD (n:Int)).toNat - (p.getD 0).toNat=(q.getD (n:Int) - p.getD 0).toNat:=by omega
         refine goal_same R h (run _ _ _ ev hc hb) (.sub _ _ _ _ hL rfl fun _=>⟨by omega,_,_,by rw [hn],by omega,?_⟩)
         by_cases hz:(q.getD (n:Int) - p.getD 0).toNat=0
         ·exact .inl hz
         ·right
          rcases ho' with ho' | ho'
          ·omega
          ·subst ho'
           rw [if_neg (by omega)]
           simp [Addr.add_off,hks,e2,Nat.add_mul]
        ·exact h.elim
       ·exact h.elim
     ·exact h.elim
    ·exact h.elim
   ·exact h.elim
  ·exact h.elim
 ·exact h.elim

end

end Go.Av
