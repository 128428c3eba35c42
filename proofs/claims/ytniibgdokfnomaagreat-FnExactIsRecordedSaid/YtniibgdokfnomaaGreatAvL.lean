/- ABSTRACT VALUES: make and conversions. -/
import Derived.Test.YtniibgdokfnomaaGreatAvK
import Derived.Laws.MakeOwn
import Derived.Lib.ConvBytes
namespace Go.Av
open Go Go.RowKit
set_option linter.unusedSimpArgs false
set_option linter.unusedVariables false

theorem replicate_getD {α:Type} [Inhabited α] {k:Nat} {row:List α} (hk:row.length=k) (hpos:0<k) (n i:Nat) (h:i<n * k):(List.replicate n row).flatten.getD i default=row.getD (i % k) default:=by
 have hd:i / k<n:=(Nat.div_lt_iff_lt_mul hpos).2 h
 have hr:(List.replicate n row)[i / k]?=some row:=by simp [List.getElem?_replicate,hd]
 have:=row_at (i / k) (i % k) row (k:=k) (rows:=List.replicate n row) (fun r hr=>by rw [List.eq_of_mem_replicate hr];exact hk) hr (Nat.mod_lt _ hpos)
 rwa [Nat.mul_comm,Nat.div_add_mod] at this

theorem readRow_at {m:Nat→Option AO}:∀{cs:List AV} {ds:List D},readRow m cs=some ds→ds.length=cs.length∧∀i,i<cs.length→readC m (cs.getD i .any)=some (ds.getD i default)
 | [],ds,h=>by simp [readRow] at h;subst h;simp
 | c::cs,ds,h=>by
  simp only [readRow] at h
  split at h
  ·rename_i d hd
   split at h
   ·rename_i ds' hds
    simp at h;subst h
    obtain ⟨e1,e2⟩:=readRow_at hds
    refine ⟨by simp [e1],fun i hi=>?_⟩
    cases i with
    | zero=>simpa using hd
    | succ i=>simpa using e2 i (by simpa using hi)
   ·cases h
  ·cases h

theorem own_zero {h:Nat→Option Obj} {m:Nat→Option AO} {k:Nat} {v:Value} {d:D} (hd:readC m (avC1 k v)=some d):Own h d v []:=by
 unfold avC1 at hd
 split at hd
 ·simp [readC] at hd;subst hd;exact .nil k none
 ·simp [readC] at hd
 ·simp [readC] at hd
 ·simp [readC] at hd
 ·rename_i v' h1 h2 h3 h4
  simp [readC] at hd;subst hd
  refine .v _ ?_
  cases v <;> first | rfl | exact absurd rfl (h3 _) | exact absurd rfl (h4 _)

theorem zipC_getD:∀(ks:List Nat) (vs:List Value) (i:Nat),i<vs.length→∃k,(zipC ks vs).getD i .any=avC1 k (vs.getD i undef)
 | _,[],i,hi=>by simp at hi
 | [],v::vs,0,_=>⟨0,by simp [zipC]⟩
 | k::ks,v::vs,0,_=>⟨k,by simp [zipC]⟩
 | [],v::vs,i+1,hi=>by simpa [zipC] using zipC_getD [] vs i (by simpa using hi)
 | k::ks,v::vs,i+1,hi=>by simpa [zipC] using zipC_getD ks vs i (by simpa using hi)

section
variable {P:Program} {T:Tab} {C:Contract} {B:Fr} {N:Nat} {L:Nat→Prop} {w₀ w:World} {s:St} {a:Act} {S:Nat→Prop} {g:Nat→OG} {id:Nat} {K:AV→Ups→Prop} {o:Oper} {Q:Exit→Act→World→Prop}

theorem sound_makeSlice (hT:TOk P T) (R:Rel B N w₀ L s a w S g []) (hF:Fresh L id) {t:TypeId} {l c:Operand} (ho:o.op=.makeSlice t l c) (h:stepR C T o (evA T s) (find s.mem) id K):
  Goal P B N w₀ L s a w id K o Q:=by
 unfold stepR at h;rw [ho] at h
 simp only at h
 split at h
 ·rename_i i hi
  have H:=hT t i hi
  obtain ⟨d,hd,hu,_⟩:=H.run_underlying w
  split at h
  ·rename_i e htd
   rw [htd] at hd;simp only [DescOk] at hd;subst hd
   split at h
   ·rename_i ie k1 n k2 n' he hl hc
    have HE:=hT e ie he
    split at h
    ·rename_i row hrow
     obtain ⟨⟨rfl,h0,h40,hby⟩,h⟩:=h
     have el:=R.ev (T:=T) 0 l
     rw [hl] at el
     have ec:=R.ev (T:=T) 0 c
     rw [hc] at ec
     have el:=(rv_v el).1
     have ec:=(rv_v ec).1
     obtain ⟨info,d,z,q1,q2,q3,q4,q5,q6,_⟩:=HE.ex
     obtain ⟨r1,r2⟩:=readRow_at hrow
     have hzl:ie.zeroA.length=ie.size:=by unfold TI.zeroA;rw [zipC_length];exact HE.zl
     have hrl:row.length=ie.size:=by omega
     have hsz:(madeCells z.cells (n'.toNat * info.size)).size=n'.toNat * ie.size:=by rw [size_madeCells,q3]
     have hcell:∀j,j<n'.toNat * ie.size→(madeCells z.cells (n'.toNat * info.size)).getD j undef=ie.zero.getD (j % ie.size) undef:=by
      intro j hj
      have hm:j % ie.size<ie.zero.length:=by rw [HE.zl];exact Nat.mod_lt _ HE.pos
      rw [q3,q6]
      have hsz':(⟨ie.zero⟩:Array Value).size=ie.size:=HE.zl
      simp only [madeCells,hsz']
      rw [Array.getD_eq_getD_getElem?,Array.getElem?_map,Array.getElem?_range,if_pos hj]
      have e1:(⟨ie.zero⟩:Array Value)[j % ie.size]! = ie.zero[j % ie.size]:=getElem!_pos (⟨ie.zero⟩:Array Value) _ hm
      simp only [Option.map_some,Option.getD_some,List.getD_eq_getElem?_getD,e1,List.getElem?_eq_getElem hm]
     have key:∀j,j<n'.toNat * ie.size→Own (hp w) ((List.replicate n'.toNat row).flatten.getD j default) ((madeCells z.cells (n'.toNat * info.size)).getD j undef) []:=by
      intro j hj
      have hm:j % ie.size<ie.zero.length:=by rw [HE.zl];exact Nat.mod_lt _ HE.pos
      rw [replicate_getD hrl HE.pos _ _ hj,hcell j hj]
      have hr:=r2 (j % ie.size) (by rw [hzl];exact Nat.mod_lt _ HE.pos)
      obtain ⟨k,hk⟩:=zipC_getD ie.ks ie.zero (j % ie.size) hm
      have hk':ie.zeroA.getD (j % ie.size) .any=avC1 k (ie.zero.getD (j % ie.size) undef):=hk
      rw [hk'] at hr
      exact own_zero hr
     have hlen:(List.replicate n'.toNat row).length=n'.toNat:=by simp
     have R0:Rel B N w₀ L s a w S g ((List.replicate (n'.toNat * ie.size) ([]:List Nat)).flatten++[]):=by
      have:(List.replicate (n'.toNat * ie.size) ([]:List Nat)).flatten=[]:=by simp
      rw [this];exact R
     obtain ⟨g'',R'',st'',ev⟩:=R0.newArr (L':=fun o=>L o∨o=id) (id:=id) (k:=ie.size) (rows:=List.replicate n'.toNat row) (own:=true) (cs:=madeCells z.cells (n'.toNat * info.size)) hF.id (fun _ h=>.inl h) (.inr rfl) e (0,0) n'.toNat
      HE.pos (fun r hr=>by rw [List.eq_of_mem_replicate hr];exact hrl) (by simp) (by simp only [maxLen];omega) hsz (fun j _ hc=>by simp at hc)
      (fun j hj=>by rw [hlen] at hj;exact (key j hj).data (by simp)) (fun _=>⟨by simp,fun j hj=>by
       rw [hlen] at hj
       have:(List.replicate (n'.toNat * ie.size) ([]:List Nat)).getD j []=[]:=by simp only [List.getD_eq_getElem?_getD,List.getElem?_replicate];split <;> rfl
       rw [this];exact key j hj⟩)
     refine wp_val (v:=.slice (some ⟨w.heap.size,0,none⟩) n'.toNat n'.toNat) (w':=w.alloc (.cells (madeCells z.cells (n'.toNat * info.size)) e)) ?_ ⟨_,rfl,_,_,_,g'',_,h,Names.one L id,R'',.sl id _ (.inr rfl) rfl fun _=>by rw [ev,hlen]⟩
     have hb':(info.bytes:Int) * n'≤281474976710656:=by rw [q4,Int.mul_comm];omega
     have hr:=run_make (P:=P) w t e info z hu q1 q5
     simp [execOp,ho,el,ec,hr _ _ n' n' h0 (Int.le_refl _) hb' (by omega)]
    ·exact h.elim
   ·exact h.elim
  ·exact h.elim
 ·exact h.elim

theorem data_v {S:Nat→Prop} {h:Nat→Option Obj} {x u:Value} (H:Data S h (.v x) u):u=x:=by
 cases H with | v _ hx=>rfl

theorem data_ne {S:Nat→Prop} {h:Nat→Option Obj} {k:Nat} {rows:List (List D)} {v:Value} (H:Data S h (.sl k rows) v) (hne:rows≠[]):
  ∃b off cap cs e fr,S b∧h b=some (.cells cs e fr)∧0<k∧(∀r∈rows,r.length=k)∧rows.length≤cap∧off+rows.length * k≤cs.size∧
   (∀i,i<rows.length * k→Data S h (rows.flatten.getD i default) (cs.getD (off+i) undef))∧v=.slice (some ⟨b,off,none⟩) rows.length cap:=by
 cases H with
 | nil=>exact absurd rfl hne
 | sl k rows b off cap cs e fr hS hb hk hrow hcap hfit hin=>exact ⟨b,off,cap,cs,e,fr,hS,hb,hk,hrow,hcap,hfit,hin,rfl⟩

theorem bytesWorld_eq (w:World) (e:TypeId) (s:ByteArray):Lib.bytesWorld w e s=w.drew.alloc (.cells (Lib.bytesCells w e s) e ((Lib.bytesCells w e s).size,(Lib.bytesCells w e s).size+1)):=by
 have h1:=Lib.bytesWorld_size w e s
 have key:(Lib.bytesWorld w e s).heap=(w.drew.alloc (.cells (Lib.bytesCells w e s) e ((Lib.bytesCells w e s).size,(Lib.bytesCells w e s).size+1))).heap:=by
  apply Array.ext_getElem?
  intro j
  rcases Nat.lt_trichotomy j w.heap.size with h | h | h
  ·rw [Lib.bytesWorld_at_old w e s j h,heap_alloc_old _ _ _ (by simpa using h)];rfl
  ·subst h;rw [Lib.bytesWorld_at_new];exact (heap_alloc_new w.drew _).symm
  ·rw [Array.getElem?_eq_none (by omega),Array.getElem?_eq_none (by simp;omega)]
 have e2:Lib.bytesWorld w e s={ Lib.bytesWorld w e s with heap:=(Lib.bytesWorld w e s).heap }:=rfl
 rw [e2,key]
 unfold Lib.bytesWorld World.freeze
 rw [if_neg (by omega)]
 rfl

theorem run_bytes_string (l:List UInt8) {vs:Array Value} (h:vs=(l.map fun c=>Value.int .u8 c.toNat).toArray) (oa:Addr) (cap:Nat) (hl:(loadCells oa l.length).run P w=.ok vs w):
  (Conv.bytesToString (.slice (some oa) l.length cap)).run P w=.ok (.string ⟨⟨l⟩⟩) w:=by
 have:=run_bytesToString (P:=P) w oa l.length cap (l.map fun c=>(c.toNat:Int)) (by rw [hl,h];simp)
 rw [this]
 congr 2
 have key:∀(l:List UInt8) (acc:ByteArray),(l.map fun c=>(c.toNat:Int)).foldl (fun r n=>r.push (UInt8.ofNat n.toNat)) acc=⟨⟨acc.data.toList++l⟩⟩:=by
  intro l
  induction l with
  | nil=>intro acc;simp
  | cons c l ih=>
   intro acc
   simp only [List.map_cons,List.foldl_cons,Int.toNat_natCast,UInt8.ofNat_toNat]
   rw [ih]
   apply ByteArray.ext
   apply Array.ext'
   simp
 rw [key];rfl

theorem flatten_single (l:List UInt8):(l.map fun c=>[D.u8 c.toNat]).flatten=l.map fun c=>D.u8 c.toNat:=by
 induction l with
 | nil=>rfl
 | cons c l ih=>simp only [List.map_cons,List.flatten_cons,ih];rfl

/-- the rows of a slice, read -/
theorem Rel.sliceRows (R:Rel B N w₀ L s a w S g []) {c:AV} {v:Value} (hv:RV S (hp w) g (find s.mem) L c v) {k:Nat} {rows:List (List D)} (h:Av.sliceRows (find s.mem) c=some (k,rows)):
  Data (·<w.heap.size) (hp w) (.sl k rows) v:=by
 refine R.readC hv ?_
 unfold Av.sliceRows at h
 unfold Av.readC
 split at h
 ·simp only [Option.some.injEq,Prod.mk.injEq] at h;obtain ⟨rfl,rfl⟩:=h;rfl
 ·simp only [Option.some.injEq,Prod.mk.injEq] at h;obtain ⟨rfl,rfl⟩:=h;rfl
 ·split at h
  ·rename_i hm;simp only [Option.some.injEq,Prod.mk.injEq] at h;obtain ⟨rfl,rfl⟩:=h;simp [hm]
  ·rename_i hm;simp only [Option.some.injEq,Prod.mk.injEq] at h;obtain ⟨rfl,rfl⟩:=h;simp [hm]
  ·cases h
 ·split at h
  ·rename_i hm;simp only [Option.some.injEq,Prod.mk.injEq] at h;obtain ⟨rfl,rfl⟩:=h;simp [hm]
  ·rename_i hm;simp only [Option.some.injEq,Prod.mk.injEq] at h;obtain ⟨rfl,rfl⟩:=h;simp [hm]
  ·cases h
 ·cases h

theorem sound_convert (hT:TOk P T) (R:Rel B N w₀ L s a w S g []) (hF:Fresh L id) {src dst:TypeId} {x:Operand} (ho:o.op=.convert src dst x) (h:stepR C T o (evA T s) (find s.mem) id K):
  Goal P B N w₀ L s a w id K o Q:=by
 unfold stepR at h;rw [ho] at h
 simp only at h
 split at h
 ·rename_i i j hi hj
  have H:=hT _ _ hi
  have H':=hT _ _ hj
  obtain ⟨d,hd,hu,_⟩:=H.run_underlying w
  obtain ⟨d',hd',hu',_⟩:=H'.run_underlying w
  have ex:=R.ev (T:=T) src x
  split at h
  ·rename_i td k k' n htd htd' hx
   rw [htd'] at hd';simp only [DescOk] at hd';subst hd'
   rw [hx] at ex
   replace ex:=(rv_v ex).1
   refine goal_same R h ?_ (rv_mk rfl)
   simp [execOp,ho,ex,convert,run_underlying hu,run_underlying hu',Conv.intToInt]
  ·rename_i td q htd htd' hx
   rw [htd'] at hd';simp only [DescOk] at hd';subst hd'
   rw [hx] at ex
   replace ex:=(rv_v ex).1
   refine goal_same R h ?_ (rv_mk rfl)
   simp [execOp,ho,ex,convert,run_underlying hu,run_underlying hu']
  ·rename_i e l htd' hx
   rw [htd'] at hd';simp only [DescOk] at hd';subst hd'
   split at h
   ·rename_i ie he
    have HE:=hT _ _ he
    obtain ⟨de,hde,hue,_⟩:=HE.run_underlying w
    split at h
    ·rename_i hte
     rw [hte] at hde;simp only [DescOk] at hde;subst hde
     obtain ⟨h46,h⟩:=h
     rw [hx] at ex
     replace ex:=(rv_v ex).1
     have hsz0:(⟨⟨l⟩⟩:ByteArray).size=l.length:=rfl
     have hge:=grownCap_ge w l.length 0 e
     have hcap:grownCap w l.length 0 e≤maxLen:=grownCap_le_maxLen w l.length 0 e (by simp only [maxLen];omega)
     have hsz:(Lib.bytesCells w e ⟨⟨l⟩⟩).size=grownCap w l.length 0 e * 1:=by
      simp [Lib.bytesCells,hsz0];omega
     have hcell:∀j,j<l.length→(Lib.bytesCells w e ⟨⟨l⟩⟩).getD j undef=.int .u8 (l.getD j 0).toNat:=by
      intro j hj
      simp [Lib.bytesCells,Array.getD_eq_getD_getElem?,Array.getElem?_append,hj,List.getD_eq_getElem?_getD]
     have hrow:∀r∈l.map (fun c=>[D.u8 c.toNat]),r.length=1:=by intro r hr;simp at hr;obtain ⟨c,_,rfl⟩:=hr;rfl
     have key:∀j,j<(l.map fun c=>[D.u8 c.toNat]).length * 1→Own (hp w.drew) ((l.map fun c=>[D.u8 c.toNat]).flatten.getD j default) ((Lib.bytesCells w e ⟨⟨l⟩⟩).getD j undef) []:=by
      intro j hj
      have hj':j<l.length:=by simpa using hj
      rw [hcell j hj',flatten_single]
      have:(l.map fun c=>D.u8 c.toNat).getD j default=D.u8 (l.getD j 0).toNat:=by simp [List.getD_eq_getElem?_getD,hj']
      rw [this];exact .v _ rfl
     have R1:=R.world (w':=w.drew) ((Below.refl _ _).drew)
     have R0:Rel B N w₀ L s a w.drew S g ((List.replicate l.length ([]:List Nat)).flatten++[]):=by
      have:(List.replicate l.length ([]:List Nat)).flatten=[]:=by simp
      rw [this];exact R1
     obtain ⟨g'',R'',st'',ev⟩:=R0.newArr (L':=fun o=>L o∨o=id) (id:=id) (k:=1) (rows:=l.map fun c=>[D.u8 c.toNat]) (own:=true) (cs:=Lib.bytesCells w e ⟨⟨l⟩⟩) hF.id (fun _ h=>.inl h) (.inr rfl) e ((Lib.bytesCells w e ⟨⟨l⟩⟩).size,(Lib.bytesCells w e ⟨⟨l⟩⟩).size+1) (grownCap w l.length 0 e)
      Nat.one_pos hrow (by simpa using hge) hcap hsz (fun j hj hc=>by have:=hc.1;simp only at this;omega) (fun j hj=>(key j hj).data (by simp)) (fun _=>⟨by simp,fun j hj=>by
       have:(List.replicate l.length ([]:List Nat)).getD j []=[]:=by simp only [List.getD_eq_getElem?_getD,List.getElem?_replicate];split <;> rfl
       rw [this];exact key j hj⟩)
     refine wp_val (v:=.slice (some ⟨w.heap.size,0,none⟩) l.length (grownCap w l.length 0 e)) (w':=Lib.bytesWorld w e ⟨⟨l⟩⟩) ?_ ⟨_,rfl,_,_,_,g'',_,h,Names.one L id,by rw [bytesWorld_eq];exact R'',.sl id _ (.inr rfl) rfl fun _=>by rw [ev];simp⟩
     have hr:=Lib.run_convert_string_bytes (P:=P) w src dst e ⟨⟨l⟩⟩ hu hu' hue
     simp only [hsz0] at hr
     simp [execOp,ho,ex,hr]
    ·exact h.elim
   ·exact h.elim
  ·rename_i e htd htd' hns
   rw [htd] at hd;simp only [DescOk] at hd;subst hd
   rw [htd'] at hd';simp only [DescOk] at hd';subst hd'
   split at h
   ·rename_i ie k rows he hrows
    have HE:=hT _ _ he
    obtain ⟨de,hde,hue,_⟩:=HE.run_underlying w
    split at h
    ·rename_i hte
     rw [hte] at hde;simp only [DescOk] at hde;subst hde
     obtain ⟨l,rfl,h⟩:=h
     have hd:=Rel.sliceRows R ex hrows
     generalize hval:a.eval x=val at hd ex
     have run:∀oa cap,val=.slice oa l.length cap→(Conv.bytesToString (.slice oa l.length cap)).run P w=.ok (.string ⟨⟨l⟩⟩) w→(execOp a.eval o).run P w=.ok (.value (.string ⟨⟨l⟩⟩)) w:=by
      intro oa cap ev hr
      subst ev
      simp [execOp,ho,hval,convert,run_underlying hu,run_underlying hu',run_underlying hue,hr]
     refine goal_same R h ?_ (rv_mk rfl)
     by_cases hl:l=[]
     ·subst hl
      obtain ⟨oa,cap,ev⟩:=data_sl hd
      refine run oa cap ev ?_
      cases oa with
      | none=>simp [Conv.bytesToString];rfl
      | some ad=>exact run_bytes_string [] (vs:=#[]) rfl ad cap (by simp [loadCells,loadCellsFrom])
     ·obtain ⟨b,off,cap,cs,e',fr,hS,hb,hk,hrow,hcap,hfit,hin,ev⟩:=data_ne hd (by simpa using hl)
      have hk1:k=1:=by
       cases l with
       | nil=>exact absurd rfl hl
       | cons c l=>exact (hrow [D.u8 c.toNat] (by simp)).symm
      subst hk1
      simp only [List.length_map,Nat.mul_one] at hfit hin ev hcap
      refine run _ cap ev (run_bytes_string l ?_ _ cap (run_loadCells_at hb off l.length hfit))
      apply Array.ext'
      apply List.ext_getElem?
      intro j
      by_cases hj:j<l.length
      ·have hd:=hin j hj
       rw [flatten_single] at hd
       have e1:(l.map fun c=>D.u8 c.toNat).getD j default=D.u8 l[j].toNat:=by simp [List.getD_eq_getElem?_getD,hj]
       rw [e1] at hd
       have e2:cs.getD (off+j) undef=.int .u8 l[j].toNat:=data_v hd
       simp only [Array.toList_ofFn,List.getElem?_ofFn,hj,dif_pos,List.getElem?_map,List.getElem?_eq_getElem hj,Option.map_some,e2]
      ·simp [hj]
    ·exact h.elim
   ·exact h.elim
  ·exact h.elim
 ·exact h.elim

end

end Go.Av
