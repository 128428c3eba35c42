/- ABSTRACT VALUES: from a law's reading to data. -/
import Derived.Test.YtniibgdokfnomaaGreatAvZ
import Derived.Deep.Slices
namespace Go.Av
open Go Go.RowKit
set_option linter.unusedSimpArgs false
set_option linter.unusedVariables false

inductive Ty where
 | int (k:IntKind) | bool | str | sl (row:List Ty)

mutual
def Wf:Ty→D→Prop
 | t,d=>match t with
  | .int k=>∃n,d=.v (.int k n)∧k.min≤n∧n≤k.max
  | .bool=>∃b,d=.b b
  | .str=>∃l:List UInt8,d=.s l∧l.length≤9223372036854775807
  | .sl row=>∃rows:List (List D),d=.sl row.length rows∧rows.length≤9223372036854775807∧∀r∈rows,WfR row r
def WfR:List Ty→List D→Prop
 | ts,ds=>match ts with
  | []=>ds=[]
  | t::ts=>∃d r,ds=d::r∧Wf t d∧WfR ts r
end

theorem WfR_append {a b:List Ty} {x y:List D} (h1:WfR a x) (h2:WfR b y):WfR (a++b) (x++y):=by
 induction a generalizing x with
 | nil=>unfold WfR at h1;simp only at h1;subst h1;exact h2
 | cons t ts ih=>
  unfold WfR at h1
  obtain ⟨d,r,rfl,q1,q2⟩:=h1
  show WfR (t::(ts++b)) (d::(r++y))
  unfold WfR
  exact ⟨d,r++y,rfl,q1,ih q2⟩

theorem WfR_length {a:List Ty} {x:List D} (h:WfR a x):x.length=a.length:=by
 induction a generalizing x with
 | nil=>unfold WfR at h;simp only at h;subst h;rfl
 | cons t ts ih=>
  unfold WfR at h
  obtain ⟨d,r,rfl,q1,q2⟩:=h
  simp [ih q2]

/-- the fields, one behind another -/
def tysF (T:Tab) (g:TypeId→Option (List Ty)):Nat→Nat→List (Nat×TypeId)→Option (List Ty)
 | at_,size,[]=>match Nat.beq at_ size with | true=>some [] | false=>none
 | at_,size,(off,t)::r=>match Nat.beq off at_,T.get t with
  | true,some i=>match g t,tysF T g (at_+i.size) size r with
   | some a,some b=>match Nat.beq a.length i.size with | true=>some (a++b) | false=>none
   | _,_=>none
  | _,_=>none
/-- a type's cells -/
def tysOf (T:Tab):Nat→TypeId→Option (List Ty)
 | 0,_=>none
 | n+1,t=>match T.get t with
  | none=>none
  | some i=>match i.td with
   | .int k=>some [.int k]
   | .bool=>some [.bool]
   | .str=>some [.str]
   | .sl e=>match tysOf T n e with | some r=>some [.sl r] | none=>none
   | .struct fs=>tysF T (tysOf T n) 0 i.size fs
   | .map _ _=>none
   | .other=>none

section
variable {H:Type} {enc:TypeId×Value→H} {P:Program} {T:Tab} {w:World} {sp:Nat→Bool} {held:Bool}

theorem TypeOk.cells {t:TypeId} {i:TI} (h:TypeOk P t i):P.cellsOf t=i.size:=by
 obtain ⟨info,d,z,h1,h2,h3,_⟩:=h.ex
 simp [Program.cellsOf,h1,h3]

theorem TypeOk.under {t:TypeId} {i:TI} (h:TypeOk P t i):∃d,P.underlying t=some d∧DescOk d i.td:=by
 obtain ⟨info,d,z,h1,h2,h3,h4,h5,h6,h7⟩:=h.ex
 exact ⟨d,h2,h7⟩

def Reads (w:World) (tys:List Ty) (cs:List Value):Prop:=∃ds:List D,ds.length=cs.length∧WfR tys ds∧∀i,i<cs.length→Data (·<w.heap.size) (hp w) (ds.getD i default) (cs.getD i undef)

theorem reads_one {ty:Ty} {d:D} {v:Value} (h1:Wf ty d) (h2:Data (·<w.heap.size) (hp w) d v):Reads w [ty] [v]:=
 ⟨[d],rfl,by unfold WfR;exact ⟨d,[],rfl,h1,by unfold WfR;rfl⟩,fun i hi=>by
  have:i=0:=by simpa using hi
  subst this;simpa using h2⟩

theorem reads_append {a b:List Ty} {x y:List Value} (h1:Reads w a x) (h2:Reads w b y):Reads w (a++b) (x++y):=by
 obtain ⟨d1,l1,w1,r1⟩:=h1
 obtain ⟨d2,l2,w2,r2⟩:=h2
 refine ⟨d1++d2,by simp [l1,l2],WfR_append w1 w2,fun i hi=>?_⟩
 rw [getD_append,getD_append,l1]
 split
 ·rename_i h;exact r1 i h
 ·exact r2 _ (by simp at hi;omega)

theorem cell_spot {w:World} {a:Addr} {v:Value} (h:w.cell? a=some v):a.spot=none∧∃cs e fr,hp w a.block=some (.cells cs e fr)∧cs[a.off]?=some v:=by
 unfold World.cell? at h
 split at h
 ·rename_i cs e fr hb
  split at h
  ·simp at h
  ·rename_i hs
   exact ⟨by simpa using hs,cs,e,fr,hb,h⟩
 ·simp at h

theorem reads_of (hT:TOk P T):∀(n:Nat),(∀t tys,tysOf T n t=some tys→∀fuel cs x,DataW.trod enc P w 0 sp held fuel t cs=some x→Reads w tys cs∧cs.length=tys.length)
 | 0=>by intro t tys h;simp [tysOf] at h
 | n+1=>by
  have ih:=reads_of hT n
  intro t tys ht fuel cs x hx
  cases fuel with
  | zero=>simp [DataW.trod] at hx
  | succ fuel=>
   simp only [tysOf] at ht
   split at ht
   ·simp at ht
   ·rename_i i hi
    have HT:=hT t i hi
    obtain ⟨d,hu,hd⟩:=HT.under
    split at ht
    ·rename_i k htd
     simp only [Option.some.injEq] at ht;subst ht
     rw [htd] at hd;simp only [DescOk] at hd;subst hd
     unfold DataW.trod at hx
     rw [hu] at hx
     split at hx <;> simp_all
     rename_i k' n' hk
     obtain ⟨⟨rfl,hwf⟩,_⟩:=hx
     simp only [Lit.wf,Bool.and_eq_true,decide_eq_true_eq] at hwf
     exact reads_one (d:=.v (.int k' n')) (by unfold Wf;exact ⟨n',rfl,hwf.1,hwf.2⟩) (.v _ rfl)
    ·rename_i htd
     simp only [Option.some.injEq] at ht;subst ht
     rw [htd] at hd;simp only [DescOk] at hd;subst hd
     unfold DataW.trod at hx
     rw [hu] at hx
     split at hx <;> simp_all
     rename_i b
     exact reads_one (d:=.b b) (by unfold Wf;exact ⟨b,rfl⟩) (.v _ rfl)
    ·rename_i htd
     simp only [Option.some.injEq] at ht;subst ht
     rw [htd] at hd;simp only [DescOk] at hd;subst hd
     unfold DataW.trod at hx
     rw [hu] at hx
     split at hx <;> simp_all
     rename_i s
     obtain ⟨⟨l⟩⟩:=s
     exact reads_one (d:=.s l) (by unfold Wf;exact ⟨l,rfl,by have:=hx.1;simp only [maxLen] at this;exact this⟩) (.v _ rfl)
    ·rename_i e htd
     rw [htd] at hd;simp only [DescOk] at hd;subst hd
     split at ht
     ·rename_i r hr
      simp only [Option.some.injEq] at ht;subst ht
      rcases Deep.open_slice hu hx with ⟨rfl,_⟩ | ⟨a,len,cap,m,fu,DD,Pl,rfl,_,hlc,hcm,hm,_,hel⟩
      ·refine ⟨reads_one (d:=.sl r.length []) ?_ (.nil _ none 0),rfl⟩
       unfold Wf;exact ⟨[],rfl,by simp,by simp⟩
      ·refine ⟨?_,rfl⟩
       by_cases hlen:len=0
       ·subst hlen
        refine reads_one (d:=.sl r.length []) ?_ (.nil _ _ cap)
        unfold Wf;exact ⟨[],rfl,by simp,by simp⟩
       ·have hle:len≤m:=by rw [hm];split <;> omega
        have each:∀j,j<len→∃row:List D,(∃cs',w.cells? 0 (a.add (j * P.cellsOf e)) (P.cellsOf e)=some cs'∧row.length=cs'.length∧WfR r row∧∀i,i<cs'.length→Data (·<w.heap.size) (hp w) (row.getD i default) (cs'.getD i undef))∧row.length=r.length:=by
         intro j hj
         obtain ⟨cs',h1,h2⟩:=hel j (by omega)
         obtain ⟨⟨row,q1,q2,q3⟩,q4⟩:=ih e r hr fu cs' _ h2
         exact ⟨row,⟨cs',h1,q1,q2,q3⟩,by omega⟩
        obtain ⟨f,hf⟩:=Deep.choose_lt each
        have hk:P.cellsOf e=r.length:=by
         obtain ⟨⟨cs',h1,q1,_⟩,h2⟩:=hf 0 (by omega)
         obtain ⟨_,hl,_⟩:=World.cells?_some h1
         omega
        have hkpos:0<r.length:=by
         cases n with
         | zero=>simp [tysOf] at hr
         | succ n=>
          simp only [tysOf] at hr
          split at hr
          ·simp at hr
          ·rename_i ie hie
           have HE:=hT e ie hie
           rw [← hk,HE.cells];exact HE.pos
        -- the block
        obtain ⟨⟨cs0,h1,q1,_,q3⟩,h2⟩:=hf 0 (by omega)
        obtain ⟨_,hl0,hc0⟩:=World.cells?_some h1
        have hfirst:w.cell? a=cs0[0]?:=by
         have:=hc0 0 (by omega)
         simpa [Addr.add] using this
        obtain ⟨v0,hv0⟩:∃v,cs0[0]?=some v:=⟨_,List.getElem?_eq_getElem (by omega)⟩
        rw [hv0] at hfirst
        obtain ⟨hspot,cs,e',fr,hb,_⟩:=cell_spot hfirst
        obtain ⟨ab,ao,asp⟩:=a
        simp only at hspot hb
        subst hspot
        have hS:ab<w.heap.size:=by
         have hb':w.heap[ab]?=some (.cells cs e' fr):=hb
         exact (Array.getElem?_eq_some_iff.1 hb').1
        -- each cell
        have cell:∀j,j<len→∀l,l<r.length→Data (·<w.heap.size) (hp w) ((f j).getD l default) (cs.getD (ao+(j * r.length+l)) undef)∧ao+(j * r.length+l)<cs.size:=by
         intro j hj l hl
         obtain ⟨⟨cs',g1,g2,g3,g4⟩,g5⟩:=hf j hj
         rw [hk,Addr.add_off] at g1
         obtain ⟨_,gl,gc⟩:=World.cells?_some g1
         have:=gc l (by omega)
         rw [Addr.add_off] at this
         obtain ⟨v,hv⟩:∃v,cs'[l]?=some v:=⟨_,List.getElem?_eq_getElem (by omega)⟩
         rw [hv] at this
         obtain ⟨_,cs2,e2,fr2,hb2,hv2⟩:=cell_spot this
         simp only at hb2 hv2
         rw [hb] at hb2
         simp only [Option.some.injEq,Obj.cells.injEq] at hb2
         obtain ⟨rfl,_,_⟩:=hb2
         have hd':=g4 l (by omega)
         have e3:cs'.getD l undef=v:=by rw [List.getD_eq_getElem?_getD,hv];rfl
         rw [e3] at hd'
         rw [Nat.add_assoc] at hv2
         refine ⟨?_,(Array.getElem?_eq_some_iff.1 hv2).1⟩
         rw [Array.getD_eq_getD_getElem?,hv2]
         exact hd'
        let rows:List (List D):=(List.range len).map f
        have hrl:rows.length=len:=by simp [rows]
        have hrow:∀x∈rows,x.length=r.length:=by
         intro x hx
         obtain ⟨j,hj,rfl⟩:=List.mem_map.1 hx
         exact (hf j (List.mem_range.1 hj)).2
        have hget:∀j,j<len→rows[j]?=some (f j):=by
         intro j hj;simp [rows,hj]
        have hdat:Data (·<w.heap.size) (hp w) (.sl r.length rows) (.slice (some ⟨ab,ao,none⟩) len cap):=by
         rw [← hrl]
         refine .sl r.length rows ab ao cap cs e' fr hS hb hkpos hrow (by rw [hrl];exact hlc) ?_ fun i hi=>?_
         ·rw [hrl]
          obtain ⟨_,q⟩:=cell (len - 1) (by omega) (r.length - 1) (by omega)
          have e1:(len - 1) * r.length+r.length=len * r.length:=by
           rw [← Nat.succ_mul];congr 1;omega
          omega
         ·rw [hrl] at hi
          have hq:i / r.length<len:=(Nat.div_lt_iff_lt_mul hkpos).2 hi
          have hm':i % r.length<r.length:=Nat.mod_lt _ hkpos
          have ei:i / r.length * r.length+i % r.length=i:=by rw [Nat.mul_comm];exact Nat.div_add_mod i r.length
          have:=row_at (i / r.length) (i % r.length) (f (i / r.length)) hrow (hget _ hq) hm'
          rw [ei] at this
          rw [this]
          have c:=(cell _ hq _ hm').1
          rw [ei] at c
          exact c
        refine reads_one (d:=.sl r.length rows) ?_ hdat
        unfold Wf
        refine ⟨rows,rfl,by rw [hrl];simp only [maxLen] at hcm;omega,fun x hx=>?_⟩
        obtain ⟨j,hj,rfl⟩:=List.mem_map.1 hx
        obtain ⟨⟨cs',_,_,g3,_⟩,_⟩:=hf j (List.mem_range.1 hj)
        exact g3
     ·simp at ht
    ·rename_i fs htd
     rw [htd] at hd;simp only [DescOk] at hd
     obtain ⟨fields,rfl,hfs,_⟩:=hd
     obtain ⟨xs,m,_,rfl,hlen,hxl,hf⟩:=DataW.trod_struct hu hx
     have hsz:=HT.cells
     have get:∀p∈fs,∃y,DataW.trod enc P w 0 sp held m p.2 ((cs.drop p.1).take (P.cellsOf p.2))=some y:=by
      intro p hp
      rw [← hfs] at hp
      obtain ⟨f,hf1,rfl⟩:=List.mem_map.1 hp
      obtain ⟨j,hj,rfl⟩:=List.mem_iff_getElem.1 hf1
      have hj':j<fields.size:=hj
      have:=hf j fields[j] (Array.getElem?_eq_getElem hj')
      rw [List.getElem?_eq_getElem (by omega)] at this
      exact ⟨_,this⟩
     have key:∀(l:List (Nat×TypeId)) (at_:Nat) (tys:List Ty),(∀p∈l,p∈fs)→at_≤cs.length→tysF T (tysOf T n) at_ i.size l=some tys→Reads w tys (cs.drop at_)∧(cs.drop at_).length=tys.length:=by
      intro l
      induction l with
      | nil=>
       intro at_ tys _ _ h
       simp only [tysF] at h
       split at h
       ·rename_i e
        have e:=Nat.eq_of_beq_eq_true e
        simp only [Option.some.injEq] at h;subst h
        have:cs.drop at_=[]:=List.drop_eq_nil_of_le (by omega)
        rw [this]
        exact ⟨⟨[],rfl,by unfold WfR;rfl,by simp⟩,rfl⟩
       ·simp at h
      | cons p l ihl=>
       obtain ⟨off,ft⟩:=p
       intro at_ tys hmem hle h
       simp only [tysF] at h
       split at h
       ·rename_i fi e hfi
        have e:=Nat.eq_of_beq_eq_true e
        subst e
        split at h
        ·rename_i a b ha hb
         split at h
         ·rename_i hal
          have hal:=Nat.eq_of_beq_eq_true hal
          simp only [Option.some.injEq] at h;subst h
          obtain ⟨y,hy⟩:=get (off,ft) (hmem _ (by simp))
          have HF:=hT ft fi hfi
          simp only [HF.cells] at hy
          obtain ⟨r1,l1⟩:=ih ft a ha m _ y hy
          have hle2:off+fi.size≤cs.length:=by
           simp at l1;omega
          obtain ⟨r2,l2⟩:=ihl (off+fi.size) b (fun q hq=>hmem q (List.mem_cons_of_mem _ hq)) hle2 hb
          have e2:cs.drop off=(cs.drop off).take fi.size++cs.drop (off+fi.size):=by
           rw [← List.drop_drop];exact (List.take_append_drop _ _).symm
          rw [e2]
          exact ⟨reads_append r1 r2,by simp only [List.length_append,l1,l2]⟩
         ·simp at h
        ·simp at h
       ·simp at h
     have:=key fs 0 tys (fun _ h=>h) (Nat.zero_le _) ht
     simpa using this
    ·simp at ht
    ·simp at ht

end

end Go.Av
