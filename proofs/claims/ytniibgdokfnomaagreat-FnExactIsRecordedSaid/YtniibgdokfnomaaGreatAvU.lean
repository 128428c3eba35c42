/- ABSTRACT VALUES: what an operation looks at. -/
import Derived.Test.YtniibgdokfnomaaGreatAvS
namespace Go.Av
open Go Go.RowKit
set_option linter.unusedSimpArgs false
set_option linter.unusedVariables false

theorem putD_eq {s:St} {dst:Option Nat} {v:AV} {u:Ups} {K:St→Prop}:s.putD dst v u K=K ⟨(match dst with | some t=>(t,v)::s.env | none=>s.env),u++s.mem,s.next⟩:=by
 obtain ⟨env,mem,next⟩:=s
 cases dst <;> simp only [St.putD,forceA_eq,forceU_eq]

theorem mapT_congr {ρ ρ':TypeId→Operand→AV}:∀(ts:List TypeId) (xs:List Operand),(∀x∈xs,∀t,ρ t x=ρ' t x)→mapT ρ ts xs=mapT ρ' ts xs
 | _,[],_=>by cases ‹List TypeId› <;> rfl
 | [],x::xs,h=>by simp only [mapT,h x (by simp),mapT_congr [] xs fun y hy=>h y (List.mem_cons_of_mem _ hy)]
 | t::ts,x::xs,h=>by simp only [mapT,h x (by simp),mapT_congr ts xs fun y hy=>h y (List.mem_cons_of_mem _ hy)]

theorem fillA_congr {T:Tab} {fs:List (Nat×TypeId)} {ρ ρ':TypeId→Operand→AV}:∀(ps:List (Nat×Operand)) (cs:List AV),(∀x∈ps.map (·.2),∀t,ρ t x=ρ' t x)→fillA fs T ρ cs ps=fillA fs T ρ' cs ps
 | [],_,_=>rfl
 | (i,x)::r,cs,h=>by
  have e:∀t,ρ t x=ρ' t x:=h x (by simp)
  have ih:=fun cs=>fillA_congr (T:=T) (fs:=fs) r cs fun y hy=>h y (by simp only [List.map_cons,List.mem_cons];exact .inr hy)
  simp only [fillA,e,ih]

theorem map_congr' {ρ ρ':TypeId→Operand→AV} (t:TypeId) (xs:List Operand) (h:∀x∈xs,∀t,ρ t x=ρ' t x):xs.map (ρ t)=xs.map (ρ' t):=List.map_congr_left fun x hx=>h x hx t

theorem stepR_congr {C:Contract} {T:Tab} {o:Oper} {ρ ρ':TypeId→Operand→AV} {m:Nat→Option AO} {id:Nat} {K:AV→Ups→Prop} (hρ:∀x∈opnds o.op,∀t,ρ t x=ρ' t x) (h:stepR C T o ρ m id K):stepR C T o ρ' m id K:=by
 have key:stepR C T o ρ m id K=stepR C T o ρ' m id K:=by
  unfold stepR
  split
  ·rename_i x ho
   have e:∀t,ρ t x=ρ' t x:=hρ x (by rw [ho];simp [opnds])
   simp only [e]
  ·rename_i x ho
   have e:∀t,ρ t x=ρ' t x:=hρ x (by rw [ho];simp [opnds])
   simp only [e]
  ·rename_i c x y ho
   have e1:∀t,ρ t c=ρ' t c:=hρ c (by rw [ho];simp [opnds])
   have e2:∀t,ρ t x=ρ' t x:=hρ x (by rw [ho];simp [opnds])
   have e3:∀t,ρ t y=ρ' t y:=hρ y (by rw [ho];simp [opnds])
   simp only [e1,e2,e3]
  ·rfl
  ·rename_i t x ho
   have e:∀t,ρ t x=ρ' t x:=hρ x (by rw [ho];simp [opnds])
   simp only [e]
  ·rename_i t ps ho
   have e:∀fs cs,fillA fs T ρ cs ps=fillA fs T ρ' cs ps:=fun fs cs=>fillA_congr ps cs fun x hx=>hρ x (by rw [ho];simpa [opnds] using hx)
   simp only [e]
  ·rename_i t n ps ho
   have e:∀e,(ps.map fun p=>ρ e p.2)=(ps.map fun p=>ρ' e p.2):=fun e=>List.map_congr_left fun p hp=>hρ p.2 (by rw [ho];simp only [opnds];exact List.mem_map.2 ⟨p,hp,rfl⟩) e
   simp only [e]
  ·rename_i t x ho
   have e:∀t,ρ t x=ρ' t x:=hρ x (by rw [ho];simp [opnds])
   simp only [e]
  ·rename_i x ho
   have e:∀t,ρ t x=ρ' t x:=hρ x (by rw [ho];simp [opnds])
   simp only [e]
  ·rename_i op t x y t' ho
   have e1:∀t,ρ t x=ρ' t x:=hρ x (by rw [ho];simp [opnds])
   have e2:∀t,ρ t y=ρ' t y:=hρ y (by rw [ho];simp [opnds])
   simp only [e1,e2]
  ·rename_i op t x ho
   have e:∀t,ρ t x=ρ' t x:=hρ x (by rw [ho];simp [opnds])
   simp only [e]
  ·rename_i a b x ho
   have e:∀t,ρ t x=ρ' t x:=hρ x (by rw [ho];simp [opnds])
   simp only [e]
  ·rename_i f caps ho
   have e:=map_congr' (ρ:=ρ) (ρ':=ρ') 0 caps fun x hx=>hρ x (by rw [ho];simpa [opnds] using hx)
   simp only [e]
  ·rename_i t l c ho
   have e1:∀t,ρ t l=ρ' t l:=hρ l (by rw [ho];simp [opnds])
   have e2:∀t,ρ t c=ρ' t c:=hρ c (by rw [ho];simp [opnds])
   simp only [e1,e2]
  ·rfl
  ·rename_i t x k y ho
   have e1:∀t,ρ t x=ρ' t x:=hρ x (by rw [ho];simp [opnds])
   have e2:∀t,ρ t k=ρ' t k:=hρ k (by rw [ho];simp [opnds])
   have e3:∀t,ρ t y=ρ' t y:=hρ y (by rw [ho];simp [opnds])
   simp only [e1,e2,e3]
  ·rename_i t x k ho
   have e1:∀t,ρ t x=ρ' t x:=hρ x (by rw [ho];simp [opnds])
   have e2:∀t,ρ t k=ρ' t k:=hρ k (by rw [ho];simp [opnds])
   simp only [e1,e2]
  ·rename_i t x lo hi ho
   have e1:∀t,ρ t x=ρ' t x:=hρ x (by rw [ho];simp [opnds])
   have e2:lo.map (ρ 0)=lo.map (ρ' 0):=by
    cases lo with
    | none=>rfl
    | some y=>simp only [Option.map_some,hρ y (by rw [ho];simp [opnds])]
   have e3:hi.map (ρ 0)=hi.map (ρ' 0):=by
    cases hi with
    | none=>rfl
    | some y=>simp only [Option.map_some,hρ y (by rw [ho];simp [opnds])]
   simp only [e1,e2,e3]
  ·rename_i t x f ho
   have e:∀t,ρ t x=ρ' t x:=hρ x (by rw [ho];simp [opnds])
   simp only [e]
  ·rename_i t x f ho
   have e:∀t,ρ t x=ρ' t x:=hρ x (by rw [ho];simp [opnds])
   simp only [e]
  ·rename_i t x ix ho
   have e1:∀t,ρ t x=ρ' t x:=hρ x (by rw [ho];simp [opnds])
   have e2:∀t,ρ t ix=ρ' t ix:=hρ ix (by rw [ho];simp [opnds])
   simp only [e1,e2]
  ·rename_i t x ix ho
   have e1:∀t,ρ t x=ρ' t x:=hρ x (by rw [ho];simp [opnds])
   have e2:∀t,ρ t ix=ρ' t ix:=hρ ix (by rw [ho];simp [opnds])
   simp only [e1,e2]
  ·rename_i x i ho
   have e:∀t,ρ t x=ρ' t x:=hρ x (by rw [ho];simp [opnds])
   simp only [e]
  ·rename_i x t ho
   have e:∀t,ρ t x=ρ' t x:=hρ x (by rw [ho];simp [opnds])
   simp only [e]
  ·rename_i x y t t' ho
   have e1:∀t,ρ t x=ρ' t x:=hρ x (by rw [ho];simp [opnds])
   have e2:∀t,ρ t y=ρ' t y:=hρ y (by rw [ho];simp [opnds])
   simp only [e1,e2]
  ·rename_i xs ts ho
   have e:=map_congr' (ρ:=ρ) (ρ':=ρ') 0 xs fun x hx=>hρ x (by rw [ho];simpa [opnds] using hx)
   simp only [e]
  ·rename_i xs ts ho
   have e:=map_congr' (ρ:=ρ) (ρ':=ρ') 0 xs fun x hx=>hρ x (by rw [ho];simpa [opnds] using hx)
   simp only [e]
  ·rename_i f xs ts ho
   have e1:∀t,ρ t f=ρ' t f:=hρ f (by rw [ho];simp [opnds])
   have e2:=mapT_congr (ρ:=ρ) (ρ':=ρ') ts xs fun x hx=>hρ x (by rw [ho];simp only [opnds];exact List.mem_cons_of_mem _ hx)
   simp only [e1,e2]
  ·rfl
 exact key ▸ h

theorem stepW_congr {T:Tab} {o:Oper} {ρ ρ':TypeId→Operand→AV} {m:Nat→Option AO} {K:AV→Ups→Prop} (hρ:∀x∈opnds o.op,∀t,ρ t x=ρ' t x) (h:stepW T o ρ m K):stepW T o ρ' m K:=by
 have key:stepW T o ρ m K=stepW T o ρ' m K:=by
  unfold stepW
  split
  ·rename_i t y x ho hd
   have e1:∀t,ρ t y=ρ' t y:=hρ y (by rw [ho];simp [opnds])
   have e2:∀t,ρ t x=ρ' t x:=hρ x (by rw [ho];simp [opnds])
   simp only [e1,e2]
  ·rfl
 exact key ▸ h

theorem stepX_congr {C:Contract} {T:Tab} {o:Oper} {ρ ρ':TypeId→Operand→AV} {m:Nat→Option AO} {id:Nat} {K:AV→Ups→Prop} (hρ:∀x∈opnds o.op,∀t,ρ t x=ρ' t x) (h:stepX C T o ρ m id K):stepX C T o ρ' m id K:=by
 unfold stepX at h ⊢
 split at h
 ·exact stepW_congr hρ h
 ·exact stepR_congr hρ h

theorem mem_tmpsL:∀{l:List Operand} {t:Nat},Operand.tmp t∈l→t∈tmpsL l
 | [],_,h=>by simp at h
 | .tmp u::r,t,h=>by
  simp only [tmpsL,List.mem_cons]
  rcases List.mem_cons.1 h with h | h
  ·left;simpa using h
  ·right;exact mem_tmpsL h
 | .const v::r,t,h=>by
  rcases List.mem_cons.1 h with h | h
  ·simp at h
  ·simp only [tmpsL];exact mem_tmpsL h
 | .global v::r,t,h=>by
  rcases List.mem_cons.1 h with h | h
  ·simp at h
  ·simp only [tmpsL];exact mem_tmpsL h
 | .func v::r,t,h=>by
  rcases List.mem_cons.1 h with h | h
  ·simp at h
  ·simp only [tmpsL];exact mem_tmpsL h

/-- slots that agree give operands that agree -/
theorem evA_congr {T:Tab} {s s':St} {l:List Operand} (h:∀t∈tmpsL l,look s.env t=look s'.env t):∀x∈l,∀t,evA T s t x=evA T s' t x:=by
 intro x hx t
 cases x with
 | tmp u=>exact h u (mem_tmpsL hx)
 | _=>rfl

end Go.Av
