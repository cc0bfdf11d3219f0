/- Part 12 of a proof of the law SymbolsReference: Go data as trees, the walks of the functions that the law reaches, the plain laws. -/
import Derived.Test.YtfphoklhgapnpaaGreatDoorGFSymbolsReference
import Derived.KernelRfl
import GoSem.ClaimJoined
import Derived.ChangeArms
import Derived.Carry
import Derived.SizedLaws
import Derived.JoinedCond
import Derived.Deep.CondSized
import Derived.OpenShut
open List renaming all_cons->aQc,all_eq_true->aRo,append_assoc->aR4,append_nil->aR0,cons_append->aQf,drop_zero->aSb,getD_eq_getElem?_getD->aRb,getElem?_append_left->aQt,getElem?_append_right->aQu,getElem?_eq_getElem->aRa,getElem?_eq_none->aQv,getElem?_map->aQ8,getElem?_set_ne->aQy,getElem?_set_self->aQx,getElem_map->aQg,getElem_mem->aRh,length_append->aRf,length_cons->aQ0,length_drop->aQ5,length_map->aQp,length_nil->aR1,length_singleton->aQh,length_take->aQ6,map_append->aRt,map_cons->aRd,mem_append->aRp,mem_append_left->aSa,mem_append_right->aR9,mem_cons->aRs,mem_cons_of_mem->aSd,mem_filter->aRw,mem_map->aRn,mem_singleton->aRz,nil_append->aRy,not_mem_nil->aR2,set_append_right->aRu,take_length->aR7,take_of_length_le->aR8
open Nat renaming le_refl->aQj,le_trans->aQk,lt_or_ge->aQi,lt_succ_self->aR3,mul_le_mul_right->aRg,succ_ne_self->aR5,zero_add->aRe,zero_le->aRk
open Bool renaming and_eq_true->aQd,eq_iff_iff->aRr,false_eq_true->aQ9,not_eq_true'->aQe,not_false->aRm,not_true->aRq,or_eq_true->aRv
open Array renaming getD_eq_getD_getElem?->aQm,getElem?_toList->aRc
open Option renaming bind_some->aQw
open Int renaming cast_ofNat_Int->aSe
set_option linter.unusedSectionVars false
set_option linter.unnecessarySimpa false
set_option linter.unusedVariables false
set_option linter.unusedSimpArgs false
namespace Go.Abs
section
variable{toks:List Tk}{n d r:Nat}{s0 s:PS}
theorem aOk{S:Int}{al:List Int}(x:J toks S al true s0 s)(rm:Rm toks d (r+1) s):∃s',rX s=some s'/\J toks (S+1) al true s0 s'/\s'.pos=s.pos:=by
 obtain⟨f,fs,new,a1,a2,a3,a4,a5,a6,a7,a8⟩:=x;obtain⟨g,gs,b1,b2,b3,b4⟩:=rm;rw[a2]at b1;injection b1 with b1 b0;subst b1 b0;obtain⟨t0,ht0,hk0⟩:=a8 rfl;have hne:new≠ []:=by rintro rfl;cases ht0
 obtain⟨ini,y,rfl⟩:∃ini y,new=ini++ [y]:=⟨new.dropLast,new.getLast hne,(List.dropLast_concat_getLast hne).symm⟩;have hm:∀t,t∈ini++ [y]->t∈ini++ [⟨0,[],[]⟩,y]:=λt ht=>by
  rcases aRp.1 ht with q|q
  ·exact aSa _ q
  ·exact aR9 _ (aSd _ q)
 refine⟨{s with stack:=⟨f.kind,f.kids++(ini++ [⟨0,[],[]⟩,y])⟩::fs}, ?_,⟨f,fs,ini++ [⟨0,[],[]⟩,y],a1,rfl,a3,a4, ?_, ?_,λt ht=> ?_,λ_=>⟨t0,hm _ ht0,hk0⟩⟩,rfl⟩
 ·unfold rX;rw[a2];simp only[<-aR4,List.getLast?_concat,List.dropLast_concat];simp only[<-aR4]at b3;rw[if_pos z8]
 ·rw[iV]at a5⊢;simp only[bV,St.size]at a5⊢
  split at a5<;>split<;>simp_all<;>omega
 ·rw[<-a6];simp[uU,vB,zP]
 ·rcases aRp.1 ht with q|q
  ·exact a7 t (aSa _ q)
  ·rcases aRs.1 q with q|q
   ·subst q;exact⟨by simp[AQ,okN,okL],λz=>by cases z⟩
   ·exact a7 t (aR9 _ q)
theorem XN(hT:BF toks):∀(m:Nat) (s:PS),toks.length-s.pos<m->Rm toks (d+1) 2 s->∃s',dJ (λs2=>(eC (aG toks s2.pos) [[58,58]]&& !s2.flag)) (λs2=>(nR toks s2).bind λsq3=>(some {s2 with flag:=eC (aG toks sq3.pos) [[42]]}).bind λs4=>if(!s4.flag)=true then((cI toks) s4).bind λs5=>((bY 18 (bE toks)) s5).bind λs6=>some s6 else some s4) m s=some s'/\J toks 0 [] false s s'
 |0,s,h,r=>z8
 |m+1,s,h,r=>by
  unfold dJ
  by_cases c:(eC (aG toks s.pos) [[58,58]]&& !s.flag)=true
  ·rw[if_pos c];have hl:=EF (by simp only[aQd]at c;exact c.1);obtain⟨q,eq,_⟩:=DQ hT r;simp only[eq,aQw]
   by_cases f:eC (aG toks q.pos) [[42]]=true
   ·rw[f];simp only[aRq,aQ9,if_false,aQw];cases m with
    |zero=>omega
    |succ m=>
     unfold dJ;simp only[aRq,Bool.and_false,aQ9,if_false];exact⟨_,rfl,(r.refl:J toks 0 [] false s s)⟩
   ·have f':eC (aG toks q.pos) [[42]]=false:=by simpa using f
    rw[f'];simp only[aRm,if_true];obtain⟨s1,e1,x1,y1⟩:=mT hT (s:= {s with flag:=false}) (r:Rm toks (d+1) 2 s);obtain⟨l1,y1⟩:=y1 hl;have r1:Rm toks (d+1) 2 s1:=x1.rm0 (r:Rm toks (d+1) 2 s) (Int.le_refl _);obtain⟨t,et,xt⟩:=AZ (r:=1) (d:=d) hT (s:=⟨s1.pos,⟨18,[]⟩::s1.stack,s1.flag⟩) (by
     obtain⟨f,fs,b1,b2,b3,b4⟩:=r1;exact⟨_,_,rfl,b2,by simp only[aR1];omega,by simp only[aQ0];omega⟩)
    obtain⟨s2,e2,x2,p2⟩:=BK (k:=18) (r:=1) r1 et xt z7 z7 (λ_ h=>by cases h) (λh=>by cases h);simp only[e1,e2,aQw];have x:J toks (-237) [] false s s2:=(y1.trans x2:J toks _ _ _ s s2).mono z7 (λx hx=>by simpa[SY,AY]using hx) (λh=>by cases h);have hp:t.pos<=toks.length/\s1.pos<=t.pos:=⟨xt.pos.2,xt.pos.1⟩;obtain⟨s3,e3,x3⟩:=XN hT m s2 (by simp only at l1;omega) (x.rm0 r z7);exact⟨s3,e3,(x.trans x3).mono z7 (λ_ h=>h) (λh=>h)⟩
  ·rw[if_neg c];exact⟨s,rfl,r.refl⟩
theorem aN4(hT:BF toks)(hn:toks.length<n)(rm:Rm toks (d+3) 1302 s):∃s',m86 toks n s=some s'/\J toks 6 [] false s s':=by
 have hA:∃s1,bY 17 (TP toks n) {s with flag:=false}=some s1/\J toks 3 [] false s s1:=by
  have r1:Rm toks (d+2) 802 ⟨s.pos,⟨17,[]⟩::s.stack,false⟩:=by
   obtain⟨f,fs,b1,b2,b3,b4⟩:=rm;exact⟨_,_,rfl,b2,by simp only[aR1];omega,by simp only[aQ0];omega⟩
  have r2:Rm toks (d+1) 2 ⟨s.pos,⟨18,[]⟩::⟨17,[]⟩::s.stack,false⟩:=by
   obtain⟨f,fs,b1,b2,b3,b4⟩:=rm;exact⟨_,_,rfl,b2,by simp only[aR1];omega,by simp only[aQ0];omega⟩
  obtain⟨t,et,xt⟩:=AZ (r:=1) hT r2;obtain⟨s1,e1,x1,p1⟩:=BK (k:=18) (r:=801) (d:=d+1) r1 et xt z7 z7 (λ_ h=>by cases h) (λh=>by cases h);obtain⟨s2,e2,x2⟩:=XN (d:=d) hT n s1 z8 ((x1.rm (r:=2) (r1.mono (aQj _) z8) z8).mono z8 z8);have e:TP toks n ⟨s.pos,⟨17,[]⟩::s.stack,false⟩=some s2:=by unfold TP;rw[e1];exact e2
  obtain⟨s3,e3,x3,_⟩:=BK (s:= {s with flag:=false}) (k:=17) (r:=1) (d:=d+2) (rm.mono z8 z8:Rm toks (d+2+1) (1+1) s) e (x1.trans x2) z7 z7 (λ_ h=>by cases h) (λh=>by cases h);exact⟨s3,e3,(x3:J toks _ _ _ s s3).mono z7 (λx hx=>by simpa[SY,AY]using hx) (λh=>by cases h)⟩
 obtain⟨s1,e1,x1⟩:=hA;have r1:Rm toks (d+3) 902 s1:=x1.rm rm z8;have hE:∀t:PS,Rm toks (d+3) 2 t->∃s',((bK toks [59] t).bind λs4=>some {s4 with flag:=s.flag})=some s'/\J toks 1 [] false t s':=λt rt=>by
  obtain⟨u,eu,xu,_⟩:=xM hT (x:= [59]) (r:=1) rt;exact⟨{u with flag:=s.flag},by rw[eu];rfl,xu⟩
 unfold m86;refine bI e1 ?_
 split
 ·obtain⟨s2,e2,x2,_⟩:=mT hT r1;obtain⟨s3,e3,x3,_⟩:=mT hT (x2.rm0 r1 (Int.le_refl _));obtain⟨s4,e4,x4⟩:=hE s3 ((x3.rm0 (x2.rm0 r1 (Int.le_refl _)) (Int.le_refl _)).mono (aQj _) z8);refine bI e2 (bI e3 ⟨s4,e4,(((x1.trans x2).trans x3).trans x4).mono z7 (λ_ h=>h) (λh=>h)⟩)
 ·obtain⟨s2,e2,x2,_⟩:=oS hT (xs:= [[97,115]]) r1;have r2:=x2.rm0 r1 (Int.le_refl _);refine bI e2 ?_
  split
  ·obtain⟨s3,e3,x3⟩:=AZ (r:=901) hT r2;obtain⟨s4,e4,x4⟩:=hE s3 ((x3.rm (r:=2) (r2.mono (aQj _) z8) z7).mono (aQj _) z8);exact bI e3 ⟨s4,e4,(((x1.trans x2).trans x3).trans x4).mono z7 (λ_ h=>h) (λh=>h)⟩
  ·obtain⟨s4,e4,x4⟩:=hE s2 (r2.mono (aQj _) z8);exact⟨s4,e4,((x1.trans x2).trans x4).mono z7 (λ_ h=>h) (λh=>h)⟩
end
section
variable{toks:List Tk}{dB rB K self n pF:Nat}{R:dK}
theorem snd(hT:BF toks)(hn:toks.length<n)(IH:WE toks dB rB K R)(hk:32*(toks.length-pF)+self<=K):∀p,Snd toks n R dB rB self pF p:=by
 intro p
 induction p with
 |skip=>
  intro dp a b pi off s0 s h ho iv rm;have hS:=gI h;have rs:=iv.rs ho hS rm;unfold gH at h;rw[if_neg z8]at h;simp only at h;injection h with h;subst h;exact⟨s,rfl,iv⟩
 |setf v=>
  intro dp a b pi off s0 s h ho iv rm;have hS:=gI h;have rs:=iv.rs ho hS rm;unfold gH at h;rw[if_neg z8]at h;simp only at h;injection h with h;subst h;exact⟨{s with flag:=v},rfl,iv.j,iv.hi,iv.hF,iv.mi,iv.mv,iv.me,iv.ne,iv.br⟩
 |bump p ih=>
  intro dp a b pi off s0 s h ho iv rm;have hS:=gI h;have rs:=iv.rs ho hS rm;unfold gH at h;rw[if_neg z8]at h;simp only at h;obtain⟨s1,e1,x1,y1⟩:=mT hT rs;exact bI e1 (ih dp _ _ pi off s0 s1 h ho (iv.bump x1 y1) rm)
 |acc xs p ih=>
  intro dp a b pi off s0 s h ho iv rm;have hS:=gI h;have rs:=iv.rs ho hS rm;unfold gH at h;rw[if_neg z8]at h;simp only at h;obtain⟨s1,e1,x1,_⟩:=oS hT (xs:=xs) rs;exact bI e1 (ih dp _ _ pi off s0 s1 h ho (iv.go x1 λq=>by cases q) rm)
 |acif xs p q ihp ihq=>
  intro dp a b pi off s0 s h ho iv rm;have hS:=gI h;have rs:=iv.rs ho hS rm;unfold gH at h;rw[if_neg z8]at h;simp only at h;obtain⟨u,v,hu,hv,rfl⟩:=uZ h;obtain⟨s1,e1,x1,y1,z1⟩:=oS hT (xs:=xs) rs;refine bI e1 ?_
  by_cases c:eC (aG toks s.pos) xs=true
  ·rw[if_pos c];obtain⟨s',e,i⟩:=ihp dp _ _ pi off s0 s1 hu ho (iv.go (y1 c).2 λ_=>(y1 c).1) rm;exact⟨s',e,i.joinL⟩
  ·rw[if_neg c,z1 c];obtain⟨s',e,i⟩:=ihq dp _ _ pi off s0 s hv ho iv rm;exact⟨s',e,i.joinR⟩
 |exp x p ih=>
  intro dp a b pi off s0 s h ho iv rm;have hS:=gI h;have rs:=iv.rs ho hS rm;unfold gH at h;rw[if_neg z8]at h;simp only at h;obtain⟨s1,e1,x1,y1⟩:=xM hT (x:=x) (r:=1+1300*dp+rB) (rs.mono (aQj _) z8);refine bI e1 ?_
  split at h
  ·rename_i c;simp only[aQd,decide_eq_true_eq]at c;have:=y1 (by rw[c.2];exact iv.br c.1);exact ih dp _ _ pi off s0 s1 h ho (iv.go this.2 λ_=>this.1) rm
  ·exact ih dp _ _ pi off s0 s1 h ho (iv.go x1 λq=>by cases q) rm
 |idt p ih=>
  intro dp a b pi off s0 s h ho iv rm;have hS:=gI h;have rs:=iv.rs ho hS rm;unfold gH at h;rw[if_neg z8]at h;simp only at h;obtain⟨s1,e1,x1⟩:=AZ hT (r:=1+1300*dp+rB) (rs.mono (aQj _) z8);exact bI e1 (ih dp _ _ pi off s0 s1 h ho (iv.go x1 λq=>by cases q) rm)
 |mis k p ih=>
  intro dp a b pi off s0 s h ho iv rm;have hS:=gI h;have rs:=iv.rs ho hS rm;unfold gH at h;rw[if_neg z8]at h;simp only at h
  split at h
  ·cases h
  rename_i c;simp only[aRv,decide_eq_true_eq,not_or]at c;obtain⟨⟨c1,c2⟩,c3⟩:=c;obtain⟨s1,e1,x1,_⟩:=IK (k:=k) rs z8 (by simpa using c1) c2 c3;exact bI e1 (ih dp _ _ pi off s0 s1 h ho (iv.go x1 λq=>by cases q) rm)
 |call fn p ih=>
  intro dp a b pi off s0 s h ho iv rm;have hS:=gI h;have rs:=iv.rs ho hS rm;unfold gH at h;rw[if_neg z8]at h;simp only at h;obtain⟨u,hu,h⟩:=pA h;obtain⟨s1,e1,i1⟩:=WM IH hk hu ho hS iv rm;exact bI e1 (ih dp _ _ pi off s0 s1 h ho i1 rm)
 |callT fn=>
  intro dp a b pi off s0 s h ho iv rm;have hS:=gI h;have rs:=iv.rs ho hS rm;unfold gH at h;rw[if_neg z8]at h;simp only at h;exact WM IH hk h ho hS iv rm
 |bumpT=>
  intro dp a b pi off s0 s h ho iv rm;have hS:=gI h;have rs:=iv.rs ho hS rm;unfold gH at h;rw[if_neg z8]at h;simp only at h;injection h with h;subst h;obtain⟨s1,e1,x1,y1⟩:=mT hT rs;exact⟨s1,e1,iv.bump x1 y1⟩
 |node k q p ihq ih=>
  intro dp a b pi off s0 s h ho iv rm;have hS:=gI h;have rs:=iv.rs ho hS rm;unfold gH at h;rw[if_neg z8]at h;simp only at h;cases dp with
  |zero=>cases h
  |succ dp=>
   obtain⟨u,hu,h⟩:=pA h;obtain⟨s1,e1,i1⟩:=aBv ihq ho iv hS hu rm;exact bI e1 (ih _ _ _ pi off s0 s1 h ho i1 rm)
 |nodeT k q ihq=>
  intro dp a b pi off s0 s h ho iv rm;have hS:=gI h;have rs:=iv.rs ho hS rm;unfold gH at h;rw[if_neg z8]at h;simp only at h;cases dp with
  |zero=>cases h
  |succ dp=>exact aBv ihq ho iv hS h rm
 |wrap k q p ihq ih=>
  intro dp a b pi off s0 s h ho iv rm;have hS:=gI h;have rs:=iv.rs ho hS rm;unfold gH at h;rw[if_neg z8]at h;simp only at h;cases dp with
  |zero=>cases h
  |succ dp=>
   obtain⟨u,hu,h⟩:=pA h;obtain⟨s1,e1,i1⟩:=aKw ihq ho iv hS hu rm;exact bI e1 (ih _ _ _ pi off s0 s1 h ho i1 rm)
 |opt t q p ihq ih=>
  intro dp a b pi off s0 s h ho iv rm;have hS:=gI h;have rs:=iv.rs ho hS rm;unfold gH at h;rw[if_neg z8]at h;simp only at h;obtain⟨u,hu,h⟩:=pA h;obtain⟨x,y,hx,hy,rfl⟩:=uZ hu;obtain⟨s1,e1,x1,y1,z1⟩:=oS hT (xs:= [t]) rs;have key:∃s',iM toks t (lT toks n R q) s=some s'/\pG toks pF pi off s0 s' (oO x y):=by
   unfold iM;refine bI e1 ?_
   by_cases c:eC (aG toks s.pos) [t]=true
   ·rw[if_pos c];obtain⟨s',e,i⟩:=ihq dp _ _ pi off s0 s1 hx ho (iv.go (y1 c).2 λ_=>(y1 c).1) rm;exact⟨s',e,i.joinL⟩
   ·rw[if_neg c,z1 c];injection hy with hy;subst hy;obtain⟨s',e,x2,_⟩:=IK (k:=0) rs z8 rfl z7 z7;exact⟨s',e,(iv.go (m:=false) x2 λq=>by cases q).joinR⟩
  obtain⟨s2,e2,i2⟩:=key;exact bI e2 (ih dp _ _ pi off s0 s2 h ho i2 rm)
 |lst c q p ihq ih=>
  intro dp a b pi off s0 s h ho iv rm;have hS:=gI h;have rs:=iv.rs ho hS rm;unfold gH at h;rw[if_neg z8]at h;simp only at h;cases dp with
  |zero=>cases h
  |succ dp=>
   obtain⟨u,hu,h⟩:=pA h;obtain⟨s1,e1,i1⟩:=aOa ihq ho iv hS hT hn hu rm;exact bI e1 (ih _ _ _ pi off s0 s1 h ho i1 rm)
 |lop c q p ihq ih=>
  intro dp a b pi off s0 s h ho iv rm;have hS:=gI h;have rs:=iv.rs ho hS rm;unfold gH at h;rw[if_neg z8]at h;simp only at h;cases dp with
  |zero=>cases h
  |succ dp=>
   simp only at h
   split at h
   case isFalse=>cases h
   rename_i hcn;obtain⟨u,hu,h⟩:=pA h;obtain⟨s1,e1,i1⟩:=aE6 ihq ho iv hS hT hn hcn hu rm;exact bI e1 (ih _ _ _ pi off s0 s1 h ho i1 rm)
 |lopF c q p ihq ih=>
  intro dp a b pi off s0 s h ho iv rm;have hS:=gI h;have rs:=iv.rs ho hS rm;unfold gH at h;rw[if_neg z8]at h;simp only at h;cases dp with
  |zero=>cases h
  |succ dp=>
   simp only at h
   split at h
   case isFalse=>cases h
   rename_i hcn;obtain⟨u,hu,h⟩:=pA h;have iv':pG toks pF pi off s0 {s with flag:=false} a:=⟨iv.j,iv.hi,iv.hF,iv.mi,iv.mv,iv.me,iv.ne,iv.br⟩;obtain⟨s1,e1,i1⟩:=aE6 ihq ho iv' hS hT hn hcn hu rm;exact bI e1 (ih _ _ _ pi off s0 s1 h ho i1 rm)
 |lpw c q p ihq ih=>
  intro dp a b pi off s0 s h ho iv rm;have hS:=gI h;have rs:=iv.rs ho hS rm;unfold gH at h;rw[if_neg z8]at h;simp only at h
  split at h
  case isFalse=>cases h
  rename_i hcn;obtain⟨u,hu,h⟩:=pA h;obtain⟨s1,e1,i1⟩:=aE3 ihq ho iv hn hcn hu rm;exact bI e1 (ih _ _ _ pi off s0 s1 h ho i1 rm)
 |lpwT c q ihq=>
  intro dp a b pi off s0 s h ho iv rm;have hS:=gI h;have rs:=iv.rs ho hS rm;unfold gH at h;rw[if_neg z8]at h;simp only at h
  split at h
  case isFalse=>cases h
  rename_i hcn;exact aE3 ihq ho iv hn hcn h rm
 |lpe xs q p ihq ih=>
  intro dp a b pi off s0 s h ho iv rm;have hS:=gI h;have rs:=iv.rs ho hS rm;unfold gH at h;rw[if_neg z8]at h;simp only at h;cases dp with
  |zero=>cases h
  |succ dp=>
   obtain⟨u,hu,h⟩:=pA h;obtain⟨s1,e1,i1⟩:=aFy ihq ho iv hS hT hn hu rm;exact bI e1 (ih _ _ _ pi off s0 s1 h ho i1 rm)
 |lpeT xs q ihq=>
  intro dp a b pi off s0 s h ho iv rm;have hS:=gI h;have rs:=iv.rs ho hS rm;unfold gH at h;rw[if_neg z8]at h;simp only at h;cases dp with
  |zero=>cases h
  |succ dp=>exact aFy ihq ho iv hS hT hn h rm
 |ite c p q ihp ihq=>
  intro dp a b pi off s0 s h ho iv rm;have hS:=gI h;have rs:=iv.rs ho hS rm;unfold gH at h;rw[if_neg z8]at h;simp only at h;obtain⟨u,v,hu,hv,rfl⟩:=uZ h;show ∃s',(if c.ev toks s=true then lT toks n R p s else lT toks n R q s)=some s'/\_
  by_cases e:c.ev toks s=true
  ·rw[if_pos e];obtain⟨s',e,i⟩:=ihp dp _ _ pi off s0 s hu ho (iv.inf e) rm;exact⟨s',e,i.joinL⟩
  ·rw[if_neg e];obtain⟨s',e,i⟩:=ihq dp _ _ pi off s0 s hv ho (iv.inf (by simpa using e)) rm;exact⟨s',e,i.joinR⟩
 |look c p q ihp ihq=>
  intro dp a b pi off s0 s h ho iv rm;have hS:=gI h;have rs:=iv.rs ho hS rm;unfold gH at h;rw[if_neg z8]at h;simp only at h;obtain⟨u,v,hu,hv,rfl⟩:=uZ h;obtain⟨z,ez,_⟩:=DQ hT rs;refine bI ez ?_
  by_cases e:c.ev toks z=true
  ·rw[if_pos e];obtain⟨s',e,i⟩:=ihp dp _ _ pi off s0 s hu ho iv rm;exact⟨s',e,i.joinL⟩
  ·rw[if_neg e];obtain⟨s',e,i⟩:=ihq dp _ _ pi off s0 s hv ho iv rm;exact⟨s',e,i.joinR⟩
 |look2 c d p q r ihp ihq ihr=>
  intro dp a b pi off s0 s h ho iv rm;have hS:=gI h;have rs:=iv.rs ho hS rm;unfold gH at h;rw[if_neg z8]at h;simp only at h;obtain⟨uv,w,huv,hw,rfl⟩:=uZ h;obtain⟨u,v,hu,hv,rfl⟩:=uZ huv;obtain⟨z,ez,rz⟩:=DQ hT rs;obtain⟨y,ey,_⟩:=DQ hT rz;refine bI ez ?_
  by_cases e:c.ev toks z=true
  ·rw[if_pos e];refine bI ey ?_
   by_cases e:d.ev toks y=true
   ·rw[if_pos e];obtain⟨s',e,i⟩:=ihp dp _ _ pi off s0 s hu ho iv rm;exact⟨s',e,i.joinL.joinL⟩
   ·rw[if_neg e];obtain⟨s',e,i⟩:=ihq dp _ _ pi off s0 s hv ho iv rm;exact⟨s',e,i.joinR.joinL⟩
  ·rw[if_neg e];obtain⟨s',e,i⟩:=ihr dp _ _ pi off s0 s hw ho iv rm;exact⟨s',e,i.joinR⟩
 |ins p ih=>
  intro dp a b pi off s0 s h ho iv rm;have hS:=gI h;have rs:=iv.rs ho hS rm;unfold gH at h;rw[if_neg z8]at h;simp only at h
  split at h
  case isFalse=>cases h
  rename_i c;have j:=iv.j;rw[c]at j;obtain⟨s1,e1,x1,p1⟩:=aOk j (rs.mono (r':=1+1) (aQj _) z8);refine bI e1 (ih dp _ _ pi off s0 s1 h ho ⟨x1.mono (by simp only[Ab.go];omega) (λx hx=>by simpa[Ab.go]using hx) (λ_=>rfl),by rw[p1];exact iv.hi,by rw[p1];exact iv.hF,λq=>by rw[p1];exact iv.mi (by simpa[Ab.go]using q),λq=>by rw[p1];exact iv.mv (by simpa[Ab.go]using q),λq=>by rw[p1];exact iv.me q,λq=>(by cases q),λq=>by cases q⟩ rm)
 |seq q p ihq ih=>
  intro dp a b pi off s0 s h ho iv rm;have hS:=gI h;have rs:=iv.rs ho hS rm;unfold gH at h;rw[if_neg z8]at h;simp only at h;obtain⟨u,hu,h⟩:=pA h;obtain⟨s1,e1,i1⟩:=ihq dp _ _ pi off s0 s hu ho iv rm;exact bI e1 (ih dp _ _ pi off s0 s1 h ho i1 rm)
 |use p ih=>
  intro dp a b pi off s0 s h ho iv rm;have hS:=gI h;have rs:=iv.rs ho hS rm;unfold gH at h;rw[if_neg z8]at h;simp only at h
  match dp,h,rm,rs with
  |0,h,_,_=>cases h
  |1,h,_,_=>cases h
  |2,h,_,_=>cases h
  |dp+3,h,rm,rs=>
   obtain⟨s1,e1,x1⟩:=aN4 (d:=dB+dp) hT hn (rs.mono z8 z8);exact bI e1 (ih _ _ _ pi off s0 s1 h ho (iv.go x1 λq=>by cases q) rm)
end
section
variable{toks:List Tk}{dB rB K n:Nat}{R:dK}{s s':PS}
theorem IL:∀(a b:List St),tY a=true->tY (a++b)=true
 | [],b,h=>by cases h
 |c::a,b,h=>by
  simp only[aQf,tY]at h⊢
  split
  ·rename_i q;rw[if_pos q]at h;exact IL a b h
  ·rename_i q;rw[if_neg q]at h;exact h
theorem QU{t:St}{f:vH}{fs:List vH}(h:pJ t s=some s')(e:s.stack=f::fs):s'.stack=⟨f.kind,f.kids++ [t]⟩::fs:=by
 unfold pJ at h;rw[e]at h;simp only at h
 split at h
 ·injection h with h;rw[<-h]
 ·cases h
theorem CJ:∀(n:Nat) {s s':PS},vI toks n s=some s'->∀ {f:vH} {fs:List vH},s.stack=f::fs->∃new,s'.stack=⟨f.kind,f.kids++new⟩::fs/\(∀t∈new,rK t.kind=true)/\aG toks s.pos=aG toks s'.pos/\(toks.length-s.pos<=n->∀h:s'.pos<toks.length,CM toks[s'.pos].kind=false)
 |0,s,s',h,f,fs,e=>by
  injection h with h;subst h;exact⟨[],by rw[e];simp,λt h=>(by cases h),rfl,λh hl=>z8⟩
 |n+1,s,s',h,f,fs,e=>by
  unfold vI at h
  split at h
  ·rename_i ht;injection h with h;subst h;exact⟨[],by rw[e];simp,λt h=>(by cases h),rfl,λ_ hl=>by rw[aRa hl]at ht;cases ht⟩
  ·rename_i t ht
   split at h
   ·rename_i hv;obtain⟨s1,h1,h2⟩:=oB h;obtain⟨hl,s2,h3,h4,h5⟩:=tP h1;rw[aRa hl]at ht;injection ht with ht;have a2:=QU h3 e;have hs1:s1.stack=s2.stack:=by rw[h5]
    have hp1:s1.pos=s.pos+1:=by rw[h5,<-h4]
    obtain⟨new,b2,b3,b4,b5⟩:=CJ n h2 (hs1.trans a2);refine⟨St.mk toks[s.pos].kind toks[s.pos].text []::new,by rw[b2];simp,λt' ht'=> ?_, ?_,λhn=>b5 z8⟩
    ·rcases aRs.1 ht' with rfl|ht'
     ·rw[<-ht]at hv;exact hv
     ·exact b3 t' ht'
    ·rw[<-b4,hp1];exact DJ hl (by rw[ht];exact hv)
   ·rename_i hv;injection h with h;subst h;exact⟨[],by rw[e];simp,λt h=>(by cases h),rfl,λ_ hl=>by
     rw[aRa hl]at ht;injection ht with ht;rw[ht];simpa using hv⟩
theorem NI(hT:BF toks)(hp:(aG toks s.pos).kind≠100)(h:cI toks s=some s'){f:vH}{fs:List vH}(e:s.stack=f::fs):∃new,s'.stack=⟨f.kind,f.kids++new⟩::fs/\tY new=true:=by
 obtain⟨s1,h1,h2⟩:=yR h;obtain⟨new,a2,a3,a4,a5⟩:=CJ _ h1 e;have htl:∀(l:List St) (t:St),(∀x∈l,rK x.kind=true)->tY [t]=true->tY (l++ [t])=true:=λl t hl ht=>by
  induction l with
  |nil=>exact ht
  |cons c l ih=>
   simp only[aQf,tY,hl c z6,if_true];exact ih λx hx=>hl x (by simp[hx])
 split at h2
 ·rename_i hlt;obtain⟨hl,s2,h3,h4,h5⟩:=tP h2;have htk:=hT _ (aRh hl);have hk:rK toks[s1.pos].kind=false:=a5 (aQj _) hl;refine⟨new++ [St.mk toks[s1.pos].kind toks[s1.pos].text []],by rw[h5];exact(QU h3 a2).trans z6,htl _ _ a3 ?_⟩;have h100:100<=toks[s1.pos].kind:=z8
  simp[tY,St.kind,St.text,hk,htk.1,h100]
 ·rename_i hge;exfalso;rw[a4,rO z8]at hp;exact hp rfl
theorem Rm.kid{d r d' r':Nat}(rm:Rm toks d r s)(k:Int)(h1:d'+1<=d)(h2:r'<=r):Rm toks d' r' ⟨s.pos,⟨k,[]⟩::s.stack,s.flag⟩:=by
 obtain⟨f,fs,b1,b2,b3,b4⟩:=rm;exact⟨_,_,rfl,b2,by simp only[aR1];omega,by simp only[aQ0];omega⟩
theorem ML(hT:BF toks)(hn:toks.length<n)(IH:WE toks dB rB K R){p:Pr}{self dp:Nat}{e c:Bool}{b:Ab}(hc:gH self dp p ⟨0,false,false,false,false,e,c,[]⟩=some b)(he:e=true->s.pos<toks.length)(hb:c=true->EX toks s=true)(hk:32*(toks.length-s.pos)+self<=K)(rm:Rm toks (dB+dp) (rB+402+1300*dp) s):∃s',lT toks n R p s=some s'/\J toks b.S b.al b.nd s s'/\(b.mi=true->s.pos<s'.pos):=by
 obtain⟨s',e1,i⟩:=snd hT hn IH hk p dp _ _ s.pos 0 s s hc ⟨z7,λ_=>rfl⟩ ⟨rm.refl,aQj _,aQj _,λq=>(by cases q),λq=>(by cases q),λq=>(by cases q),he,hb⟩ rm;exact⟨s',e1,i.j.mono z8 (λ_ h=>h) (λh=>h),i.mi⟩
theorem KL(hT:BF toks)(hn:toks.length<n)(IH:WE toks dB rB K R){fn:wD}{S:Int}{e c:Bool}(hg:fM fn {DA fn with ne:=e,br:=c} S=true)(he:e=true->s.pos<toks.length)(hb:c=true->EX toks s=true)(hk:32*(toks.length-s.pos)+MP fn c<=K)(rm:Rm toks (dB+8) (rB+10802) s):∃s',lT toks n R (prog fn) s=some s'/\J toks S (alF fn) (ndF fn) s s'/\(mvF fn=true->e=true->s.pos<s'.pos):=by
 unfold fM at hg
 split at hg
 case h_2=>cases hg
 rename_i b hc;simp only[aQd,aRv,aQe,decide_eq_true_eq,aRo,List.contains_iff_mem]at hg;obtain⟨⟨⟨h1,h2⟩,h3⟩,h4⟩:=hg;obtain⟨s',e1,x,m⟩:=ML hT hn IH hc he hb hk (rm.mono (aQj _) z8);refine⟨s',e1,x.mono h1 h4 (λq=> ?_),λq1 q2=>m ?_⟩
 ·rcases h2 with h2|h2
  ·rw[q]at h2;cases h2
  ·exact h2
 ·rcases h3 with h3|h3
  ·rw[q1,q2]at h3;cases h3
  ·exact h3
theorem nG(hT:BF toks)(hn:toks.length<n)(IH:WE toks dB rB K R){fn:wD}(hg:fM fn (DA fn) (SF fn)=true)(hbl:xV fn=false)(har:TH fn=false)(hmv:mvF fn=IZ fn)(hden:SI toks n R fn=lT toks n R (prog fn))(hpo:TX fn=false)(hp:IZ fn=true->s.pos<toks.length)(hk:nX toks fn s<=K):Spc toks (dB+8) (rB+10802) fn (SI toks n R fn) s:=by
 refine⟨λh=>(by rw[hpo]at h;cases h),λ_ rm=> ?_⟩;obtain⟨s',e,x,m⟩:=KL (e:=IZ fn) (c:=false) hT hn IH hg hp (λh=>by cases h) (by simpa[nX,MP,hbl]using hk) rm;exact⟨s',by rw[hden];exact e,by simpa[SFb,hbl,har]using x,λq _=>m q (by rw[<-hmv];exact q)⟩
theorem PJ(k:Int):fM (.itemBody k) (DA (.itemBody k)) 24=true:=by
 by_cases h2:k=2
 ·subst h2;rfl
 by_cases h3:k=3
 ·subst h3;rfl
 by_cases h4:k=4
 ·subst h4;rfl
 by_cases h5:k=5
 ·subst h5;rfl
 by_cases h6:k=6
 ·subst h6;rfl
 by_cases h7:k=7
 ·subst h7;rfl
 by_cases h8:k=8
 ·subst h8;rfl
 by_cases h9:k=9
 ·subst h9;rfl
 unfold fM prog;simp only[h2,h3,h4,h5,h6,h7,h8,h9,if_false,or_self];rfl
end
section
variable{toks:List Tk}{dB rB K n:Nat}{R:dK}{s s':PS}
theorem YT(hT:BF toks)(hn:toks.length<n)(IH:WE toks dB rB K R)(P:PS->Option PS)(bb:Bool)(hp:s.pos<toks.length)(hk:32*(toks.length-s.pos)+14<=K)(rm:Rm toks (dB+8) (rB+10802) s)(hP:∃s1,P s=some s1/\J toks 3 [] true s s1):∃s',((P s).bind λs1=>if decide (((s1.pos:Nat):Int)=((s.pos:Nat):Int))=true then((BJ s1).bind λs2=>((iZ toks) s2).bind λs3=>some {s3 with flag:=false})else(if eC (aG toks s1.pos) [[125]]=true then(some {s1 with flag:=true})else(if eC (aG toks s1.pos) [[61]]=true then(((iA 23 (ZB toks n R)) s1).bind λs2=>some {s2 with flag:=false})else(((iA 26 (WO toks n R bb)) s1).bind λs2=>some {s2 with flag:=false}))))=some s'/\J toks 5 [] false s s'/\s.pos<s'.pos:=by
 obtain⟨s1,e1,x1⟩:=hP;have p1:=x1.pos;have r1:Rm toks (dB+8) (rB+10402) s1:=x1.rm (rm.mono (aQj _) z8) z8;refine bI e1 ?_
 by_cases c:s1.pos=s.pos
 ·simp only[c,decide_true,if_true];obtain⟨f,fs,ini,y,z1,z2⟩:=x1.last;obtain⟨f',fs',new,a1,a2,a3,a4,a5,a6,a7,a8⟩:=x1;rw[z1]at a1;injection a1 with a1 a0;subst a1 a0;have hnew:new=ini++ [y]:=by
   rw[z2]at a2;injection a2 with a2 _;injection a2 with _ a2;rw[aR4]at a2;exact(List.append_cancel_left a2).symm
  subst hnew;have ed:BJ s1=some {s1 with stack:=⟨f.kind,f.kids++ini⟩::fs}:=by
   unfold BJ;rw[z2];simp only[List.getLast?_concat,List.dropLast_concat]
  have x2:J toks 3 [] false s {s1 with stack:=⟨f.kind,f.kids++ini⟩::fs}:=by
   refine⟨f,fs,ini,z1,rfl,a3,a4, ?_, ?_,λt ht=>a7 t (aSa _ ht),λh=>by cases h⟩
   ·rw[iV]at a5;simp only;omega
   ·rw[uU,c,uI]at a6;simp only[c,uI];exact(List.append_eq_nil_iff.1 a6).1
  refine bI ed ?_;have r2:Rm toks (dB+8) (rB+10402) {s1 with stack:=⟨f.kind,f.kids++ini⟩::fs}:=x2.rm (rm.mono (aQj _) z8) z8;obtain⟨s3,e3,x3,m3⟩:=ML (p:=.nodeT 46 .bumpT) (self:=0) (dp:=1) (e:=true) (c:=false) (s:= {s1 with stack:=⟨f.kind,f.kids++ini⟩::fs}) hT hn IH rfl (λ_=>by simp only;omega) (λh=>by cases h) (by simp only;omega) (r2.mono z8 z8);refine⟨{s3 with flag:=false},by rw[show iZ toks {s1 with stack:=⟨f.kind,f.kids++ini⟩::fs}=some s3 from e3];rfl,((x2.trans x3).mono z7 (λx hx=>by simp[SY,AY]at hx) (λh=>by cases h):J toks 5 [] false s s3),by have:=m3 rfl;simp only at this⊢;omega⟩
 ·have ci:¬((s1.pos:Int)=(s.pos:Int)):=z8
  simp only[ci,decide_false,aQ9,if_false]
  by_cases c1:eC (aG toks s1.pos) [[125]]=true
  ·rw[if_pos c1];exact⟨_,rfl,(x1.mono z7 (λ_ h=>h) (λh=>by cases h):J toks 5 [] false s s1),by simp only;omega⟩
  ·rw[if_neg c1];have iv:∀e,(e=true->s1.pos<toks.length)->pG toks s.pos s1.pos 0 s s1 ⟨3,true,false,true,false,e,false,[]⟩:=λe he=>⟨x1,aQj _,z8,λq=>(by cases q),λ_=>z8,λq=>(by cases q),he,λq=>by cases q⟩
   by_cases c2:eC (aG toks s1.pos) [[61]]=true
   ·rw[if_pos c2];obtain⟨s2,e2,i2⟩:=snd hT hn IH (self:=14) hk (.wrap 23 aO8 (.setf false)) 2 _ _ s1.pos 0 s s1 rfl ⟨z7,λ_=>rfl⟩ (iv true λ_=>EF c2) (rm.mono z8 z8);exact⟨s2,e2,i2.j.mono z7 (λx hx=>by simpa using hx) (λh=>by cases h),by have:=i2.hi;omega⟩
   ·rw[if_neg c2];cases bb
    all_goals
     obtain⟨s2,e2,i2⟩:=snd hT hn IH (self:=14) hk (.wrap 26 (aO3 _) (.setf false)) 2 _ _ s1.pos 0 s s1 rfl ⟨z7,λ_=>rfl⟩ (iv false λh=>by cases h) (rm.mono z8 z8);exact⟨s2,e2,i2.j.mono z7 (λx hx=>by simpa using hx) (λh=>by cases h),by have:=i2.hi;omega⟩
theorem KY(hT:BF toks)(hn:toks.length<n)(IH:WE toks dB rB K R)(hp:s.pos<toks.length)(hk:32*(toks.length-s.pos)+14<=K)(rm:Rm toks (dB+8) (rB+10802) s):∃s',aBh toks n R s=some s'/\J toks 5 [] false s s'/\s.pos<s'.pos:=by
 have st:∀p:Pr,(∃b,gH 14 8 p ⟨0,false,false,false,false,true,false,[]⟩=some b/\b.S<=5/\b.al= []/\b.mi=true)->∃s',lT toks n R p s=some s'/\J toks 5 [] false s s'/\s.pos<s'.pos:=λp ⟨b,hc,h1,h2,h3⟩=>by
  obtain⟨s',e,x,m⟩:=ML hT hn IH hc (λ_=>hp) (λh=>by cases h) hk (rm.mono (aQj _) z8);exact⟨s',e,x.mono h1 (λx hx=>by rw[h2]at hx;exact hx) (λh=>by cases h),m h3⟩
 have hx:∀p:Pr,(∃b,gH 14 8 p ⟨0,false,false,false,false,true,false,[]⟩=some b/\b.S<=3/\b.al= []/\b.nd=true)->∃s',lT toks n R p s=some s'/\J toks 3 [] true s s':=λp ⟨b,hc,h1,h2,h3⟩=>by
  obtain⟨s',e,x,m⟩:=ML hT hn IH hc (λ_=>hp) (λh=>by cases h) hk (rm.mono (aQj _) z8);exact⟨s',e,x.mono h1 (λx hx=>by rw[h2]at hx;exact hx) (λ_=>h3)⟩
 unfold aBh
 split
 ·exact st (.node 22 (.callT .letS) (.setf false)) ⟨_,rfl,z7,rfl,rfl⟩
 split
 ·exact st (.node 24 aO7 (.setf false)) ⟨_,rfl,z7,rfl,rfl⟩
 split
 ·exact st (.node 25 (.callT .returnStmt) (.setf false)) ⟨_,rfl,z7,rfl,rfl⟩
 split
 ·exact YT hT hn IH _ _ hp hk rm (hx (.callT .primary) ⟨_,rfl,z7,rfl,rfl⟩)
 ·exact YT hT hn IH _ _ hp hk rm (hx (.callT .expr) ⟨_,rfl,z7,rfl,rfl⟩)
end
theorem JV(t:List UInt8):0<=bC t/\bC t<=9:=by
 have hi1:=SJ (p:=λx=>decide (t=x)) (xs:=oM);have hle:(oM.length:Int)=8:=rfl;unfold bC
 split<;>exact⟨z8,z8⟩
section
variable{toks:List Tk}{dB rB K n:Nat}{R:dK}{s s':PS}
theorem aNy(hT:BF toks)(hn:toks.length<n)(IH:WE toks dB rB K R){k:Int}(hp:(aG toks s.pos).kind≠100)(hk:32*(toks.length-s.pos)<=K)(rm:Rm toks dB (rB+402) s):∃s',m79 toks n R k s=some s'/\J toks (-215) (alF (.itemBody k)) false s s'/\s.pos<s'.pos/\∀f fs,s.stack=f::fs->∃new,s'.stack=⟨f.kind,f.kids++new⟩::fs/\tY new=true:=by
 have hl:=QZ hp;obtain⟨s1,e1,x1,y1,z1⟩:=oS hT (xs:= [[112,117,98]]) rm;have r1:=x1.rm0 rm (Int.le_refl _);obtain⟨s2,e2,x2,y2⟩:=mT hT r1;have r2:=x2.rm0 r1 (Int.le_refl _);have key:J toks (-239) [] false s s2/\s.pos<s2.pos/\∀f fs,s.stack=f::fs->∃new,s2.stack=⟨f.kind,f.kids++new⟩::fs/\tY new=true:=by
  by_cases c:eC (aG toks s.pos) [[112,117,98]]=true
  ·obtain⟨l1,j1⟩:=y1 c;refine⟨j1.trans x2,by have:=x2.pos;omega,λf fs hf=> ?_⟩;have e1':cI toks s=some s1:=by rw[<-e1];unfold cA;rw[if_pos c]
   obtain⟨n1,a1,a2⟩:=NI hT hp e1' hf;obtain⟨g,gs,n2,b1,b2,_⟩:=x2;rw[a1]at b1;injection b1 with b1 b0;subst b1 b0;exact⟨n1++n2,by rw[b2];simp,IL _ _ a2⟩
  ·have:=z1 c;subst this;obtain⟨l2,j2⟩:=y2 hl;exact⟨j2,l2,λf fs hf=>NI hT hp e2 hf⟩
 obtain⟨j,l,hh⟩:=key;have hp2:=x2.pos;obtain⟨s3,e3,x3,_⟩:=(IH (.itemBody k) s2 (λq=>by cases q) rfl (by simp only[nX,MP,xV,rmx,Bool.false_and,aQ9,if_false];omega)).2 rfl (r2.mono (aQj _) z8);refine⟨s3,by unfold m79;rw[e1];simp only[aQw,e2,e3],(j.trans x3).mono (by simp[SFb,xV,TH,SF]) (λx hx=>by simpa using hx) (λh=>by cases h),by have:=x3.pos;omega,λf fs hf=> ?_⟩;obtain⟨n1,a1,a2⟩:=hh f fs hf;obtain⟨g,gs,n2,b1,b2,_⟩:=x3;rw[a1]at b1;injection b1 with b1 b0;subst b1 b0;exact⟨n1++n2,by rw[b2];simp,IL _ _ a2⟩
theorem aKv(hT:BF toks)(hn:toks.length<n)(IH:WE toks dB rB K R)(hp:s.pos<toks.length)(hk:32*(toks.length-s.pos)+18<=K)(rm:Rm toks (dB+8) (rB+10802) s):∃s',m51 toks n R s=some s'/\J toks 1 [7] false s s'/\s.pos<s'.pos:=by
 have hA:∃s',((m77 toks n R s).bind λs1=>some s1)=some s'/\J toks 1 [7] false s s'/\s.pos<s'.pos:=by
  obtain⟨b,hb,h1,h2,h3⟩:∃b,gH 18 8 aO5 ⟨0,false,false,false,false,true,false,[]⟩=some b/\b.S<=1/\b.al= []/\b.mi=true:=⟨_,rfl,z7,rfl,rfl⟩;obtain⟨s',e,x,m⟩:=ML hT hn IH hb (λ_=>hp) (λh=>by cases h) hk (rm.mono (aQj _) z8);exact⟨s',by rw[show m77 toks n R s=some s' from e];rfl,x.mono h1 (λx hx=>by rw[h2]at hx;cases hx) (λh=>by cases h),m h3⟩
 have hB:∀t:List UInt8,(aG toks s.pos).kind≠100->∃s',((bY (bC t) (m79 toks n R (bC t)) s).bind λs1=>some s1)=some s'/\J toks 1 [7] false s s'/\s.pos<s'.pos:=λt hp=>by
  obtain⟨h0,h1⟩:=JV t;generalize bC t=k at*;have rk:=rm.kid (d':=dB) (r':=rB+402) k z8 z8;obtain⟨s2,e2,x2,l2,hh⟩:=aNy hT hn IH (k:=k) (s:=⟨s.pos,⟨k,[]⟩::s.stack,s.flag⟩) hp (by simp only;omega) rk;obtain⟨s3,e3,x3,p3⟩:=RX (r:=1) (d:=dB) (rm.mono z8 z8) e2 x2 z8 λnew hnew hm=>JH (λu hu=>⟨(hm u hu).1,λq=>by
   have:=(hm u hu).2 q;unfold alF at this;simp only at this
   split at this
   ·rename_i h39;rw[aRz]at this;rw[this];unfold MY;rcases h39 with rfl|rfl<;>simp
   ·cases this⟩) (λq=>z8) (λq=>by
    obtain⟨n2,a1,a2⟩:=hh _ _ rfl;rw[hnew]at a1;injection a1 with a1 _;injection a1 with _ a1;rw[a1];exact a2) z8
  refine⟨s3,by rw[e3];rfl,x3.mono z7 (λx hx=> ?_) (λh=>by cases h),by rw[p3];exact l2⟩;unfold SY at hx
  split at hx
  ·rename_i q;simp only[AY,aRv,decide_eq_true_eq]at q;rw[aRz]at hx;simp;omega
  ·cases hx
 unfold m51
 split
 ·rename_i c;obtain⟨z,ez,_⟩:=DQ hT rm;rw[ez];simp only[aQw];have hp:(aG toks s.pos).kind≠100:=by
   unfold eC at c;simp only[aQd,aRv,decide_eq_true_eq]at c;omega
  split
  ·exact hA
  ·exact hB _ hp
 ·split
  ·exact hA
  ·rename_i c;have hp:(aG toks s.pos).kind≠100:=by
    simp only[aRv,aQe,decide_eq_true_eq,decide_eq_false_iff_not]at c;have:(aG toks s.pos).kind=104:=Classical.byContradiction λq=>c (.inr q);omega
   exact hB _ hp
theorem aLw(hT:BF toks)(hn:toks.length<n)(IH:WE toks dB rB K R):WE toks (dB+8) (rB+10802) (K+1) (SI toks n R):=by
 intro fn s hp hb hk;have hk':nX toks fn s<=K:=z8
 cases fn with
 |block=>
  refine⟨λh=>(by cases h),λ_ rm=> ?_⟩
  by_cases c:EX toks s=true
  ·obtain⟨s',e,x,m⟩:=KL (e:=true) (c:=true) hT hn IH QP.2 (λ_=>EF c) (λ_=>c) (by simpa[nX,c]using hk') rm;exact⟨s',e,by rw[c];exact x,λh=>by cases h⟩
  ·have c':EX toks s=false:=by simpa using c
   obtain⟨s',e,x,m⟩:=KL (e:=false) (c:=false) hT hn IH QP.1 (λh=>by cases h) (λh=>by cases h) (by simpa[nX,c']using hk') rm;exact⟨s',e,by rw[c'];exact x,λh=>by cases h⟩
 |statement=>exact⟨λh=>(by cases h),λ_ rm=>by
   obtain⟨s',e,x,m⟩:=KY hT hn IH (hp rfl) (by simpa[nX,MP,xV,rmx]using hk') rm;exact⟨s',e,x,λ_ _=>m⟩⟩
 |item=>exact⟨λh=>(by cases h),λ_ rm=>by
   obtain⟨s',e,x,m⟩:=aKv hT hn IH (hp rfl) (by simpa[nX,MP,xV,rmx]using hk') rm;exact⟨s',e,x,λ_ _=>m⟩⟩
 |arguments=>
  refine⟨λh=>(by cases h),λ_ rm=> ?_⟩
  by_cases c:s.pos<toks.length
  ·obtain⟨s',e,x,m⟩:=KL (e:=true) (c:=false) hT hn IH zM.2 (λ_=>c) (λh=>by cases h) (by simpa[nX,MP,xV]using hk') rm;exact⟨s',e,by simpa[SFb,xV,TH,c]using x,λ_ _=>m rfl rfl⟩
  ·obtain⟨s',e,x,m⟩:=KL (e:=false) (c:=false) hT hn IH zM.1 (λh=>by cases h) (λh=>by cases h) (by simpa[nX,MP,xV]using hk') rm;exact⟨s',e,by simpa[SFb,xV,TH,c,SF]using x,λ_ h=>absurd h c⟩
 |postfx=>
  refine⟨λ_ S s0 hS x rm=> ?_,λh=>by cases h⟩;obtain⟨b,hc,h1,h2,h3⟩:∃b,gH 1 8 (prog .postfx) ⟨0,true,false,false,false,false,false,[]⟩=some b/\b.S<=0/\b.al= []/\b.nd=true:=⟨_,rfl,z7,rfl,rfl⟩;obtain⟨s',e,i⟩:=snd hT hn IH (pF:=s.pos) (self:=1) (by simpa[nX,MP,xV,rmx]using hk') (prog .postfx) 8 _ _ s.pos S s0 s hc ⟨hS,λh=>z8⟩ ⟨x.mono z6 (λ_ h=>h) (λh=>h),aQj _,aQj _,λq=>(by cases q),λq=>(by cases q),λq=>(by cases q),λq=>(by cases q),λq=>by cases q⟩ (rm.mono (aQj _) z8);exact⟨s',e,i.j.mono z8 (λx hx=>by rw[h2]at hx;exact hx) (λ_=>h3),i.hi⟩
 |letS=>exact nG hT hn IH aLc rfl rfl rfl rfl rfl hp hk'
 |returnStmt=>exact nG hT hn IH JJ rfl rfl rfl rfl rfl hp hk'
 |expr=>exact nG hT hn IH aHo rfl rfl rfl rfl rfl hp hk'
 |binary l=>exact nG hT hn IH (aB0 l (of_decide_eq_true hb)) rfl rfl rfl (VW toks n R l (of_decide_eq_true hb)) rfl hp hk'
 |unary=>exact nG hT hn IH aDb rfl rfl rfl rfl rfl hp hk'
 |primary=>exact nG hT hn IH TE rfl rfl rfl rfl rfl hp hk'
 |ifExpr=>exact nG hT hn IH XX rfl rfl rfl rfl rfl hp hk'
 |matchE=>exact nG hT hn IH aA5 rfl rfl rfl rfl rfl hp hk'
 |structLit=>exact nG hT hn IH KZ rfl rfl rfl rfl rfl hp hk'
 |lambda=>exact nG hT hn IH YA rfl rfl rfl rfl rfl hp hk'
 |pattern=>exact nG hT hn IH WC rfl rfl rfl rfl rfl hp hk'
 |path b=>exact nG hT hn IH (aI2 b) rfl rfl rfl rfl rfl hp hk'
 |typeExpr=>exact nG hT hn IH OX rfl rfl rfl rfl rfl hp hk'
 |typeParams=>exact nG hT hn IH JG rfl rfl rfl rfl rfl hp hk'
 |params c=>exact nG hT hn IH (aBg c) rfl rfl rfl rfl rfl hp hk'
 |function b=>exact nG hT hn IH (QA b) rfl rfl rfl rfl rfl hp hk'
 |itemBody k=>exact nG hT hn IH (PJ k) rfl rfl rfl (funext λs=>MK toks n R k s) rfl hp hk'
theorem aEr(hT:BF toks)(hn:toks.length<n):∀k,WE toks (8*k) (10802*k) k (TK toks n k)
 |0=>λfn s hp hb hk=>z8
 |k+1=>by
  have:=aLw hT hn (aEr hT hn k);rw[Nat.mul_succ,Nat.mul_succ];exact this
theorem GL{c:PS->Bool}{b:PS->Option PS}:∀(n:Nat) (s:PS) {s':PS},dJ c b n s=some s'->c s'=false
 |0,s,s',h=>by cases h
 |n+1,s,s',h=>by
  unfold dJ at h
  split at h
  ·obtain⟨s1,h1,h2⟩:=oB h;exact GL n s1 h2
  ·rename_i q;injection h with h;subst h;simpa using q
theorem aEd{tk:List Tk}{k n:Nat}(hT:BF tk)(hn:tk.length<n)(hk:32*tk.length+18<k)(hl:10802*k+300*tk.length+402<fE):∃ch,vT tk k n=some ⟨1,[],ch⟩/\vB ch=tk/\AQ ⟨1,[],ch⟩=true/\bV ch<=1+300*tk.length:=by
 have r0:Rm tk (8*k) (10802*k+400) ⟨0,[⟨1,[]⟩],false⟩:=⟨⟨1,[]⟩,[],rfl,aRk _,by simp only[aR1];omega,by simp only[aQ0,aR1];omega⟩;obtain⟨s1,e1,x1⟩:=JD (S:=1) (al:= [7]) (nd:=false) (c:=λs1=> !JC tk s1) (b:=λs1=>(TK tk n k .item s1).bind λs2=>some s2) hn z7 r0 λt _ rt ct=>by
  have hlt:=IG (by simpa using ct);obtain⟨t1,e1,y1,p⟩:=(aEr hT hn k .item t (λ_=>hlt) rfl (by simp only[nX,MP,xV,rmx,Bool.false_and,aQ9,if_false];omega)).2 rfl rt;exact⟨t1,by rw[e1];rfl,y1,p rfl hlt⟩
 have c1:=GL n _ e1;have r1:Rm tk (8*k) 0 s1:=x1.rm (r0.mono (aQj _) z8) z7;obtain⟨s2,e2,x2⟩:=IY hT (tk.length-s1.pos) (aQj _) r1;obtain⟨f,fs,new,a1,a2,a3,a4,a5,a6,a7,a8⟩:=x1.trans x2.j.1;injection a1 with a1 a0;subst a1 a0;obtain⟨g,gs,b1,_⟩:=r1;obtain⟨_,_,_,hpk,hend⟩:=CJ _ e2 b1;have hend:s2.pos=tk.length:=by
  rcases aQi s2.pos tk.length with h|h
  ·exfalso;have heof:(aG tk s1.pos).kind=100:=by simpa using c1
   rw[hpk,yE h (hend (aQj _) h)]at heof;have:=(hT _ (aRh h)).2;omega
  ·omega
 refine⟨new, ?_, ?_,JH (λt ht=>⟨(a7 t ht).1,λq=>(a7 t ht).2 q⟩) (λh=>by cases h) (λh=>by cases h) z7, ?_⟩
 ·unfold vT;rw[e1];simp only[aQw];unfold AA;rw[e2];simp only[aQw];unfold aEp;rw[a2];simp
 ·rw[a6,hend];simp only[WL,aSb,Nat.sub_zero,aR7];exact List.filter_eq_self.2 λt ht=>by simp[neT,(hT t ht).1]
 ·rw[hend]at a5;simp only at a5;split at a5<;>omega
end
open Go.Proofs
def Lt(l:List Tk):Nat:=(l.map λt=>t.text.length).sum
theorem YG(a b:List Tk):Lt (a++b)=Lt a+Lt b:=by simp[Lt]
def Tw(a b:Nat)(n:Nd):Prop:=(n.en<0/\n.st=(a:Int))\/((a:Int)<=n.st/\n.st<=n.en/\n.en<=(b:Int))
theorem Tw.eq{a b:Nat}{n m:Nd}(h:Tw a b n)(h1:m.st=n.st)(h2:m.en=n.en):Tw a b m:=by unfold Tw at*;rw[h1,h2];exact h
theorem Tw.mono{a b c:Nat}{n:Nd}(h:Tw a b n)(hb:b<=c):Tw a c n:=by unfold Tw at*;omega
theorem Tw.ext{a b c:Nat}{n m:Nd}{x y:Int}(h:Tw a b n)(h1:m.st=n.st)(h2:m.en=n.en)(hab:a<=b)(hx:(b:Int)<=x)(hy:x<=y)(hc:y<=(c:Int)):Tw a c (eB m x y):=by
 unfold Tw at*;rw[<-h1,<-h2]at h;show(y<0/\(if m.en<0 then x else m.st)=(a:Int))\/((a:Int)<=(if m.en<0 then x else m.st)/\(if m.en<0 then x else m.st)<=y/\y<=(c:Int))
 split<;>omega
theorem EA(n:Nd)(t:List UInt8):(dX n t).st=n.st/\(dX n t).en=n.en/\(dX n t).kind=n.kind:=by
 unfold dX
 repeat' split
 all_goals exact⟨rfl,rfl,rfl⟩
theorem AD(n:Nd)(t:List UInt8)(o:Int):(dE n t o).st=n.st/\(dE n t o).en=n.en/\(dE n t o).kind=n.kind:=by
 unfold dE
 repeat' split
 all_goals exact⟨rfl,rfl,rfl⟩
theorem CC:∀(k:Nat) (l:List UInt8) (p:Int),l.length<=k->(lW l p).2.length<=l.length/\∀d∈(lW l p).2,LK d
 |_,[],p,_=>by rw[lW];exact⟨z6,λd h=>by cases h⟩
 |_,[_],p,_=>by rw[lW];exact⟨z6,λd h=>by cases h⟩
 |0,_::_::_,p,h=>by simp at h
 |k+1,c::d::r,p,h=>by
  simp only[aQ0]at h;rw[lW]
  split
  ·obtain⟨h1,h2⟩:=CC k r (p+2) z8;refine⟨?_,λe he=> ?_⟩
   ·simp only[aRf,aQ0];split<;>simp<;>omega
   ·rcases aRp.1 he with he|he
    ·split at he
     ·cases he
     ·rw[aRz]at he;subst he;exact⟨rfl,rfl⟩
    ·exact h2 e he
  ·obtain⟨h1,h2⟩:=CC k (d::r) (p+1) (by simp;omega);exact⟨by simp only[aQ0]at*;omega,h2⟩
theorem WH(t:List UInt8)(p:Int):(yC t p).2.length<=t.length/\∀d∈(yC t p).2,LK d:=by
 obtain⟨h1,h2⟩:=CC _ (t.drop 1) (p+1) (aQj _);exact⟨by unfold yC;rw[aQ5]at h1;omega,h2⟩
theorem aDk(c a b:Int):LK (rD c a b):=⟨rfl,rfl⟩
theorem KU{ds:List Dg}(h:∀d∈ds,LK d)(c a b:Int):∀d∈ds++ [rD c a b],LK d:=λd hd=>by
 rcases aRp.1 hd with hd|hd
 ·exact h d hd
 ·rw[aRz]at hd;subst hd;exact aDk c a b
theorem aM6{t:St}{off a:Nat}{n:Nd}{ds:List Dg}(h:Tw a off n)(ha:a<=off)(hX:∀d∈ds,LK d):Tw a (off+t.text.length) (gJ t off n ds).1/\(gJ t off n ds).1.kind=n.kind/\(gJ t off n ds).2.length<=ds.length+t.text.length+1/\∀d∈(gJ t off n ds).2,LK d:=by
 have h0:Tw a (off+t.text.length) n:=h.mono z8;have hE:∀ {m:Nd},m.st=n.st->m.en=n.en->Tw a (off+t.text.length) (eB m (off:Nat) (((off:Nat):Int)+t.text.length)):=λe1 e2=>h.ext e1 e2 ha z8 z8 z8;obtain⟨i1,i2,i3⟩:=AD n t.text (off:Nat);obtain⟨f1,f2,f3⟩:=EA n t.text;obtain⟨u1,u2⟩:=WH t.text (off:Nat);have ub:∀d∈ds++(yC t.text (off:Nat)).2,LK d:=λd hd=>by
  rcases aRp.1 hd with hd|hd
  ·exact hX d hd
  ·exact u2 d hd
 have sn:=λc a b=>KU hX c a b;unfold gJ;dsimp only
 split
 ·exact⟨h0,rfl,by dsimp only;omega,hX⟩
 split
 ·exact⟨h0,rfl,by dsimp only;omega,hX⟩
 split
 ·split
  ·exact⟨h0,rfl,z6,sn _ _ _⟩
  ·exact⟨hE rfl rfl,rfl,z6,sn _ _ _⟩
 split
 ·refine⟨hE i1 i2,i3, ?_, ?_⟩
  ·dsimp only
   split
   ·simp
   ·omega
  ·dsimp only
   split
   ·exact sn _ _ _
   ·exact hX
 split
 ·split
  ·exact⟨hE rfl rfl,rfl,by dsimp only;omega,hX⟩
  ·exact⟨hE rfl rfl,rfl,z6,sn _ _ _⟩
 split
 ·exact⟨hE rfl rfl,rfl,by simp only[aRf];omega,ub⟩
 ·exact⟨hE f1 f2,f3,by dsimp only;omega,hX⟩
def NT(src:List UInt8)(t:St):Prop:=(∀x∈zP t,100<x.kind)->AQ t=true->t.kind<100->∀(off:Nat) (ds:List Dg),off+Lt (zP t)<=src.length->ds.length+Lt (zP t)+t.size<fE->src.length<fE->(∀d∈ds,LK d)->
 ∃off' m ds',tC src t off ds=some (off',m,ds')/\off<=off'/\off'<=off+Lt (zP t)/\(off:Int)<=m.st/\m.st<=m.en/\m.en<=(off':Int)/\ds'.length<=ds.length+Lt (zP t)+t.size/\∀d∈ds',LK d
theorem aHz(c:St):c.text.length<=Lt (zP c):=by
 obtain⟨k,t,ch⟩:=c;show t.length<=_;rw[zP]
 split
 ·rename_i h;rw[h];simp
 ·simp[Lt]
theorem PX{src:List UInt8}:∀(ch:List St) (ih:∀c∈ch,NT src c) (hk:∀x∈vB ch,100<x.kind) (hok:∀c∈ch,AQ c=true) (a off:Nat) (n:Nd) (ds:List Dg),a<=off->Tw a off n->off+Lt (vB ch)<=src.length->ds.length+Lt (vB ch)+bV ch<fE->n.kids.length+bV ch<fE->src.length<fE->(∀d∈ds,LK d)->
  ∃off' m ds',lH src ch off n ds=some (off',m,ds')/\off<=off'/\off'<=off+Lt (vB ch)/\Tw a off' m/\m.kind=n.kind/\n.kids.length<=m.kids.length/\((∃c∈ch,c.kind<100)->0<m.kids.length)/\ds'.length<=ds.length+Lt (vB ch)+bV ch/\∀d∈ds',LK d
 | [],ih,hk,hok,a,off,n,ds,ha,ht,ho,hd,hn,hs,hX=>⟨off,n,ds,by rw[lH],aQj _,z8,ht,rfl,aQj _,(λh=>by obtain⟨c,hc,_⟩:=h;cases hc),z8,hX⟩
 |c::cs,ih,hk,hok,a,off,n,ds,ha,ht,ho,hd,hn,hs,hX=>by
  have hL:vB (c::cs)=zP c++vB cs:=by rw[vB]
  have hZ:bV (c::cs)=c.size+bV cs:=rfl;rw[hL,YG]at ho hd;rw[hL]at hk;rw[hZ]at hd hn;rw[hL,YG,hZ];have hc1:1<=c.size:=by cases c;simp only[St.size];omega
  have hcl:=aHz c;have ih':∀d∈cs,NT src d:=λd hd=>ih d (aSd _ hd);have hk':∀x∈vB cs,100<x.kind:=λx hx=>hk x (aR9 _ hx);have hok':∀d∈cs,AQ d=true:=λd hd=>hok d (aSd _ hd);rw[sK]
  split
  ·rename_i q;have q:=of_decide_eq_true q;obtain⟨t1,t2,t3,t4⟩:=aM6 (t:=c) ht ha hX;rw[if_pos ⟨z8,z8⟩];obtain⟨o',m,ds',e1,e2,e3,e4,e5,e6,e7,e8,e9⟩:=PX cs ih' hk' hok' a (off+c.text.length) _ _ z8 t1 z8 z8 (by rw[uX];omega) hs t4;rw[uX]at e6;exact⟨o',m,ds',e1,z8,z8,e4,by rw[e5,t2],e6,λ⟨d,hd,hd2⟩=>by
    rcases aRs.1 hd with rfl|hd
    ·omega
    ·exact e7 ⟨d,hd,hd2⟩,z8,e9⟩
  ·rename_i q;have q:c.kind<100:=by have:=of_decide_eq_false (by simpa using q:decide (c.kind>=100)=false);omega
   obtain⟨o1,m1,d1,f1,f2,f3,f4,f5,f6,f7,f8⟩:=ih c (List.mem_cons_self ..) (λx hx=>hk x (aSa _ hx)) (hok c (List.mem_cons_self ..)) q off ds z8 z8 hs hX;rw[f1];dsimp only[aQw];rw[if_pos z8];have t1:Tw a o1 (lJ (eB n m1.st m1.en) m1):=(ht.ext (m:=n) (c:=o1) rfl rfl ha f4 f5 f6).eq rfl rfl;have hkl:(lJ (eB n m1.st m1.en) m1).kids.length=n.kids.length+1:=by simp[lJ,eB,Nd.kids]
   obtain⟨o',m,ds',e1,e2,e3,e4,e5,e6,e7,e8,e9⟩:=PX cs ih' hk' hok' a o1 _ d1 z8 t1 z8 z8 (by rw[hkl];omega) hs f8;rw[hkl]at e6;exact⟨o',m,ds',e1,z8,z8,e4,by rw[e5];rfl,z8,λ_=>z8,z8,e9⟩
theorem aF6{src:List UInt8}{t:St}(ih:∀c∈t.ch,NT src c):NT src t:=by
 intro hk hok hlt off ds ho hd hs hX;obtain⟨k,tx,ch⟩:=t;have htx:tx= []:=Classical.byContradiction λh=>by
  have:=hk ⟨k,tx⟩ (by rw[zP,if_neg h];simp);have h2:k<100:=hlt;simp only at this;omega
 subst htx;have hlv:zP ⟨k,[],ch⟩=vB ch:=by rw[zP,if_pos rfl]
 rw[hlv]at hk ho hd⊢;have hsz:(St.mk k [] ch).size=1+bV ch:=by simp only[St.size]
 rw[hsz]at hd⊢;simp only[AQ,okN,BE,aQd,aRo]at hok;obtain⟨⟨⟨⟨_,h60⟩,_⟩,_⟩,hall⟩:=hok;have hlen:∀l:List St,l.length<=bV l:=λl=>by
  induction l with
  |nil=>exact aRk _
  |cons x xs ihx=>
   have:1<=x.size:=by cases x;simp only[St.size];omega
   simp only[bV,aQ0];omega
 have hl:=hlen ch;rw[wE];show ∃off' m ds',(if ch.length<fE then _ else none)=_/\_;rw[if_pos z8];obtain⟨o',m,ds',e1,e2,e3,e4,e5,e6,e7,e8,e9⟩:=PX ch ih hk hall off off ⟨k,0,[],off, -1, -1,[]⟩ ds (aQj _) (.inl ⟨by show(-1:Int)<0;decide,rfl⟩) ho z8 (by show 0+bV ch<fE;omega) hs hX;have e1':lH src (St.mk k [] ch).ch off ⟨(St.mk k [] ch).kind,0,[],off, -1, -1,[]⟩ ds=some (o',m,ds'):=e1;rw[e1'];dsimp only[aQw];obtain⟨mk,mv,mt,ms,me,mn,mks⟩:=m;have e5:mk=k:=e5;have e4:(me<0/\ms=(off:Int))\/((off:Int)<=ms/\ms<=me/\me<=(o':Int)):=e4;have b1:(off:Int)<=ms/\ms<=max me ms/\max me ms<=(o':Int):=z8
 obtain⟨b1,b2,b3⟩:=b1;unfold AV;show ∃off' m ds'',((if decide (mk=60)=true then(match mks with|c::_=>some (fJ c ms (max me ms),ds')| []=>none)else if decide (mk=46)=true then(if 0<=ms/\ms<=max me ms/\max me ms<=src.length/\ds'.length<fE then _ else none)else _).bind _)=_/\_
 split
 ·rename_i q;have q:=of_decide_eq_true q;have hex:∃c∈ch,c.kind<100:=by
   rw[<-e5,q]at h60;simp only[decide_true,aRq,Bool.false_or,List.any_eq_true]at h60;obtain⟨c,c1,c2⟩:=h60;exact⟨c,c1,of_decide_eq_true c2⟩
  have:=e7 hex
  match mks,this with
  |c::r,_=>exact⟨o',_,ds',rfl,e2,e3,b1,b2,b3,z8,e9⟩
 ·split
  ·rw[if_pos ⟨z8,z8,z8,z8⟩];exact⟨o',_,_,rfl,e2,e3,b1,b2,b3,by simp;omega,KU e9 _ _ _⟩
  ·exact⟨o',_,ds',rfl,e2,e3,b1,b2,b3,z8,e9⟩
theorem RM(src:List UInt8):∀(k:Nat) (t:St),SizeOf.sizeOf t<k->NT src t
 |0,t,h=>z8
 |k+1,t,h=>aF6 λc hc=>RM src k c (by
  cases t with
  |mk kk tx ch=>
   have:=List.sizeOf_lt_of_mem (show c∈ch from hc);simp at h;omega)
theorem NR(src:List UInt8)(t:St):NT src t:=RM src _ t (aR3 _)
theorem AF{s:List UInt8}(h:s≠ []):100<(dL s).2:=by
 cases s with
 |nil=>exact absurd rfl h
 |cons c r=>
  unfold dL;simp only
  repeat' split
  all_goals simp
theorem xN:∀(k:Nat) (s:List UInt8),s.length<=k->BF (toks s)/\Lt (toks s)=s.length/\(toks s).length<=s.length/\(toks s).flatMap Tk.text=s
 |0,s,h=>by
  have:s= []:=List.length_eq_zero_iff.1 z8;subst this;rw[uH];exact⟨(λt h=>by cases h),rfl,aQj _,rfl⟩
 |k+1,s,h=>by
  by_cases hs:s= []
  ·subst hs;rw[uH];exact⟨(λt h=>by cases h),rfl,aQj _,rfl⟩
  ·have hb:=oJ hs;have hk:=AF hs;obtain⟨h1,h2,h3,h4⟩:=xN k (s.drop (dL s).1) (by rw[aQ5];omega);rw[aQ5]at h2 h3;rw[zE hs];refine⟨λt ht=> ?_, ?_,by rw[aQ0];omega, ?_⟩
   ·rcases aRs.1 ht with rfl|ht
    ·refine⟨λe=> ?_,hk⟩;have:(s.take (dL s).1).length=0:=by rw[show s.take (dL s).1= []from e];rfl
     rw[aQ6]at this;omega
    ·exact h1 t ht
   ·show(s.take (dL s).1).length+Lt (toks (s.drop (dL s).1))=_;rw[h2,aQ6];omega
   ·rw[List.flatMap_cons,h4];exact List.take_append_drop _ _
def kP:Nat:=64100
def nP:Nat:=2001
def DD(s:List UInt8):St:=(vT (toks s) kP nP).getD ⟨1,[],[]⟩
def UO(s:List UInt8):Nat×Nd×List Dg:=(tC s (DD s) 0 []).getD (0,⟨0,0,[],0,0,0,[]⟩,[])
def fK(s:List UInt8):Nd:=fJ (UO s).2.1 0 (s.length:Int)
theorem RK{s:List UInt8}(h:s.length<=2000):∃ch,vT (toks s) kP nP=some ⟨1,[],ch⟩/\DD s=⟨1,[],ch⟩/\vB ch=toks s/\AQ ⟨1,[],ch⟩=true/\bV ch<=1+300*s.length:=by
 obtain⟨h1,h2,h3,h4⟩:=xN _ s (aQj _);obtain⟨ch,e1,e2,e3,e4⟩:=aEd (k:=kP) (n:=nP) h1 (by unfold nP;omega) (by unfold kP;omega) (by unfold kP fE;omega);exact⟨ch,e1,by unfold DD;rw[e1];rfl,e2,e3,z8⟩
theorem aIr{s:List UInt8}(h:s.length<=2000):tC s (DD s) 0 []=some (UO s)/\(UO s).2.2.length<=603000/\∀d∈(UO s).2.2,LK d:=by
 obtain⟨h1,h2,h3,h4⟩:=xN _ s (aQj _);obtain⟨ch,e1,e2,e3,e4,e5⟩:=RK h;have hlv:zP (DD s)=toks s:=by rw[e2,zP,if_pos rfl,e3]
 have hsz:(DD s).size=1+bV ch:=by rw[e2];simp only[St.size]
 obtain⟨o,m,ds,f1,f2,f3,f4,f5,f6,f7,f8⟩:=NR s (DD s) (by rw[hlv];exact λx hx=>(h1 x hx).2) (by rw[e2];exact e4) (by rw[e2];show(1:Int)<100;decide) 0 [] (by rw[hlv,h2];omega) (by rw[hlv,h2,hsz];simp only[aR1,fE];omega) (by simp only[fE];omega) (λd hd=>by cases hd);have:UO s=(o,m,ds):=by unfold UO;rw[f1];rfl
 rw[this];rw[hlv,h2,hsz]at f7;simp only[aR1]at f7;exact⟨f1,by show ds.length<=_;omega,f8⟩
theorem aE9{s:List UInt8}{e3 e4:Value}{H0:aC}(h:s.length<=2000)(hG:vE G0 H0)(hE:oD e3 e4 H0):aL Tryz.prog 27 [.str s] H0 λr H'=>∃ds:List Dg,ds.length<=603000/\r= .tup [(fK s).enc, .slice (ds.map Dg.enc) .none,aA 0]/\Fr [] [] H0 H':=by
 obtain⟨h1,h2,h3,h4⟩:=xN _ s (aQj _);obtain⟨ch,e1,e2,e3',e4',e5⟩:=RK h;obtain⟨g1,g2,g3⟩:=aIr h;rw[e2]at g1;have hmx:maxLen=9223372036854775807:=z7
 refine(PT s kP nP z8 z8 (by simp only[fE];omega) hG hE e1 (off':=(UO s).1) (nd:=(UO s).2.1) (ds:=(UO s).2.2) g1 g3 (by simp only[fE];omega)).mono λr H' ⟨ds',p1,p2,p3,p4⟩=>⟨pQ ds',by have:=LD ds';have:=p1.length_eq;omega,p3,p4⟩
set_option maxRecDepth 4000
def cY(ms:List Md):List Nd:=ms.map λm=>fK m.src
theorem GB{ms:List Md}{j:Nat}(hi:j<ms.length):cY (ms.take (j+1))=cY (ms.take j)++ [fK ms[j].src]:=by
 unfold cY;rw[List.take_succ_eq_append_getElem hi,aRt];rfl
def dgM(i:Int)(d:Dg):Dg:=⟨d.code,i,d.st,d.en,d.name⟩
theorem ED{H0:aC}{e3 e4:Value}(hG:vE G0 H0)(hE:oD e3 e4 H0)(ms:List Md)(h8:ms.length<=8)(hnm:∀m∈ms,m.name.length<=maxLen)(h2k:∀m∈ms,m.src.length<=2000)(hv:fC ms=0):aL Tryz.prog 38 [.slice (ms.map Md.enc) .none] H0 λr H'=>∃ds:List Dg,r= .tup [.slice ((cY ms).map Nd.enc) .none, .slice (ds.map Dg.enc) .none,aA 0]/\Fr [] [] H0 H':=by
 have hml:ms.length<=maxLen:=aQk h8 z7;have gv:decide (fC ms=0)=true:=decide_eq_true hv;refine aF (N:=54) Tryz.func38 rfl rfl z6 λhb'=> ?_;refine wQ ?_;refine eE (by simp only[kA,seval,aA,bM,bN,qM,qG,gv,hv,aRq,aSe]<;>with_reducible rfl) z7 ?_;refine wQ ?_;refine wR ?_;refine eT 1 (by simp only[kA,seval,aA,bM,bN,qM,qG,gv,hv,aRq,aSe]<;>with_reducible rfl) z7 ?_;refine oP (by simp only[kC,seval,aA,bM,bN,qM,qG,gv,hv,aRq,aSe]<;>with_reducible rfl) (by simp only[kC,seval,aA,bM,bN,qM,qG,gv,hv,aRq,aSe]) z7 aF1 (DK hG ms hml hnm) ?_;refine iX (by simp only[kA,seval,aA,bM,bN,qM,qG,gv,hv,aRq,aSe]<;>with_reducible rfl) z7 ?_;refine wQ ?_;refine eE (by simp only[kA,seval,KC,aA,bM,bN,qM,qG,gv,hv,aRq,aSe]<;>with_reducible rfl) z7 ?_;refine wQ ?_;refine wF rfl (by simp only[jN,seval,aA,bM,bN,qM,qG,gv,hv,aRq,aSe]<;>with_reducible rfl) ?_;refine qK ?_;refine wQ ?_;refine eE (by simp only[kA,seval,aA,bM,bN,qM,qG,gv,hv,aRq,aSe]<;>with_reducible rfl) z7 ?_;refine wQ ?_;refine eE (by simp only[kA,seval,aA,bM,bN,qM,qG,gv,hv,aRq,aSe]<;>with_reducible rfl) z7 ?_;refine wQ ?_;refine eE (by simp only[kA,seval,zK,sT,aA,bM,bN,qM,qG,gv,hv,aRq,aSe]<;>with_reducible rfl) z7 ?_;refine qB ?_;refine cL (σ:=Nat×PV×List Nat×PV×List Nat×List Dg) (λ(z:Nat×PV×List Nat×PV×List Nat×List Dg)=> [(20, .slice (ms.map Md.enc) .none),(21,aA (ms.length:Int)),(22,aA (z.1:Int)),(6,z.2.1),(7,z.2.2.2.1)]) (λ(z:Nat×PV×List Nat×PV×List Nat×List Dg)=>λH1=>z.1<=ms.length/\fS Nd.enc 7 H1 z.2.1 (cY (ms.take z.1)) z.2.2.1/\fS Dg.enc 5 H1 z.2.2.2.1 z.2.2.2.2.2 z.2.2.2.2.1/\z.2.2.2.2.2.length<=z.1*603000/\(∀x∈z.2.2.1,H0.length<=x)/\(∀x∈z.2.2.2.2.1,H0.length<=x/\x∉z.2.2.1)/\Fr [] [] H0 H1) (λ(z:Nat×PV×List Nat×PV×List Nat×List Dg)=>ms.length-z.1) ((0, .slice [] .full,[], .slice [] .full,[],[])) ⟨(by first|rfl| (simp only[jN,seval,aA,bM,bN,qM,qG,gv,hv,aRq,aSe]<;>first|done|with_reducible rfl)),(by first|rfl| (simp only[jN,seval,aA,bM,bN,qM,qG,gv,hv,aRq,aSe]<;>first|done|with_reducible rfl)),(by first|rfl| (simp only[jN,seval,aA,bM,bN,qM,qG,gv,hv,aRq,aSe]<;>first|done|with_reducible rfl)),(by first|rfl| (simp only[jN,seval,aA,bM,bN,qM,qG,gv,hv,aRq,aSe]<;>first|done|with_reducible rfl)),(by first|rfl| (simp only[jN,seval,aA,bM,bN,qM,qG,gv,hv,aRq,aSe]<;>first|done|with_reducible rfl)),trivial⟩ (⟨aRk _, .nil, .nil,z6,(λx hx=>by cases hx),(λx hx=>by cases hx),Fr.refl _ _⟩) ?_;intro z H1 hg;obtain⟨j,tv,cid,dv,did,ds⟩:=z;obtain⟨hj,hk1,hq1,hdl,hd1,he1,f1⟩:=hg;simp only at hj hk1 hq1 hdl hd1 he1 f1;have hG1:vE G0 H1:=λq o hq=>(f1.get (hG q o hq) z6).1;have hE1:oD e3 e4 H1:=hE.fr f1 z6 z6;rcases aQi j ms.length with hi|hi
 ·
  have gi:=bA hi;have ge:=bS Md.enc hi;have gl:decide ((j:Int)<(ms.length:Int))=true:=decide_eq_true z8;have gwj:IntKind.i64.wrap ((j:Int)+1)=((j+1:Nat):Int):=by rw[aZ z8 z8];omega
  have hsrc:=h2k ms[j] (aRh hi);have hmx:maxLen=9223372036854775807:=z7
  refine wQ ?_;refine eE (by simp only[kA,seval,y3,aA,bM,bN,qM,qG,gv,hv,aRq,aSe,gi,ge,gl,gwj,tN]<;>with_reducible rfl) z7 ?_;refine wQ ?_;refine bP rfl (by simp only[jN,seval,aA,bM,bN,qM,qG,gv,hv,aRq,aSe,gi,ge,gl,gwj,tN]<;>with_reducible rfl) ?_;refine qK ?_;refine qB ?_;refine wQ ?_;refine eE (by simp only[kA,seval,zK,sT,aA,bM,bN,qM,qG,gv,hv,aRq,aSe,gi,ge,gl,gwj,tN]<;>with_reducible rfl) z7 ?_;refine wQ ?_;refine wR ?_;refine eT 2 (by simp only[kA,seval,y9,sT,aA,bM,bN,qM,qG,gv,hv,aRq,aSe,gi,ge,gl,gwj,tN]<;>with_reducible rfl) z7 ?_;refine oC (by simp only[kC,seval,aA,bM,bN,qM,qG,gv,hv,aRq,aSe,gi,ge,gl,gwj,tN]<;>with_reducible rfl) (by simp only[kC,seval,aA,bM,bN,qM,qG,gv,hv,aRq,aSe,gi,ge,gl,gwj,tN]) z7 aE2 (aE9 hsrc (hG1.app _) (hE1.app _)) ?_;rintro _ H2 ⟨ds0,h0l,rfl,g2⟩;have hl2:=g2.len;simp only[aRf,aQ0,aR1]at hl2;have hkp:∀x,x<H1.length->H2[x]? =H1[x]? :=λx hx=>by rw[g2.same x (by simp;omega) z6,aQt hx]
  have hk2:fS Nd.enc 7 H2 tv (cY (ms.take j)) cid:=hk1.fr λx hx=>hkp x (hk1.lt x hx);have hq2:fS Dg.enc 5 H2 dv ds did:=hq1.fr λx hx=>hkp x (hq1.lt x hx);have f2:Fr [] [] H0 H2:=f1.trans g2.of_app;have hT2:(H2++ [.row [.int .i64 (fK ms[j].src).kind, .int .i64 (fK ms[j].src).value, .str (fK ms[j].src).text, .int .i64 (fK ms[j].src).st, .int .i64 (fK ms[j].src).en, .int .i64 (fK ms[j].src).ns, .slice ((fK ms[j].src).kids.map Nd.enc) .none]])[H2.length]? =some (.row [.int .i64 (fK ms[j].src).kind, .int .i64 (fK ms[j].src).value, .str (fK ms[j].src).text, .int .i64 (fK ms[j].src).st, .int .i64 (fK ms[j].src).en, .int .i64 (fK ms[j].src).ns, .slice ((fK ms[j].src).kids.map Nd.enc) .none]):=z6
  have htl:(cY (ms.take j)).length<=8:=by unfold cY;rw[aQp,aQ6];omega
  refine iX (by simp only[kA,seval,cW,aA,bM,bN,qM,qG,gv,hv,aRq,aSe,gi,ge,gl,gwj,tN]<;>with_reducible rfl) z7 ?_;refine wL [6,7,8,10,11,20,21,22] (by simp only[jN,seval,aA,bM,bN,qM,qG,gv,hv,aRq,aSe,gi,ge,gl,gwj,tN]<;>with_reducible rfl) ?_;refine wQ ?_;refine wR ?_;refine eT 3 (by simp only[kA,seval,tT,cW,aA,bM,bN,qM,qG,gv,hv,aRq,aSe,gi,ge,gl,gwj,tN]<;>with_reducible rfl) z7 ?_;refine kH (enc:=Nd.enc) (sz:=7) Nd.enc_len IV z7 (cv:=tv) (xs:=(cY (ms.take j))) (a:=(fK ms[j].src)) (oH hT2) rfl z7 z7 (kV hT2) (kV hT2) (hk2.app _) vD rfl (by show(_+1)*80<=_;omega) z8 (by rw[vD];rfl) FQ rfl ?_;intro cv3 cid3 HA hk3 hc3 hl3 hs3;simp only[aRf,aQ0,aR1]at hl3;have f3:Fr [] [] H0 HA:=⟨by have:=f2.len;omega,λid h1 _=>by
   have h3:=f2.len;rw[hs3 id (by simp;omega) (λh=>by have:=hd1 id h;omega),aQt z8];exact f2.same id h1 z6,λid h=>by cases h⟩
  have hd3:∀x∈cid3,H0.length<=x:=λx hx=>by
   have:=f2.len;rcases hc3 x hx with h|h
   ·exact hd1 x h
   ·simp at h;omega
  have he3:∀x∈did,H0.length<=x/\x∉cid3:=λx hx=>⟨(he1 x hx).1,λh=>by
   rcases hc3 x h with h|h
   ·exact(he1 x hx).2 h
   ·have:=hq2.lt x hx;simp at h;omega⟩
  have hq3:fS Dg.enc 5 HA dv ds did:=(hq2.app _).fr λx hx=>hs3 x (by have:=hq2.lt x hx;simp;omega) (he1 x hx).2;refine iX (by simp only[kA,seval,aA,bM,bN,qM,qG,gv,hv,aRq,aSe,gi,ge,gl,gwj,tN]<;>with_reducible rfl) z7 ?_;refine wQ ?_;refine eE (by simp only[kA,seval,EG,BG,aA,bM,bN,qM,qG,gv,hv,aRq,aSe,gi,ge,gl,gwj,tN]<;>with_reducible rfl) z7 ?_;refine qB ?_;refine cL (σ:=Nat×PV×List Nat×List Dg) (λ(y:Nat×PV×List Nat×List Dg)=> [(20, .slice (ms.map Md.enc) .none),(21,aA (ms.length:Int)),(22,aA (j:Int)),(6,cv3),(7,y.2.1),(8,aA (j:Int)),(38, .slice (ds0.map Dg.enc) .none),(39,aA (ds0.length:Int)),(40,aA (y.1:Int))]) (λ(y:Nat×PV×List Nat×List Dg)=>λH3=>y.1<=ds0.length/\fS Nd.enc 7 H3 cv3 (cY (ms.take j)++ [fK ms[j].src]) cid3/\fS Dg.enc 5 H3 y.2.1 y.2.2.2 y.2.2.1/\y.2.2.2.length<=ds.length+y.1/\(∀x∈cid3,H0.length<=x)/\(∀x∈y.2.2.1,H0.length<=x/\x∉cid3)/\Fr [] [] H0 H3) (λ(y:Nat×PV×List Nat×List Dg)=>ds0.length-y.1) ((0,dv,did,ds)) ⟨(by first|rfl| (simp only[jN,seval,aA,bM,bN,qM,qG,gv,hv,aRq,aSe,gi,ge,gl,gwj,tN]<;>first|done|with_reducible rfl)),(by first|rfl| (simp only[jN,seval,aA,bM,bN,qM,qG,gv,hv,aRq,aSe,gi,ge,gl,gwj,tN]<;>first|done|with_reducible rfl)),(by first|rfl| (simp only[jN,seval,aA,bM,bN,qM,qG,gv,hv,aRq,aSe,gi,ge,gl,gwj,tN]<;>first|done|with_reducible rfl)),(by first|rfl| (simp only[jN,seval,aA,bM,bN,qM,qG,gv,hv,aRq,aSe,gi,ge,gl,gwj,tN]<;>first|done|with_reducible rfl)),(by first|rfl| (simp only[jN,seval,aA,bM,bN,qM,qG,gv,hv,aRq,aSe,gi,ge,gl,gwj,tN]<;>first|done|with_reducible rfl)),(by first|rfl| (simp only[jN,seval,aA,bM,bN,qM,qG,gv,hv,aRq,aSe,gi,ge,gl,gwj,tN]<;>first|done|with_reducible rfl)),(by first|rfl| (simp only[jN,seval,aA,bM,bN,qM,qG,gv,hv,aRq,aSe,gi,ge,gl,gwj,tN]<;>first|done|with_reducible rfl)),(by first|rfl| (simp only[jN,seval,aA,bM,bN,qM,qG,gv,hv,aRq,aSe,gi,ge,gl,gwj,tN]<;>first|done|with_reducible rfl)),(by first|rfl| (simp only[jN,seval,aA,bM,bN,qM,qG,gv,hv,aRq,aSe,gi,ge,gl,gwj,tN]<;>first|done|with_reducible rfl)),trivial⟩ (⟨aRk _,hk3,hq3,aQj _,hd3,he3,f3⟩) ?_;intro y H3 hg;obtain⟨l,dv1,did1,ds1⟩:=y;obtain⟨hl,kk1,kq1,kdl,kd1,ke1,kf1⟩:=hg;simp only at hl kk1 kq1 kdl kd1 ke1 kf1;rcases aQi l ds0.length with hi2|hi2
  ·
   have ki:=bA hi2;have ke:=bS Dg.enc hi2;have kl:decide ((l:Int)<(ds0.length:Int))=true:=decide_eq_true z8;have kw:IntKind.i64.wrap ((l:Int)+1)=((l+1:Nat):Int):=by rw[aZ z8 z8];omega
   refine wQ ?_;refine eE (by simp only[kA,seval,y3,aA,bM,bN,qM,qG,gv,hv,aRq,aSe,gi,ge,gl,gwj,tN,ki,ke,kl,kw,Dg.enc_len]<;>with_reducible rfl) z7 ?_;refine wQ ?_;refine bP rfl (by simp only[jN,seval,aA,bM,bN,qM,qG,gv,hv,aRq,aSe,gi,ge,gl,gwj,tN,ki,ke,kl,kw,Dg.enc_len]<;>with_reducible rfl) ?_;refine qK ?_;refine qB ?_;refine wQ ?_;refine eE (by simp only[kA,seval,EG,BG,aA,bM,bN,qM,qG,gv,hv,aRq,aSe,gi,ge,gl,gwj,tN,ki,ke,kl,kw,Dg.enc_len]<;>with_reducible rfl) z7 ?_;refine wQ ?_;refine eE (by simp only[kA,seval,y3,BG,aA,bM,bN,qM,qG,gv,hv,aRq,aSe,gi,ge,gl,gwj,tN,ki,ke,kl,kw,Dg.enc_len]<;>with_reducible rfl) z7 ?_;refine wQ ?_;refine dQ (λHB=>HB=H3++ [.row [.int .i64 ds0[l].code, .int .i64 (j:Int), .int .i64 ds0[l].st, .int .i64 ds0[l].en, .str ds0[l].name]]) ?_ ?_
   ·first|rfl|simp[aRu]
   rintro _ rfl;refine wR ?_;refine eT 3 (by simp only[kA,seval,EG,BG,aA,bM,bN,qM,qG,gv,hv,aRq,aSe,gi,ge,gl,gwj,tN,ki,ke,kl,kw,Dg.enc_len]<;>with_reducible rfl) z7 ?_;refine kH (enc:=Dg.enc) (sz:=5) Dg.enc_len lN z7 (cv:=dv1) (xs:=ds1) (a:=(dgM (j:Int) ds0[l])) (oH tN) rfl z7 z7 (kV tN) (kV tN) (kq1.app _) tU rfl (by show(_+1)*48<=_;omega) z8 (by rw[tU];rfl) KW rfl ?_;intro dv4 did4 HD kq4 kc4 kl4 ks4;simp only[aRf,aQ0,aR1]at kl4;have kf4:Fr [] [] H0 HD:=⟨by have:=kf1.len;omega,λid h1 _=>by
    have h3:=kf1.len;rw[ks4 id (by simp;omega) (λh=>by have:=(ke1 id h).1;omega),aQt z8];exact kf1.same id h1 z6,λid h=>by cases h⟩
   have ke4:∀x∈did4,H0.length<=x/\x∉cid3:=λx hx=>by
    have:=kf1.len;rcases kc4 x hx with h|h
    ·exact ke1 x h
    ·simp at h;exact⟨z8,λq=>by have:=kk1.lt x q;omega⟩
   have kk4:fS Nd.enc 7 HD cv3 (cY (ms.take j)++ [fK ms[j].src]) cid3:=(kk1.app _).fr λx hx=>ks4 x (by have:=kk1.lt x hx;simp;omega) (λh=>(ke1 x h).2 hx);refine iX (by simp only[kA,seval,aA,bM,bN,qM,qG,gv,hv,aRq,aSe,gi,ge,gl,gwj,tN,ki,ke,kl,kw,Dg.enc_len]<;>with_reducible rfl) z7 ?_;refine wQ ?_;refine eE (by simp only[kA,seval,y3,aA,bM,bN,qM,qG,gv,hv,aRq,aSe,gi,ge,gl,gwj,tN,ki,ke,kl,kw,Dg.enc_len]<;>with_reducible rfl) z7 ?_
   try simp only[aY,aT]
   exact⟨(l+1,dv4,did4,ds1++ [dgM (j:Int) ds0[l]]),by show ds0.length- (l+1)<ds0.length-l;omega,ZV,hi2,kk4,kq4,by simp;omega,kd1,ke4,kf4⟩
  ·
   have kl:decide ((l:Int)<(ds0.length:Int))=false:=decide_eq_false z8;refine wQ ?_;refine eE (by simp only[kA,seval,y3,aA,bM,bN,qM,qG,gv,hv,aRq,aSe,gi,ge,gl,gwj,tN,kl]<;>with_reducible rfl) z7 ?_;refine wQ ?_;refine wF rfl (by simp only[jN,seval,aA,bM,bN,qM,qG,gv,hv,aRq,aSe,gi,ge,gl,gwj,tN,kl]<;>with_reducible rfl) ?_;refine wQ ?_;refine bG ?_;simp only[aY,aT,reduceIte,Nat.reduceEqDiff,aR5,if_true,if_false];refine wQ ?_;refine eE (by simp only[kA,seval,y3,aA,bM,bN,qM,qG,gv,hv,aRq,aSe,gi,ge,gl,gwj,tN,kl]<;>with_reducible rfl) z7 ?_
   try simp only[aY,aT]
   exact⟨(j+1,cv3,cid3,dv1,did1,ds1),by show ms.length- (j+1)<ms.length-j;omega,ZV,hi,by show fS _ _ _ _ (cY (ms.take (j+1))) _;rw[GB hi];exact kk1,kq1,by show ds1.length<=_;omega,kd1,ke1,kf1⟩
 ·
  have gl:decide ((j:Int)<(ms.length:Int))=false:=decide_eq_false z8;rw[aR8 hi]at hk1;refine wQ ?_;refine eE (by simp only[kA,seval,y3,aA,bM,bN,qM,qG,gv,hv,aRq,aSe,gl]<;>with_reducible rfl) z7 ?_;refine wQ ?_;refine wF rfl (by simp only[jN,seval,aA,bM,bN,qM,qG,gv,hv,aRq,aSe,gl]<;>with_reducible rfl) ?_;refine wQ ?_;refine bG ?_;simp only[aY,aT,reduceIte,Nat.reduceEqDiff,aR5,if_true,if_false];refine wQ ?_;refine rE Nd.enc_len z7 6 hk1 rfl λH4 hl4 hs4=> ?_;have hq4:fS Dg.enc 5 H4 dv ds did:=hq1.fr λx hx=>hs4 x (he1 x hx).2;refine rE Dg.enc_len z7 7 hq4 rfl λH5 hl5 hs5=> ?_;refine eE (by simp only[kA,seval,aA,bM,bN,qM,qG,gv,hv,aRq,aSe,gl]<;>with_reducible rfl) z7 ?_;refine wQ ?_;refine wT ⟨.inr rfl,_,(oX (.tmp 2) (.tmp 3) (.tmp 4) rfl (aP z7) (aP z7) (aP z7)), ?_⟩;refine⟨ds, ?_,⟨by rw[hl5,hl4];exact f1.len,λid h1 _=>by rw[hs5 id (λh=>by have:=(he1 id h).1;omega),hs4 id (λh=>by have:=hd1 id h;omega)];exact f1.same id h1 z6,λid h=>by cases h⟩⟩;simp only[jN,seval,aA,bM,bN,qM,qG]
  try rfl
theorem aD7{H0:aC}{e3 e4:Value}(hG:vE G0 H0)(hE:oD e3 e4 H0)(ms:List Md)(h8:ms.length<=8)(h2k:∀m∈ms,m.src.length<=2000):aL Tryz.prog 13 [.slice (ms.map Md.enc) .none] H0 λr H'=>∃ds:List Dg,r= .tup [.slice ((cY ms).map Nd.enc) .none, .slice (ds.map Dg.enc) .none]/\Fr [] [] H0 H':=by
 have hml:ms.length<=maxLen:=aQk h8 z7;refine aF (N:=47) Tryz.func13 rfl rfl z6 λhb'=> ?_;refine jU ?_;refine jU ?_;refine jU ?_;refine ZE (a2 zK sT) ?_;refine qB ?_;refine cL (σ:=Nat×PV×List Nat×PV×List Nat×List Dg) (λ(z:Nat×PV×List Nat×PV×List Nat×List Dg)=> [(13, .slice (ms.map Md.enc) .none),(14,aA (ms.length:Int)),(15,aA (z.1:Int)),(4,z.2.1),(5,z.2.2.2.1)]) (λ(z:Nat×PV×List Nat×PV×List Nat×List Dg)=>λH1=>z.1<=ms.length/\fS Nd.enc 7 H1 z.2.1 (cY (ms.take z.1)) z.2.2.1/\fS Dg.enc 5 H1 z.2.2.2.1 z.2.2.2.2.2 z.2.2.2.2.1/\z.2.2.2.2.2.length<=z.1*603000/\(∀x∈z.2.2.1,H0.length<=x)/\(∀x∈z.2.2.2.2.1,H0.length<=x/\x∉z.2.2.1)/\Fr [] [] H0 H1) (λ(z:Nat×PV×List Nat×PV×List Nat×List Dg)=>ms.length-z.1) ((0, .slice [] .full,[], .slice [] .full,[],[])) (Zt tN) (⟨aRk _, .nil, .nil,z6,(λx hx=>by cases hx),(λx hx=>by cases hx),Fr.refl _ _⟩) ?_;intro z H1 hg;obtain⟨j,tv,cid,dv,did,ds⟩:=z;obtain⟨hj,hk1,hq1,hdl,hd1,he1,f1⟩:=hg;simp only at hj hk1 hq1 hdl hd1 he1 f1;have hG1:vE G0 H1:=λq o hq=>(f1.get (hG q o hq) z6).1;have hE1:oD e3 e4 H1:=hE.fr f1 z6 z6;rcases aQi j ms.length with hi|hi
 ·
  have gi:=bA hi;have ge:=bS Md.enc hi;have gl:decide ((j:Int)<(ms.length:Int))=true:=decide_eq_true z8;have gwj:IntKind.i64.wrap ((j:Int)+1)=((j+1:Nat):Int):=by rw[aZ z8 z8];omega
  have hsrc:=h2k ms[j] (aRh hi);have hmx:maxLen=9223372036854775807:=z7
  refine ZE (a5 y3 gi ge gl gwj) ?_;refine ZG (a4 gi ge gl gwj) ?_;refine qK ?_;refine qB ?_;refine ZE (a5 zK sT gi ge (a2 gl gwj)) ?_;refine ZT 2 (a5 y9 sT gi ge (a2 gl gwj)) ?_;refine ZA (a4 gi ge gl gwj) aE2 (aE9 hsrc (hG1.app _) (hE1.app _)) ?_;rintro _ H2 ⟨ds0,h0l,rfl,g2⟩;have hl2:=g2.len;simp only[aRf,aQ0,aR1]at hl2;have hkp:∀x,x<H1.length->H2[x]? =H1[x]? :=λx hx=>by rw[g2.same x (by simp;omega) z6,aQt hx]
  have hk2:fS Nd.enc 7 H2 tv (cY (ms.take j)) cid:=hk1.fr λx hx=>hkp x (hk1.lt x hx);have hq2:fS Dg.enc 5 H2 dv ds did:=hq1.fr λx hx=>hkp x (hq1.lt x hx);have f2:Fr [] [] H0 H2:=f1.trans g2.of_app;have hT2:(H2++ [.row [.int .i64 (fK ms[j].src).kind, .int .i64 (fK ms[j].src).value, .str (fK ms[j].src).text, .int .i64 (fK ms[j].src).st, .int .i64 (fK ms[j].src).en, .int .i64 (fK ms[j].src).ns, .slice ((fK ms[j].src).kids.map Nd.enc) .none]])[H2.length]? =some (.row [.int .i64 (fK ms[j].src).kind, .int .i64 (fK ms[j].src).value, .str (fK ms[j].src).text, .int .i64 (fK ms[j].src).st, .int .i64 (fK ms[j].src).en, .int .i64 (fK ms[j].src).ns, .slice ((fK ms[j].src).kids.map Nd.enc) .none]):=z6
  have htl:(cY (ms.take j)).length<=8:=by unfold cY;rw[aQp,aQ6];omega
  refine ZX (a5 cW gi ge gl gwj) ?_;refine ZL [4,5,6,8,9,13,14,15] (a4 gi ge gl gwj) ?_;refine ZT 3 (a5 tT cW gi ge (a2 gl gwj)) ?_;refine kH (enc:=Nd.enc) (sz:=7) Nd.enc_len IV z7 (cv:=tv) (xs:=(cY (ms.take j))) (a:=(fK ms[j].src)) (oH hT2) rfl z7 z7 (kV hT2) (kV hT2) (hk2.app _) vD rfl (by show(_+1)*80<=_;omega) z8 (by rw[vD];rfl) FQ rfl ?_;intro cv3 cid3 HA hk3 hc3 hl3 hs3;simp only[aRf,aQ0,aR1]at hl3;have f3:Fr [] [] H0 HA:=⟨by have:=f2.len;omega,λid h1 _=>by
   have h3:=f2.len;rw[hs3 id (by simp;omega) (λh=>by have:=hd1 id h;omega),aQt z8];exact f2.same id h1 z6,λid h=>by cases h⟩
  have hd3:∀x∈cid3,H0.length<=x:=λx hx=>by
   have:=f2.len;rcases hc3 x hx with h|h
   ·exact hd1 x h
   ·simp at h;omega
  have he3:∀x∈did,H0.length<=x/\x∉cid3:=λx hx=>⟨(he1 x hx).1,λh=>by
   rcases hc3 x h with h|h
   ·exact(he1 x hx).2 h
   ·have:=hq2.lt x hx;simp at h;omega⟩
  have hq3:fS Dg.enc 5 HA dv ds did:=(hq2.app _).fr λx hx=>hs3 x (by have:=hq2.lt x hx;simp;omega) (he1 x hx).2;refine ZX (a4 gi ge gl gwj) ?_;refine ZE (a5 EG BG gi ge (a2 gl gwj)) ?_;refine qB ?_;refine cL (σ:=Nat×PV×List Nat×List Dg) (λ(y:Nat×PV×List Nat×List Dg)=> [(13, .slice (ms.map Md.enc) .none),(14,aA (ms.length:Int)),(15,aA (j:Int)),(4,cv3),(5,y.2.1),(6,aA (j:Int)),(31, .slice (ds0.map Dg.enc) .none),(32,aA (ds0.length:Int)),(33,aA (y.1:Int))]) (λ(y:Nat×PV×List Nat×List Dg)=>λH3=>y.1<=ds0.length/\fS Nd.enc 7 H3 cv3 (cY (ms.take j)++ [fK ms[j].src]) cid3/\fS Dg.enc 5 H3 y.2.1 y.2.2.2 y.2.2.1/\y.2.2.2.length<=ds.length+y.1/\(∀x∈cid3,H0.length<=x)/\(∀x∈y.2.2.1,H0.length<=x/\x∉cid3)/\Fr [] [] H0 H3) (λ(y:Nat×PV×List Nat×List Dg)=>ds0.length-y.1) ((0,dv,did,ds)) (Zt (a4 gi ge gl gwj)) (⟨aRk _,hk3,hq3,aQj _,hd3,he3,f3⟩) ?_;intro y H3 hg;obtain⟨l,dv1,did1,ds1⟩:=y;obtain⟨hl,kk1,kq1,kdl,kd1,ke1,kf1⟩:=hg;simp only at hl kk1 kq1 kdl kd1 ke1 kf1;rcases aQi l ds0.length with hi2|hi2
  ·
   have ki:=bA hi2;have ke:=bS Dg.enc hi2;have kl:decide ((l:Int)<(ds0.length:Int))=true:=decide_eq_true z8;have kw:IntKind.i64.wrap ((l:Int)+1)=((l+1:Nat):Int):=by rw[aZ z8 z8];omega
   refine ZE (a5 y3 gi ge gl (a5 gwj ki ke kl kw)) ?_;refine ZG (a5 gi ge gl gwj (a4 ki ke kl kw)) ?_;refine qK ?_;refine qB ?_;refine ZE (a5 EG BG gi ge (a5 gl gwj ki ke (a2 kl kw))) ?_;refine ZE (a5 y3 BG gi ge (a5 gl gwj ki ke (a2 kl kw))) ?_;refine wQ ?_;refine dQ (λHB=>HB=H3++ [.row [.int .i64 ds0[l].code, .int .i64 (j:Int), .int .i64 ds0[l].st, .int .i64 ds0[l].en, .str ds0[l].name]]) ?_ ?_
   ·first|rfl|simp[aRu]
   rintro _ rfl;refine wR ?_;refine ZU 3 (a5 EG BG gi ge (a5 gl gwj ki ke (a2 kl kw))) ?_;refine kH (enc:=Dg.enc) (sz:=5) Dg.enc_len lN z7 (cv:=dv1) (xs:=ds1) (a:=(dgM (j:Int) ds0[l])) (oH tN) rfl z7 z7 (kV tN) (kV tN) (kq1.app _) tU rfl (by show(_+1)*48<=_;omega) z8 (by rw[tU];rfl) KW rfl ?_;intro dv4 did4 HD kq4 kc4 kl4 ks4;simp only[aRf,aQ0,aR1]at kl4;have kf4:Fr [] [] H0 HD:=⟨by have:=kf1.len;omega,λid h1 _=>by
    have h3:=kf1.len;rw[ks4 id (by simp;omega) (λh=>by have:=(ke1 id h).1;omega),aQt z8];exact kf1.same id h1 z6,λid h=>by cases h⟩
   have ke4:∀x∈did4,H0.length<=x/\x∉cid3:=λx hx=>by
    have:=kf1.len;rcases kc4 x hx with h|h
    ·exact ke1 x h
    ·simp at h;exact⟨z8,λq=>by have:=kk1.lt x q;omega⟩
   have kk4:fS Nd.enc 7 HD cv3 (cY (ms.take j)++ [fK ms[j].src]) cid3:=(kk1.app _).fr λx hx=>ks4 x (by have:=kk1.lt x hx;simp;omega) (λh=>(ke1 x h).2 hx);refine ZX (a5 gi ge gl gwj (a4 ki ke kl kw)) ?_;refine ZE (a5 y3 gi ge gl (a5 gwj ki ke kl kw)) ?_
   try simp only[aY,aT]
   exact⟨(l+1,dv4,did4,ds1++ [dgM (j:Int) ds0[l]]),by show ds0.length- (l+1)<ds0.length-l;omega,ZV,hi2,kk4,kq4,by simp;omega,kd1,ke4,kf4⟩
  ·
   have kl:decide ((l:Int)<(ds0.length:Int))=false:=decide_eq_false z8;refine ZE (a5 y3 gi ge gl (a2 gwj kl)) ?_;refine ZF (a5 gi ge gl gwj kl) ?_;refine wQ ?_;refine bG ?_;simp only[aY,aT,reduceIte,Nat.reduceEqDiff,aR5,if_true,if_false];refine ZE (a5 y3 gi ge gl (a2 gwj kl)) ?_
   try simp only[aY,aT]
   exact⟨(j+1,cv3,cid3,dv1,did1,ds1),by show ms.length- (j+1)<ms.length-j;omega,ZV,hi,by show fS _ _ _ _ (cY (ms.take (j+1))) _;rw[GB hi];exact kk1,kq1,by show ds1.length<=_;omega,kd1,ke1,kf1⟩
 ·
  have gl:decide ((j:Int)<(ms.length:Int))=false:=decide_eq_false z8;rw[aR8 hi]at hk1;refine ZE (a2 y3 gl) ?_;refine ZF gl ?_;refine wQ ?_;refine bG ?_;simp only[aY,aT,reduceIte,Nat.reduceEqDiff,aR5,if_true,if_false];refine wQ ?_;refine rE Nd.enc_len z7 4 hk1 rfl λH4 hl4 hs4=> ?_;have hq4:fS Dg.enc 5 H4 dv ds did:=hq1.fr λx hx=>hs4 x (he1 x hx).2;refine rE Dg.enc_len z7 5 hq4 rfl λH5 hl5 hs5=> ?_;refine eE (Za gl) z7 ?_;refine wQ ?_;refine wT ⟨.inr rfl,_,(cC (.tmp 2) (.tmp 3) rfl (aP z7) (aP z7)), ?_⟩;refine⟨ds, ?_,⟨by rw[hl5,hl4];exact f1.len,λid h1 _=>by rw[hs5 id (λh=>by have:=(he1 id h).1;omega),hs4 id (λh=>by have:=hd1 id h;omega)];exact f1.same id h1 z6,λid h=>by cases h⟩⟩;simp only[jN,seval,aA,bM,bN,qM,qG]
  try rfl
def AO(ms:List Md):List Md:=(ms.take 3).map λm=>⟨m.name,m.src.take 250⟩
theorem aEh(s:List UInt8)(hs:s.length<=maxLen):PC Tryz.prog 37 [.str s,aA 250] (.str (s.take 250)):=by
 have em:maxLen=9223372036854775807:=z7
 have hcs:s.length<=250\/250<=s.length:=z8
 refine fI (N:=11) Tryz.func37 rfl rfl z6 (by simp[Nd.bel,At.bel,iI,kI,jQ,iF,dR,bW.int,bW.str,bW.bool]) (.str _) ?_;refine jU ?_;rcases hcs with h|h
 ·
  have m1:min (s.length:Int) 250=s.length:=z8
  have hv:s.take 250=s:=aR8 h;have l1:((0:Int)<=s.length)=True:=z6
  refine wQ ?_;refine eE (by simp only[kA,seval,y3,y9,aA,bM,bN,qZ,qM,jS,m1,l1,Int.le_refl,aQj,tN,aSb,aR7,hv]<;>with_reducible rfl) z7 ?_;refine wQ ?_;refine wT ⟨.inr rfl,_,rfl, ?_⟩;simp only[jN,seval,aA,bM,bN,qZ,qM]
  try first|rfl|rw[hv]
 ·
  have g1:min (s.length:Int) 250=250:=z8
  have g3:((250:Int)<=s.length)=True:=by simp;omega
  have g4:((250:Nat)<=s.length)=True:=by simp;omega
  refine wQ ?_;refine eE (by simp only[kA,seval,y3,y9,aA,bM,bN,qZ,qM,jS,g1,g3,g4,aSb,Int.toNat_zero]<;>with_reducible rfl) z7 ?_;refine wQ ?_;refine wT ⟨.inr rfl,_,rfl, ?_⟩;simp only[jN,seval,aA,bM,bN,qZ,qM]
  try first|rfl|rw[hv]
theorem aNn(ms:List Md)(hl:ms.length<=maxLen)(hs:∀m∈ms,m.src.length<=maxLen):PC Tryz.prog 7 [.slice (ms.map Md.enc) .none] (.slice ((AO ms).map Md.enc) .none):=by
 have em:maxLen=9223372036854775807:=z7
 obtain⟨k,hk⟩:∃k,k=min ms.length 3:=⟨_,rfl⟩;have g1:min (ms.length:Int) 3=(k:Int):=z8
 have hkl:k<=ms.length:=z8
 have g3:(0<=((k:Nat):Int)/\((k:Nat):Int)<=(ms.length:Int))=True:=by simp;omega
 have g4:(ms.map Md.enc).take k=(ms.take k).map Md.enc:=List.map_take.symm;have g5:min k ms.length=k:=z8
 have ga:(∀(e:PV),e∈List.map Md.enc ms->e.cells.length=2)=True:=eq_true λe he=>by obtain⟨v,_,rfl⟩:=aRn.1 he;exact v.enc_len
 have hfk:AO ms=(ms.take k).map λm=>⟨m.name,m.src.take 250⟩:=by
  unfold AO;rcases aQi ms.length 3 with h|h
  ·rw[aR8 z8,aR8 z8]
  ·rw[show k=3 by omega]
 obtain⟨ms',hms⟩:∃ms',ms'=ms.take k:=⟨_,rfl⟩;have hl':ms'.length=k:=by rw[hms,aQ6];omega
 have hl2:=hl';have hs':∀m∈ms',m.src.length<=maxLen:=λm hm=>hs m (List.mem_of_mem_take (hms▸hm));rw[<-hms]at g4 hfk;refine fI (N:=27) Tryz.func7 rfl rfl z6 (by simp[Nd.bel,At.bel,iI,kI,jQ,iF,dR,bW.int,bW.str,bW.bool]) (iF _ _) ?_;refine jU ?_;refine jU ?_;refine wQ ?_;refine eE (by simp only[kA,seval,y3,zK,sT,aA,bM,bN,qZ,qM,jS,g1,g3,g4,g5,ga,aQp,tN,Int.toNat_zero,aSb,hl']<;>with_reducible rfl) z7 ?_;refine wQ ?_;refine zF 3 2 (es:= []) (Zn tN) ?_;refine dS (σ:=List Md) (k) (λ(q:List Md)=> [(3, .slice (q.map Md.enc) (.tok 0)),(10, .slice (ms'.map Md.enc) .none)]) [3,10] ([]) (λ(q:List Md)=> [.buf q.length 2]) (λ(i:Nat) (q:List Md)=>q=(ms'.take i).map λm=>⟨m.name,m.src.take 250⟩) ([]) (_) rfl rfl rfl rfl rfl rfl rfl rfl rfl z7 z7 z7 (λ_=>rfl) (z8) (Zt tN) (Zf tN) z6 (λ_ _ _=>by first|exact aRk _| (simp only[aRf];omega)) ?_ ?_ ?_
 ·intro i q hg;refine⟨?_,ZR⟩;simp only[aRy];exact ZH
 ·intro i q hi hg;have hi0:=hi;replace hi:i<ms'.length:=z8
  have m1:=bA hi;rw[hl']at m1;have m2:=bS Md.enc hi;have hsm:=hs' ms'[i] (aRh hi);have hql:q.length<=3:=by rw[hg,aQp,aQ6];omega
  have htk:((ms'.take (i+1)).map λm=>(⟨m.name,m.src.take 250⟩:Md))=q++ [⟨ms'[i].name,ms'[i].src.take 250⟩]:=by rw[List.take_succ_eq_append_getElem hi,aRt,<-hg];rfl
  obtain⟨m,hm⟩:∃m,m=ms'[i]:=⟨_,rfl⟩;rw[<-hm]at m2 hsm htk;have hap:=aF9 (us:=q) (u:=⟨m.name,m.src.take 250⟩) (id:=0) (tl:=.full) z8;refine ZE (a5 zK sT m1 m2 hl') ?_;refine wQ ?_;refine iK 0 (by kernel_rfl) ?_;refine iY (bm:= [0,0,2,0,8,24,62,126,255,511]) 5 (fresh:=(2)) (by kernel_rfl) (Zd (a5 y9 sT m1 m2 (a2 hl' hap))) z7 z7 ?_;refine mL (bm:= [0,0,2,0,8,24,62,126,255,511]) ([]) (by kernel_rfl) (Zc (a4 m1 m2 hl' hap)) (oH (a4 m1 m2 hl' hap)) z7 aN2 (λH' _=>aEh m.src hsm H') (Zdr (a4 m1 m2 hl' hap)) ?_;refine iT (bm:= [0,0,2,0,8,24,62,126,255,511]) (fresh:=(2)) (by kernel_rfl) (Zd (a5 zK sT m1 m2 (a2 hl' hap))) z7 ?_;exact⟨ZV,q++ [⟨m.name,m.src.take 250⟩],_,ZV,by simp only[jN,seval,aA,bM,bN,qZ,qM,aRf,aQh]<;>rfl,htk.symm⟩
 ·intro q hg;rw[aR8 z8,<-hfk]at hg;refine jU ?_;refine wQ ?_;refine wT ⟨.inr rfl,_,rfl, ?_⟩;rw[<-hg];rfl
theorem aNa(src:List UInt8):PC Tryz.prog 36 [.str src] (.slice ([(⟨[109,97,105,110],src⟩:Md)].map Md.enc) .none):=by
 refine fI (N:=6) Tryz.func36 rfl rfl z6 (by simp[Nd.bel,At.bel,iI,kI,jQ,iF,dR,bW.int,bW.str,bW.bool]) (iF _ _) ?_;refine jU ?_;refine ZE (a2 zK sT) ?_;refine wQ ?_;refine wT ⟨.inr rfl,_,rfl, ?_⟩;rfl
theorem tW{us:List Nd}{k:Nat}(h:∀u∈us,u.size<=k):aX us<=us.length*k:=by
 induction us with
 |nil=>simp[aX]
 |cons u us ih=>
  rw[aX,aQ0,Nat.add_mul];have:=h u z6;have:=ih λv hv=>h v (by simp[hv]);omega
def dW(ms:List Md):List Sy:=lY ms (cY ms) 0 bJ
def BH(ms:List Md):List Sy:=if fC ms=0 then dW ms else []
theorem FU{ms:List Md}(h8:ms.length<=8)(hz:∀t∈cY ms,t.size<=1000000):(dW ms).length<=8000012:=by
 have h1:=GP ms (cY ms) 0 bJ;have h2:=tW hz;have h3:(cY ms).length=ms.length:=by unfold cY;rw[aQp]
 have h4:bJ.length=4:=rfl;unfold dW;have h5:(cY ms).length*1000000<=8*1000000:=aRg _ z8;omega
theorem xG{H0:aC}(hG:vE G0 H0)(ms:List Md)(h8:ms.length<=maxLen)(hnm:∀m∈ms,m.name.length<=maxLen)(hv:fC ms≠0):aL Tryz.prog 38 [.slice (ms.map Md.enc) .none] H0 λr H'=>r= .tup [.slice [] .none, .slice [] .none,aA (fC ms)]/\H'=H0:=by
 have gv:decide (fC ms=0)=false:=decide_eq_false hv;refine cZ (N:=54) Tryz.func38 rfl rfl z6 (.tup _ (by simp[bW.int];exact iI _ [])) λhb'=> ?_;refine wQ ?_;refine eE (by simp only[kA,seval,aA,bM,bN,qZ,qM,gv,aRm,aSe]<;>with_reducible rfl) z7 ?_;refine wQ ?_;refine wR ?_;refine eT 1 (by simp only[kA,seval,aA,bM,bN,qZ,qM,gv,aRm,aSe]<;>with_reducible rfl) z7 ?_;refine oP (by simp only[kC,seval,aA,bM,bN,qZ,qM,gv,aRm,aSe]<;>with_reducible rfl) (by simp only[kC,seval,aA,bM,bN,qZ,qM,gv,aRm,aSe]) z7 aF1 (DK hG ms h8 hnm) ?_;refine iX (by simp only[kA,seval,aA,bM,bN,qZ,qM,gv,aRm,aSe]<;>with_reducible rfl) z7 ?_;refine wQ ?_;refine eE (by simp only[kA,seval,KC,aA,bM,bN,qZ,qM,gv,aRm,aSe]<;>with_reducible rfl) z7 ?_;refine wQ ?_;refine bP rfl (by simp only[jN,seval,aA,bM,bN,qZ,qM,gv,aRm,aSe]<;>with_reducible rfl) ?_;refine wQ ?_;refine eE (by simp only[kA,seval,aA,bM,bN,qZ,qM,gv,aRm,aSe]<;>with_reducible rfl) z7 ?_;refine wQ ?_;refine wT ⟨.inr rfl,_,_,(oX (.tmp 2) (.tmp 3) (.tmp 4) rfl (aP z7) (aP z7) (aP z7)), ?_,ZW⟩;rfl
theorem GW{H0:aC}{e3 e4:Value}(hG:vE G0 H0)(hE:oD e3 e4 H0)(ms:List Md)(h8:ms.length<=8)(hnm:∀m∈ms,m.name.length<=maxLen)(h2k:∀m∈ms,m.src.length<=2000)(hz:∀t∈cY ms,t.size<=1000000):aL Tryz.prog 8 [.slice (ms.map Md.enc) .none] H0 λr H'=>r= .tup [.slice ((BH ms).map Sy.enc) .none,aA (fC ms)]/\Fr [] [] H0 H':=by
 have hml:ms.length<=maxLen:=aQk h8 z7;refine aF (N:=19) Tryz.func8 rfl rfl z6 λhb'=> ?_;refine jU ?_;rcases Classical.em (fC ms=0)with hv|hv
 ·
  have hcm:BH ms=dW ms:=by unfold BH;rw[if_pos hv]
  rw[hcm,hv];refine PI 1 ?_;refine ZA0 QO (ED hG hE ms h8 hnm h2k hv) ?_;rintro _ H1 ⟨ds,rfl,f1⟩;refine VT ?_;refine ZE KC ?_;refine ZF0 ?_;refine qK ?_;refine PI 2 ?_;refine ZP0 aFo (ZS ms (cY ms) (by unfold cY;rw[aQp];exact aQj _) (by have h2:=tW hz;have h3:(cY ms).length=ms.length:=(by unfold cY;rw[aQp]);have h5:(cY ms).length*1000000<=8*1000000:=aRg _ z8;unfold fE;omega)) ?_;refine VT ?_;refine wQ ?_;refine wT ⟨.inr rfl,_,(cC (.tmp 2) (.tmp 3) rfl (aP z7) (aP z7)), ?_⟩;exact⟨rfl,f1⟩
 ·
  have hcm:BH ms= []:=by unfold BH;rw[if_neg hv]
  have gv:decide (fC ms=0)=false:=decide_eq_false hv;rw[hcm];refine wQ ?_;refine wR ?_;refine eT 1 (by simp only[kA,seval,aA,bM,bN,qZ,qM,gv,aRm]<;>with_reducible rfl) z7 ?_;refine oC (by simp only[kC,seval,aA,bM,bN,qZ,qM,gv,aRm]<;>with_reducible rfl) (by simp only[kC,seval,aA,bM,bN,qZ,qM,gv,aRm]) z7 QO (xG hG ms hml hnm hv) ?_;rintro _ _ ⟨rfl,rfl⟩;refine iX (by simp only[kA,seval,aA,bM,bN,qZ,qM,gv,aRm]<;>with_reducible rfl) z7 ?_;refine wQ ?_;refine eE (by simp only[kA,seval,KC,aA,bM,bN,qZ,qM,gv,aRm]<;>with_reducible rfl) z7 ?_;refine wQ ?_;refine bP rfl (by simp only[jN,seval,aA,bM,bN,qZ,qM,gv,aRm]<;>with_reducible rfl) ?_;refine wQ ?_;refine eE (by simp only[kA,seval,aA,bM,bN,qZ,qM,gv,aRm]<;>with_reducible rfl) z7 ?_;refine wQ ?_;refine wT ⟨.inr rfl,_,(cC (.tmp 2) (.tmp 3) rfl (aP z7) (aP z7)), ?_⟩;exact⟨rfl,Fr.refl _ _⟩
def eJ(ms:List Md)(k:Int):Nd×Int:=if fC ms=0 then(if k<0 then(dN,5)else match(dW ms)[k.toNat]? with
 |some s=>if s.kind=15 then(dN,5)else if s.kind=1 then((cY ms).getD s.mod.toNat dN,0)else((JZ s.st ((cY ms).getD s.mod.toNat dN)).1,0)
 |none=>(dN,5))else(dN,fC ms)
theorem aD3{H0:aC}(ms:List Md)(h8:ms.length<=8)(hz:∀t∈cY ms,t.size<=1000000):aL Tryz.prog 39 [.slice (ms.map Md.enc) .none, .slice ((cY ms).map Nd.enc) .none] H0 λr H'=>r= .slice ((dW ms).map Sy.enc) .none/\H'=H0:=ZS ms (cY ms) (by unfold cY;rw[aQp];exact aQj _) (by have h2:=tW hz;have h3:(cY ms).length=ms.length:=(by unfold cY;rw[aQp]);have h5:(cY ms).length*1000000<=8*1000000:=aRg _ z8;unfold fE;omega)
theorem Fr.setN{H0 H:aC}{i:Nat}{o:AObj}(f:Fr [] [] H0 H)(h:H0.length<=i):Fr [] [] H0 (H.set i o):=⟨by rw[lS];exact f.len,λid h1 h2=>by rw[aQy z8];exact f.same id h1 h2,λid h=>by cases h⟩
theorem MR{H0:aC}{e3 e4:Value}(hG:vE G0 H0)(hE:oD e3 e4 H0)(ms:List Md)(h8:ms.length<=8)(hnm:∀m∈ms,m.name.length<=maxLen)(h2k:∀m∈ms,m.src.length<=2000)(hz:∀t∈cY ms,t.size<=1000000)(hM:∀s∈dW ms,s.kind≠15->∃i:Nat,i<ms.length/\s.mod=(i:Int))(k:Int):aL Tryz.prog 9 [.slice (ms.map Md.enc) .none,aA k] H0 λr H'=>r= .tup [(eJ ms k).1.enc,aA (eJ ms k).2]/\Fr [] [] H0 H':=by
 refine aF (N:=67) Tryz.func9 rfl rfl z6 λhb'=> ?_;refine ZE cW ?_;rcases Classical.em (fC ms=0)with hv|hv
 ·
  refine PI 1 ?_;refine ZA0 QO (ED (hG.app _) (hE.app _) ms h8 hnm h2k hv) ?_;rintro _ H1 ⟨ds,rfl,g1⟩;have hl1:=g1.len;simp only[aRf,aQ0,aR1]at hl1;have f1:Fr [] [] H0 H1:=(Fr.refl [] H0).step g1;have hz1:H1[H0.length]? =some (.row [.int .i64 0, .int .i64 0, .str [], .int .i64 0, .int .i64 0, .int .i64 0, .slice [] .full]):=(g1.same _ z6 z6).trans z6;have qz:=aB hz1;have qst:∀(L:aC) (o:AObj),((H1++L).set H0.length o)[H0.length]? =some o:=λL o=>aQx (by simp;omega);have qst0:∀(o:AObj),(H1.set H0.length o)[H0.length]? =some o:=λo=>aQx z8;have nz:(H0.length=H1.length)=False:=by simp;omega
  have nzk:∀k,(H0.length=H1.length+k)=False:=λk=>by simp;omega
  have gt3:(cY ms).length=ms.length:=by unfold cY;rw[aQp]
  have hsl:=FU h8 hz;have hem:maxLen=9223372036854775807:=z7
  refine ZX (a5 hz1 qst0 qz qst (a2 nz nzk)) ?_;refine ZE (a5 KC hz1 qst0 qz (a3 qst nz nzk)) ?_;refine ZF (a5 hz1 qst0 qz qst (a2 nz nzk)) ?_;refine qK ?_;refine ZT 2 (a5 hz1 qst0 qz qst (a2 nz nzk)) ?_;refine ZP (a5 hz1 qst0 qz qst (a2 nz nzk)) aFo (aD3 ms h8 hz) ?_;refine ZX (a5 hz1 qst0 qz qst (a2 nz nzk)) ?_;refine ZL [1,4,6,9] (a5 hz1 qst0 qz qst (a2 nz nzk)) ?_;have hcs:k<0\/(0<=k/\((dW ms).length:Int)<=k)\/∃j:Nat,j<(dW ms).length/\k=(j:Int):=by
   by_cases h:k<0
   ·exact .inl h
   ·by_cases h2:((dW ms).length:Int)<=k
    ·exact .inr (.inl ⟨z8,h2⟩)
    ·exact .inr (.inr ⟨k.toNat,z8,z8⟩)
  rcases hcs with hk| ⟨hk,hk2⟩| ⟨j,hj,rfl⟩
  ·
   have k1:decide (k<0)=true:=decide_eq_true hk;have hr:eJ ms k=(dN,5):=by unfold eJ;rw[if_pos hv,if_pos hk]
   refine ZE (a5 y3 vS rS hz1 (a5 qst0 qz qst nz (a2 nzk k1))) ?_;refine ZG (a5 hz1 qst0 qz qst (a3 nz nzk k1)) ?_;refine ZL [4] (a5 hz1 qst0 qz qst (a3 nz nzk k1)) ?_;refine ZE (a5 cW hz1 qst0 qz (a4 qst nz nzk k1)) ?_;refine wQ ?_;refine wT ⟨.inr rfl,_,(cC (.cell 4 31) (.tmp 5) rfl (eS lZ z7 (by simp only[jL,jN,seval,aA,bM,bN,qZ,qM,hz1,qst0,qz,qst,nz,nzk,lS,k1]<;>with_reducible rfl)) (aP z7)), ?_⟩;refine⟨?_,by repeat first|exact f1|refine Fr.setN ?_ (by first|exact aQj _|omega)|refine Fr.app ?_ _⟩;rw[hr];simp only[jN,seval,aA,bM,bN,qZ,qM,qst]<;>rfl
  ·
   have k1:decide (k<0)=false:=decide_eq_false z8;have k2:decide (k>=((dW ms).length:Int))=true:=decide_eq_true hk2;have hr:eJ ms k=(dN,5):=by unfold eJ;rw[if_pos hv,if_neg z8,aQv z8]
   refine ZE (a5 y3 vS rS hz1 (a5 qst0 qz qst nz (a3 nzk k1 k2))) ?_;refine ZG (a5 hz1 qst0 qz qst (a4 nz nzk k1 k2)) ?_;refine ZL [4] (a5 hz1 qst0 qz qst (a4 nz nzk k1 k2)) ?_;refine ZE (a5 cW hz1 qst0 qz (a5 qst nz nzk k1 k2)) ?_;refine wQ ?_;refine wT ⟨.inr rfl,_,(cC (.cell 4 31) (.tmp 5) rfl (eS lZ z7 (by simp only[jL,jN,seval,aA,bM,bN,qZ,qM,hz1,qst0,qz,qst,nz,nzk,lS,k1,k2,aQp]<;>with_reducible rfl)) (aP z7)), ?_⟩;refine⟨?_,by repeat first|exact f1|refine Fr.setN ?_ (by first|exact aQj _|omega)|refine Fr.app ?_ _⟩;rw[hr];simp only[jN,seval,aA,bM,bN,qZ,qM,qst]<;>rfl
  ·
   have k1:decide ((j:Int)<0)=false:=decide_eq_false z8;have k2:decide ((j:Int)>=((dW ms).length:Int))=false:=decide_eq_false z8;have gi:=bA hj;have ge:=bS Sy.enc hj;have hms:=hM (dW ms)[j] (aRh hj);have hnz:¬((j:Int)<0):=z8
   have hat:(dW ms)[((j:Nat):Int).toNat]? =some (dW ms)[j]:=by rw[tN];exact aRa hj
   obtain⟨s,hs⟩:∃s,s=(dW ms)[j]:=⟨_,rfl⟩;rw[<-hs]at ge hms hat
   refine ZE (a5 y3 vS rS hz1 (a5 qst0 qz qst nz (a5 nzk k1 k2 gi ge))) ?_;refine ZI (a5 hz1 qst0 qz qst (a5 nz nzk k1 k2 (a2 gi ge))) (λbt41=> ?_) (λbt41=> ?_)
   ·
    have hr:eJ ms (j:Int)=(dN,5):=by
     unfold eJ;rw[if_pos hv,if_neg hnz,hat];simp only;rw[if_pos (by simpa using bt41)]
    refine ZL [4] (a5 hz1 qst0 qz qst (a5 nz nzk k1 k2 (a2 gi ge))) ?_;refine ZE (a5 cW hz1 qst0 qz (a5 qst nz nzk k1 (a3 k2 gi ge))) ?_;refine wQ ?_;refine wT ⟨.inr rfl,_,(cC (.cell 4 31) (.tmp 5) rfl (eS lZ z7 (by simp only[jL,jN,seval,aA,bM,bN,qZ,qM,hz1,qst0,qz,qst,nz,nzk,lS,k1,k2,gi,ge,tN,aQp,Sy.enc_len]<;>with_reducible rfl)) (aP z7)), ?_⟩;refine⟨?_,by repeat first|exact f1|refine Fr.setN ?_ (by first|exact aQj _|omega)|refine Fr.app ?_ _⟩;rw[hr];simp only[jN,seval,aA,bM,bN,qZ,qM,qst]<;>rfl
   ·
    have h15:s.kind≠15:=by simpa using bt41
    obtain⟨i,hi,hmi⟩:=hms h15;have hi2:i<(cY ms).length:=z8
    have wi:=bA hi2;have we:=bS Nd.enc hi2;have hgd:(cY ms).getD s.mod.toNat dN=(cY ms)[i]:=by rw[hmi,tN,aRb,aRa hi2];rfl
    have hts:=hz (cY ms)[i] (aRh hi2);have hr:eJ ms (j:Int)=if s.kind=1 then((cY ms)[i],0)else((JZ s.st (cY ms)[i]).1,0):=by
     unfold eJ;rw[if_pos hv,if_neg hnz,hat];simp only;rw[if_neg h15,hgd]
    obtain⟨t,ht⟩:∃t,t=(cY ms)[i]:=⟨_,rfl⟩;rw[<-ht]at we hts hr;refine qK ?_;refine ZL [1,4,6,9] (a5 hz1 qst0 qz qst (a5 nz nzk k1 k2 (a2 gi ge))) ?_;refine ZE (a5 vS rS hz1 qst0 (a5 qz qst nz nzk (a4 k1 k2 gi ge))) ?_;refine ZE (a5 y3 rS hz1 qst0 (a5 qz qst nz nzk (a4 k1 k2 gi ge))) ?_;refine ZI (a5 hz1 qst0 qz qst (a5 nz nzk k1 k2 (a2 gi ge))) (λbt49=> ?_) (λbt49=> ?_)
    ·
     rw[if_pos (by simpa using bt49)]at hr;refine ZE (a5 y3 tT cW rS (a5 hz1 qst0 qz qst (a5 nz nzk k1 k2 (a5 gi ge hmi wi we)))) ?_;refine wQ ?_;refine wT ⟨.inr rfl,_,(cC (.cell 4 31) (.tmp 5) rfl (eS lZ z7 (by simp only[jL,jN,seval,aA,bM,bN,qZ,qM,hz1,qst0,qz,qst,nz,nzk,lS,k1,k2,gi,ge,tN,aQp,Sy.enc_len]<;>with_reducible rfl)) (aP z7)), ?_⟩;refine⟨?_,by repeat first|exact f1|refine Fr.setN ?_ (by first|exact aQj _|omega)|refine Fr.app ?_ _⟩;rw[hr];simp only[jN,seval,aA,bM,bN,qZ,qM,qst]<;>rfl
    ·
     rw[if_neg (by simpa using bt49)]at hr;obtain⟨f,b,hfb⟩:∃f b,JZ s.st t=(f,b):=⟨_,_,rfl⟩;have hfn:=BI t.size t s.st (aQj _) hts;rw[hfb]at hfn hr;refine qK ?_;refine wQ ?_;refine yU 1 (n0:=H1.length+1) (by first|rfl| (simp only[aRf,aQ0,aR1,Nat.reduceAdd,aRe,hz1,qst0,qz,qst,nz,nzk,lS,k1,k2,gi,ge,tN,aQp,Sy.enc_len,hmi,wi,we,Nd.enc_len];done)) (by kernel_rfl) ?_;refine uS 7 (by first|rfl| (simp only[aRf,aQ0,aR1,Nat.reduceAdd,aRe,hz1,qst0,qz,qst,nz,nzk,lS,k1,k2,gi,ge,tN,aQp,Sy.enc_len,hmi,wi,we,Nd.enc_len];done)) (Zp (a5 y3 tT cW rS (a5 hz1 qst0 qz qst (a5 nz nzk k1 k2 (a5 gi ge hmi wi we))))) z7 z7 z7 ?_;refine QW (by first|rfl| (simp only[aRf,aQ0,aR1,Nat.reduceAdd,aRe,hz1,qst0,qz,qst,nz,nzk,lS,k1,k2,gi,ge,tN,aQp,Sy.enc_len,hmi,wi,we,Nd.enc_len];done)) (Ze (a5 hz1 qst0 qz qst (a5 nz nzk k1 k2 (a5 gi ge hmi wi we)))) (Ze (a5 hz1 qst0 qz qst (a5 nz nzk k1 k2 (a5 gi ge hmi wi we)))) (Zeo (a5 hz1 qst0 qz qst (a5 nz nzk k1 k2 (a5 gi ge hmi wi we)))) z7 aE1 (λhc L=>hfn _) ?_;refine uS 3 (by first|rfl| (simp only[aRf,aQ0,aR1,Nat.reduceAdd,aRe,hz1,qst0,qz,qst,nz,nzk,lS,k1,k2,gi,ge,tN,aQp,Sy.enc_len,hmi,wi,we,Nd.enc_len];done)) (Zp (a5 hz1 qst0 qz qst (a5 nz nzk k1 k2 (a5 gi ge hmi wi we)))) z7 z7 z7 ?_;refine HN (by first| (simp only[LS,HS,aR4,aQf,aRy,hz1,qst0,qz,qst,nz,nzk,lS,k1,k2,gi,ge,tN,aQp,Sy.enc_len,hmi,wi,we,Nd.enc_len]<;>with_reducible rfl)|rfl) ?_;refine yA (bm:= [0,0,2,7,15,0,32,127,255,511,511,0,3071,8191]) (fresh:=(H1.length+1)) (by kernel_rfl) (Zx (a5 cW hz1 qst0 qz (a5 qst nz nzk k1 (a5 k2 gi ge hmi (a2 wi we))))) z7 (by repeat (first|exact dI.base _|with_reducible apply dI.keep|apply dI.drop)) ?_;refine ZL [4,11] (a5 hz1 qst0 qz qst (a5 nz nzk k1 k2 (a2 gi ge))) ?_;refine ZE (a5 cW hz1 qst0 qz (a5 qst nz nzk k1 (a3 k2 gi ge))) ?_;refine wQ ?_;refine wT ⟨.inr rfl,_,(cC (.cell 4 31) (.tmp 5) rfl (eS lZ z7 (by simp only[jL,jN,seval,aA,bM,bN,qZ,qM,hz1,qst0,qz,qst,nz,nzk,lS,k1,k2,gi,ge,tN,aQp,Sy.enc_len]<;>with_reducible rfl)) (aP z7)), ?_⟩;refine⟨?_,by repeat first|exact f1|refine Fr.setN ?_ (by first|exact aQj _|omega)|refine Fr.app ?_ _⟩;rw[hr];simp only[jN,seval,aA,bM,bN,qZ,qM,qst]<;>rfl
 ·
  have gv:decide (fC ms=0)=false:=decide_eq_false hv;have hr:eJ ms k=(dN,fC ms):=by unfold eJ;rw[if_neg hv]
  refine wQ ?_;refine wR ?_;refine eT 1 (by simp only[kA,seval,aA,bM,bN,qZ,qM,gv,aRm]<;>with_reducible rfl) z7 ?_;refine oC (by simp only[kC,seval,aA,bM,bN,qZ,qM,gv,aRm]<;>with_reducible rfl) (by simp only[kC,seval,aA,bM,bN,qZ,qM,gv,aRm]) z7 QO (xG (hG.app _) ms (aQk h8 z7) hnm hv) ?_;rintro _ _ ⟨rfl,rfl⟩;refine iX (by simp only[kA,seval,aA,bM,bN,qZ,qM,gv,aRm]<;>with_reducible rfl) z7 ?_;refine wQ ?_;refine eE (by simp only[kA,seval,KC,aA,bM,bN,qZ,qM,gv,aRm]<;>with_reducible rfl) z7 ?_;refine wQ ?_;refine bP rfl (by simp only[jN,seval,aA,bM,bN,qZ,qM,gv,aRm]<;>with_reducible rfl) ?_;refine wQ ?_;refine eE (by simp only[kA,seval,cW,aA,bM,bN,qZ,qM,gv,aRm]<;>with_reducible rfl) z7 ?_;refine wQ ?_;refine wT ⟨.inr rfl,_,(cC (.cell 4 31) (.tmp 5) rfl (eS lZ z7 (by simp only[jL,jN,seval,aA,bM,bN,qZ,qM,gv,aRm]<;>with_reducible rfl)) (aP z7)), ?_⟩;refine⟨?_,by repeat first|exact Fr.refl _ _|refine Fr.setN ?_ (by first|exact aQj _|omega)|refine Fr.app ?_ _⟩;rw[hr];simp only[jN,seval,aA,bM,bN,qZ,qM]<;>rfl
theorem TT{H0:aC}{e3 e4:Value}(hG:vE G0 H0)(hE:oD e3 e4 H0)(ms:List Md)(h8:ms.length<=8)(hnm:∀m∈ms,m.name.length<=maxLen)(h2k:∀m∈ms,m.src.length<=2000)(hz:∀t∈cY ms,t.size<=1000000)(hM:∀s∈dW ms,s.kind≠15->∃i:Nat,i<ms.length/\s.mod=(i:Int))(k:Int):aL Tryz.prog 10 [.slice (ms.map Md.enc) .none,aA k] H0 λr H'=>r= .tup [aA (eJ ms k).1.st,aA (eJ ms k).1.en,aA (eJ ms k).2]/\Fr [] [] H0 H':=by
 obtain⟨n,c,hnc⟩:∃n c,eJ ms k=(n,c):=⟨_,_,rfl⟩;have hno:=λH hG hE=>MR (H0:=H) (e3:=e3) (e4:=e4) hG hE ms h8 hnm h2k hz hM k;rw[hnc]at hno⊢;refine aF (N:=20) Tryz.func10 rfl rfl z6 λhb'=> ?_;refine jU ?_;refine PI 2 ?_;refine ZA0 aOh (hno _ hG hE) ?_;rintro _ H1 ⟨rfl,f1⟩;refine ZX cW ?_;refine wQ ?_;refine eA (by kernel_rfl) ?_;refine ZpX (a2 y3 cW) ?_;refine wQ ?_;refine wT ⟨.inr rfl,_,(oX (.tmp 4) (.tmp 5) (.tmp 6) rfl (aP z7) (aP z7) (aP z7)), ?_⟩;exact⟨rfl,f1.app _⟩
def RW(ms:List Md):Int:=if ms.any sM=true then 2 else if decide ((ms.length:Int)>8)=true then 2 else if ms.any pY=true then 3 else if(List.range ms.length).any (HE ms)=true then 6 else 0
theorem aBj(ms:List Md):RW ms=fC ms:=by
 unfold RW fC;cases decide ((ms.length:Int)>8)<;>cases ms.any sM<;>rfl
theorem aD2{H:aC}(hG:vE G0 H)(ms:List Md)(hl:ms.length<=maxLen)(hn:∀m∈ms,m.name.length<=maxLen):aL Tryz.prog 11 [.slice (ms.map Md.enc) .none] H λr H'=>r=aA (RW ms)/\H'=H:=by
 unfold RW;refine cZ (N:=49) Tryz.func11 rfl rfl z6 (.int _ _) λhb'=> ?_;refine jU ?_;refine ZE (a2 zK sT) ?_;refine wQ ?_;refine dS (σ:=Unit) (ms.length) (λ(s:Unit)=> [(0, .slice (ms.map Md.enc) .none),(9, .slice (ms.map Md.enc) .none)]) [0,9] (H) (λ(s:Unit)=> []) (λ(i:Nat) (s:Unit)=>(ms.take i).any sM=false) (()) ([]) rfl rfl rfl rfl rfl rfl rfl rfl rfl z7 z7 z7 (λ_=>rfl) (hl) (Zt tN) (Zf tN) z6 (λ_ _ _=>by first|exact aRk _| (simp only[aRf];omega)) ?_ ?_ ?_
 ·exact λi s hg=>⟨by first|exact eP _| (simp only[aR0];assumption)| (refine fB hb' z6 ?_;exact ZH),ZR⟩
 ·intro i s hi hg;have g1:=bA hi;have g2:=bS Md.enc hi;refine ZE (a4 zK sT g1 g2) ?_;refine ZE (a5 y3 y9 sT g1 g2) ?_;refine ZI (a2 g1 g2) (λbt18=> ?_) (λbt18=> ?_)
  ·
   rw[if_pos (List.any_eq_true.2 ⟨_,aRh hi,(show sM ms[i]=true from bt18)⟩)];refine ZE (a2 g1 g2) ?_;refine wQ ?_;refine wT ⟨.inr rfl,_,_,rfl, ?_,ZW⟩;exact rfl
  ·
   refine qK ?_;exact⟨ZV,(),[.row [.str ms[i].name, .str ms[i].src]],ZV,z6,eD hi hg (show sM ms[i]=false from bt18)⟩
 ·intro s hg;rw[aR7]at hg;rw[if_neg (by rw[hg];simp)];refine ZE (a3 y3 zK sT) ?_;refine xA (λbt22=> ?_) (λbt22=> ?_)
  ·
   rw[if_pos bt22];refine jU ?_;refine wQ ?_;refine wT ⟨.inr rfl,_,_,rfl, ?_,ZW⟩;exact rfl
  ·
   rw[if_neg (by rw[bt22];simp)];refine qK ?_;refine ZE (a2 zK sT) ?_;refine wQ ?_;refine dS (σ:=Unit) (ms.length) (λ(s:Unit)=> [(0, .slice (ms.map Md.enc) .none),(23, .slice (ms.map Md.enc) .none)]) [0,23] (H) (λ(s:Unit)=> []) (λ(i:Nat) (s:Unit)=>(ms.take i).any pY=false) (()) ([]) rfl rfl rfl rfl rfl rfl rfl rfl rfl z7 z7 z7 (λ_=>rfl) (hl) (Zt tN) (Zf tN) z6 (λ_ _ _=>by first|exact aRk _| (simp only[aRf];omega)) ?_ ?_ ?_
   ·exact λi s hg=>⟨by first|exact eP _| (simp only[aR0];assumption)| (refine fB hb' z6 ?_;exact ZH),ZR⟩
   ·intro i s hi hg;have g1:=bA hi;have g2:=bS Md.enc hi;refine ZE (a4 zK sT g1 g2) ?_;refine ZT 2 (a4 y9 sT g1 g2) ?_;refine ZP (a2 g1 g2) aE4 (aBc ms[i].name (hn _ (aRh hi)) _ (hG.app _)) ?_;refine ZX (a2 g1 g2) ?_;refine ZI (a2 g1 g2) (λbt32=> ?_) (λbt32=> ?_)
    ·
     rw[if_pos (List.any_eq_true.2 ⟨_,aRh hi,(show pY ms[i]=true from bt32)⟩)];refine ZE (a2 g1 g2) ?_;refine wQ ?_;refine wT ⟨.inr rfl,_,_,rfl, ?_,ZW⟩;exact rfl
    ·
     refine qK ?_;exact⟨ZV,(),[.row [.str ms[i].name, .str ms[i].src]],ZV,z6,eD hi hg (show pY ms[i]=false from bt32)⟩
   ·intro s hg;rw[aR7]at hg;rw[if_neg (by rw[hg];simp)];refine ZE (a2 zK sT) ?_;refine wQ ?_;refine dS (σ:=Unit) (ms.length) (λ(s:Unit)=> [(0, .slice (ms.map Md.enc) .none),(34, .slice (ms.map Md.enc) .none)]) [0,34] (H) (λ(s:Unit)=> []) (λ(i:Nat) (s:Unit)=>(List.range i).any (HE ms)=false) (()) ([]) rfl rfl rfl rfl rfl rfl rfl rfl rfl z7 z7 z7 (λ_=>rfl) (hl) (Zt tN) (Zf tN) z6 (λ_ _ _=>by first|exact aRk _| (simp only[aRf];omega)) ?_ ?_ ?_
    ·exact λi s hg=>⟨by first|exact eP _| (simp only[aR0];assumption)| (refine fB hb' z6 ?_;exact ZH),ZR⟩
    ·intro i s hi hg;have g1:=bA hi;have g2:=bS Md.enc hi;have g3:(0<=((i:Nat):Int)/\((i:Nat):Int)<=(ms.length:Int))=True:=by simp;omega
     have g4:(ms.map Md.enc).take i=(ms.take i).map Md.enc:=List.map_take.symm;have g5:min i ms.length=i:=z8
     have hdd:=LC hi;have hge:=kT (iL ms[i].name) (ms.take i);rw[<-hdd]at hge;have ga:(∀(e:PV),e∈List.map Md.enc ms->e.cells.length=2)=True:=eq_true λe he=>by obtain⟨v,_,rfl⟩:=aRn.1 he;exact v.enc_len
     refine ZE (a5 zK sT ga g1 (a5 g2 g3 g4 g5 hge)) ?_;refine wQ ?_;refine eA (by kernel_rfl) ?_;refine nV 5 (by simp only[jP,jO,jN,seval,y9,zK,sT,jS,aA,bM,bN,qZ,qM,ga,g1,tN,g2,g3,g4,g5,hge,aQp]<;>with_reducible rfl) z7 ?_;refine ZpK (a5 ga g1 g2 g3 (a3 g4 g5 hge)) aNr (λhc=>XK (ms.take i) ms[i].name (by simp;omega) _) ?_;refine ZpX (a5 y3 ga g1 g2 (a4 g3 g4 g5 hge)) ?_;refine ZI (a5 ga g1 g2 g3 (a3 g4 g5 hge)) (λbt47=> ?_) (λbt47=> ?_)
     ·
      rw[if_pos (xL hi bt47)];refine ZE (a5 ga g1 g2 g3 (a3 g4 g5 hge)) ?_;refine wQ ?_;refine wT ⟨.inr rfl,_,_,rfl, ?_,ZW⟩;exact rfl
     ·
      refine qK ?_;exact⟨ZV,(),[.row [.str ms[i].name, .str ms[i].src]],ZV,z6,tK hg bt47⟩
    ·intro s hg;rw[if_neg (by rw[hg];simp)];refine jU ?_;refine wQ ?_;refine wT ⟨.inr rfl,_,_,rfl, ?_,ZW⟩;exact rfl
def QD:List UInt8:= [102,110,32,102,40,97,58,32,105,110,116,41,32,123,125]
def mdS:Md:=⟨[109,97,105,110],QD⟩
def ndS:Nd:=.mk 1 0 [] 0 15 (-1) [(.mk 3 0 [102] 0 15 (3) [(.mk 10 0 [] 4 4 (-1) []),(.mk 12 0 [] 5 12 (-1) [(.mk 13 0 [97] 5 11 (5) [(.mk 17 0 [] 8 11 (-1) [(.mk 18 0 [105,110,116] 8 11 (8) [])])])]),(.mk 0 0 [] 12 12 (-1) []),(.mk 21 0 [] 13 15 (-1) [(.mk 0 0 [] 14 14 (-1) [])])])]
def sy5:Sy:=⟨2,0,3,4,[102],false⟩
def sy6:Sy:=⟨10,0,5,5,[97],false⟩
def syS:List Sy:=bJ++ [⟨1,0, -1, -1,[109,97,105,110],true⟩,sy5,sy6]
theorem aFi:fC [mdS]=0:=by kernel_rfl
theorem aOm:fK QD=ndS:=by kernel_rfl
theorem aMz:cY [mdS]= [ndS]:=by unfold cY;rw[aRd,List.map_nil,show fK mdS.src=ndS from aOm]
theorem aNe:lY [mdS] [ndS] 0 bJ=syS:=by kernel_rfl
theorem aOe:BH [mdS]=syS:=by unfold BH;rw[if_pos aFi];unfold dW;rw[aMz,aNe]
theorem aIg{H0:aC}{e3 e4:Value}(hG:vE G0 H0)(hE:oD e3 e4 H0):aL Tryz.prog 8 [.slice ([mdS].map Md.enc) .none] H0 λr H'=>r= .tup [.slice (syS.map Sy.enc) .none,aA 0]/\Fr [] [] H0 H':=by
 have h:=GW hG hE [mdS] z7 (λm hm=>by rw[aRz.1 hm];decide) (λm hm=>by rw[aRz.1 hm];decide) (λt ht=>by rw[aMz,aRz]at ht;subst ht;exact of_decide_eq_true (by kernel_rfl));rw[aOe,aFi]at h;exact h
theorem aD1{H0:aC}{e3 e4:Value}(hG:vE G0 H0)(hE:oD e3 e4 H0):aL Tryz.prog 6 [] H0 λr H'=>r= .bool true/\Fr [] [] H0 H':=by
 refine aF (N:=29) Tryz.func6 rfl rfl z6 λhb'=> ?_;refine jU ?_;refine wQ ?_;refine wR ?_;refine oP (by simp only[kC,seval,aA,bM,bN,qZ,qM,QD]<;>with_reducible rfl) (by simp only[kC,seval,aA,bM,bN,qZ,qM,QD]) z7 aM0 (aNa QD _) ?_;refine oC (by simp only[kC,seval,aA,bM,bN,qZ,qM,mdS,QD]<;>with_reducible rfl) (by simp only[kC,seval,aA,bM,bN,qZ,qM,mdS,QD]) z7 aOc (aIg hG hE) ?_;rintro _ H1 ⟨rfl,f1⟩;refine VT ?_;refine wQ ?_;refine wR ?_;refine bH ?_;refine lP 12 (by simp only[jG,jO,jN,seval,y3,vS,KC,rS,aA,bM,bN,qZ,qM,syS,sy5,sy6,bJ]<;>with_reducible rfl) z7 ?_;refine wY (ps:=sy5.enc.cells) (qs:=sy5.enc.cells) aBe rfl (SH tN) (SH tN) rfl rfl (SH tN) (SH tN) z7 z7 ?_;rw[show iJ sy5.enc.cells sy5.enc.cells=true from by kernel_rfl];refine lP 6 (by simp only[jG,jO,jN,seval,vS,rS,aA,bM,bN,qZ,qM,syS,sy5,sy6,bJ]<;>with_reducible rfl) z7 ?_;refine wY (ps:=sy6.enc.cells) (qs:=sy6.enc.cells) aBe rfl (SH tN) (SH tN) rfl rfl (SH tN) (SH tN) z7 z7 ?_;rw[show iJ sy6.enc.cells sy6.enc.cells=true from by kernel_rfl];refine uJ (by simp only[jG,jO,jN,seval,aA,bM,bN,qZ,qM,syS,sy5,sy6,bJ]<;>with_reducible rfl) z7 (by repeat (first|exact dI.base _|with_reducible apply dI.keep|apply dI.drop)) ?_;refine wQ ?_;refine wT ⟨.inr rfl,_,rfl, ?_⟩;exact⟨rfl,f1⟩
mutual
def nY:Nd->List Int
 | .mk k v t s e n us=>(if iS (.mk k v t s e n us)=true then [pN (.mk k v t s e n us)]else [])++eM us
def eM:List Nd->List Int
 | []=> []
 |u::us=>nY u++eM us
end
def KA(v:Int):Bool:=decide (0<=v)&&decide (v<4294967296)
mutual
def shN:Nd->Bool
 | .mk k v t s e n us=>(us.all (λc=>JY k c.kind)&&KA v)&&BT us
def BT:List Nd->Bool
 | []=>true
 |u::us=>shN u&&BT us
end
theorem pU(n:Nd):nY n=(if iS n=true then [pN n]else [])++eM n.kids:=by cases n;rw[nY];rfl
theorem BU(n:Nd):shN n=((n.kids.all (λc=>JY n.kind c.kind)&&KA n.value)&&BT n.kids):=by cases n;rw[shN];rfl
theorem DC:∀us:List Nd,BT us=us.all shN
 | []=>rfl
 |u::us=>by simp only[BT,aQc,DC us]
theorem HI:∀a b:List Nd,eM (a++b)=eM a++eM b
 | [],b=>by simp[eM]
 |u::a,b=>by simp only[aQf,eM,HI a b,aR4]
theorem aA8{n:Nd}(h:iS n=true)(h7:n.kind≠7):¬n.ns<0:=λhn=>by
 unfold iS mO at h;rw[if_neg (by simpa using h7),if_pos (by simpa using hn)]at h;simp at h
theorem aKr{n:Nd}(h:n.kind≠7):pN n=n.ns:=by unfold pN;rw[if_neg (by simpa using h)]
theorem aM9{n:Nd}(h:n.kind=7):pN n=n.st:=by unfold pN;rw[if_pos (by simpa using h)]
structure GT(a b:Nat)(m:Nd):Prop where
 bd:∀x∈nY m,(a:Int)<=x/\x<b
 nd:(nY m).Nodup
 sh:shN m=true
 st:0<=m.st
 en:0<=m.en
structure KI(a off:Nat)(n:Nd)(ch:List St):Prop where
 le:a<=off
 bd:∀x∈eM n.kids,(a:Int)<=x/\x<off
 nd:(eM n.kids).Nodup
 sh:n.kids.all (λc=>JY n.kind c.kind)=true/\BT n.kids=true
 vl:KA n.value=true
 ns:n.ns<0\/((a:Int)<=n.ns/\n.ns<off/\n.ns∉eM n.kids)
 st:0<=n.st
 i7:n.kind=7->(n.en<0/\n.kids= []/\tY ch=true)\/(0<=n.en/\(a:Int)<=n.st/\n.st<off/\n.st∉eM n.kids)
theorem OC{v b:Int}(h:KA v=true)(hb:b=1\/b=2):KA (orI v b)=true:=by
 simp only[KA,aQd,decide_eq_true_eq]at h⊢;obtain⟨n,rfl⟩:=Int.eq_ofNat_of_zero_le h.1;have hn:n<2^32:=z8
 have h1:(BitVec.ofInt 64 (n:Int)).toNat=n:=by simp;omega
 have key:∀c:Nat,c<2^32->n ||| c<2^32:=λc hc=>Nat.or_lt_two_pow hn hc;have w:∀x:Nat,x<2^32->IntKind.i64.wrap (x:Int)=x:=λx hx=>aZ z8 z8;unfold orI;rcases hb with rfl|rfl
 ·rw[BitVec.toNat_or,h1,show(BitVec.ofInt 64 (1:Int)).toNat=1 from rfl];have:=key 1 z7;rw[w _ this];omega
 ·rw[BitVec.toNat_or,h1,show(BitVec.ofInt 64 (2:Int)).toNat=2 from rfl];have:=key 2 z7;rw[w _ this];omega
def QS(k:Int)(t:List UInt8):Prop:=k=105->∀v,yT t=some v->0<=v
def TkO(x:Tk):Prop:=100<x.kind/\QS x.kind x.text
theorem aCz{t:List UInt8}{v:Int}(h:yT t=some v):v<=2147483647:=by
 unfold yT UN at h
 split at h
 ·split at h
  ·cases h
  ·cases h;omega
 ·cases h
theorem aA7{n:Nd}{t:List UInt8}(h:KA n.value=true):KA (dX n t).value=true:=by
 unfold dX;repeat' split
 ·exact OC h (.inl rfl)
 ·exact OC h (.inl rfl)
 ·exact OC h (.inr rfl)
 ·rfl
 ·exact h
 ·exact h
theorem aC0{c:St}{off:Nat}{n:Nd}{ds:List Dg}(h:KA n.value=true)(hi:QS c.kind c.text):KA (gJ c off n ds).1.value=true:=by
 unfold gJ;dsimp only
 split
 ·exact h
 split
 ·exact h
 split
 ·split<;>exact h
 split
 ·show KA (dE n c.text off).value=true;unfold dE;split<;>exact h
 split
 ·rename_i q
  split
  ·rename_i v hv;have h1:=aCz hv;have h2:=hi (by simpa using q) v hv;show KA v=true;simp[KA];omega
  ·rfl
 split
 ·exact h
 ·exact aA7 h
theorem KI.tok{a off:Nat}{n:Nd}{c:St}{cs:List St}{ds:List Dg}(h:KI a off n (c::cs))(hk:100<=c.kind)(hok:AQ c=true)(hi:QS c.kind c.text):KI a (off+c.text.length) (gJ c off n ds).1 cs:=by
 have hvl:=aC0 (off:=off) (ds:=ds) h.vl hi;obtain⟨le,bd,nd,sh,vl,ns,st,i7⟩:=h;revert hvl;have hnot:∀x:Int,(off:Int)<=x->x∉eM n.kids:=λx hx hm=>by have:=bd x hm;omega
 have hne103:c.kind=103->c.text≠ []:=λh103=>by
  obtain⟨ck,ct,cc⟩:=c;simp only[AQ,okN,aQd,aRv,aQe,decide_eq_false_iff_not]at hok;exact hok.1.2.resolve_left λq=>q h103
 have base:∀m:Nd,m.kids=n.kids->m.kind=n.kind->(m.ns=n.ns\/(m.ns=(off:Int)/\c.text≠ []))->(0<=m.st)->
   (n.kind=7->(m.en<0/\m.kids= []/\tY cs=true)\/(0<=m.en/\(a:Int)<=m.st/\m.st<((off+c.text.length:Nat):Int)/\m.st∉eM n.kids))->KA m.value=true->KI a (off+c.text.length) m cs:=λm e1 e2 e3 e4 e5 e9=>by
  refine⟨z8,by rw[e1];intro x hx;have:=bd x hx;omega,by rw[e1];exact nd,by rw[e1,e2];exact sh,e9, ?_,e4,λq=>by rw[e1];have:=e5 (by rw[<-e2];exact q);rw[e1]at this;exact this⟩;rcases e3 with e3| ⟨e3,e6⟩
  ·rw[e3,e1];rcases ns with ns| ⟨n1,n2,n3⟩
   ·exact .inl ns
   ·exact .inr ⟨n1,z8,n3⟩
  ·rw[e3,e1];have:0<c.text.length:=List.length_pos_iff.2 e6;exact .inr ⟨z8,z8,hnot _ (Int.le_refl _)⟩
 have ext:∀m:Nd,m.kids=n.kids->m.kind=n.kind->m.st=n.st->m.en=n.en->(m.ns=n.ns\/(m.ns=(off:Int)/\c.text≠ []))->(n.kind=7->n.en<0->c.text≠ [])->KA m.value=true->KI a (off+c.text.length) (eB m (off:Nat) (((off:Nat):Int)+c.text.length)) cs:=λm e1 e2 e3 e4 e5 e6 e9=>by
  refine base _ e1 e2 e5 ?_ (λq=>.inr ?_) e9
  ·show 0<=(if m.en<0 then((off:Nat):Int)else m.st)
   split
   ·omega
   ·rw[e3];exact st
  ·show(0:Int)<=((off:Nat):Int)+c.text.length/\(a:Int)<=(if m.en<0 then((off:Nat):Int)else m.st)/\(if m.en<0 then((off:Nat):Int)else m.st)<((off+c.text.length:Nat):Int)/\(if m.en<0 then((off:Nat):Int)else m.st)∉eM n.kids
   split
   ·rename_i q2;have:0<c.text.length:=List.length_pos_iff.2 (e6 q (by rw[<-e4];exact q2));exact⟨z8,z8,z8,hnot _ (Int.le_refl _)⟩
   ·rename_i q2;rw[e3];rcases i7 q with⟨h1,_⟩| ⟨h1,h2,h3,h4⟩
    ·rw[e4]at q2;exact absurd h1 q2
    ·exact⟨z8,h2,z8,h4⟩
 have hd7:n.kind=7->n.en<0->rK c.kind=false->c.text≠ []:=λq q2 q3=>by
  rcases i7 q with⟨_,_,h3⟩| ⟨h1,_⟩
  ·rw[tY,if_neg (by rw[q3];simp)]at h3;simp only[aQd,aQe,decide_eq_false_iff_not]at h3;exact h3.1.2
  ·omega
 have hd7t:n.kind=7->n.en<0->rK c.kind=true->n.kids= []/\tY cs=true:=λq q2 q3=>by
  rcases i7 q with⟨_,h2,h3⟩| ⟨h1,_⟩
  ·rw[tY,if_pos q3]at h3;exact⟨h2,h3⟩
  ·omega
 have triv:rK c.kind=true->KI a (off+c.text.length) n cs:=λq3=>base n rfl rfl (.inl rfl) st (λq=>by
  rcases i7 q with⟨h1,h2,h3⟩| ⟨h1,h2,h3,h4⟩
  ·exact .inl ⟨h1,hd7t q h1 q3⟩
  ·exact .inr ⟨h1,h2,z8,h4⟩) vl
 have kf:∀x:List UInt8,(dX n x).kids=n.kids/\(dX n x).kind=n.kind/\(dX n x).st=n.st/\(dX n x).en=n.en/\(dX n x).ns=n.ns:=λx=>by
  unfold dX;repeat' split
  all_goals exact⟨rfl,rfl,rfl,rfl,rfl⟩
 have hT:∀b:Int,c.kind≠101->c.kind≠102->rK c.kind=false:=λ_ h1 h2=>by simp[rK,h1,h2]
 unfold gJ;dsimp only
 split
 ·rename_i q;intro _;exact triv (by rw[rK,q];rfl)
 rename_i q1
 split
 ·rename_i q;intro _;exact triv (by rw[rK,q];simp)
 rename_i q2;have ht:rK c.kind=false:=hT 0 (by simpa using q1) (by simpa using q2)
 split
 ·split
  ·rename_i q4;have q4:c.text= []:=by simpa using q4
   intro _;refine base n rfl rfl (.inl rfl) st (λq=> ?_) vl;rcases i7 q with⟨h1,h2,h3⟩| ⟨h1,h2,h3,h4⟩
   ·exact absurd q4 (hd7 q h1 ht)
   ·exact .inr ⟨h1,h2,z8,h4⟩
  ·exact ext n rfl rfl rfl rfl (.inl rfl) λq q2=>hd7 q q2 ht
 split
 ·rename_i q3;have q3:c.kind=103:=by simpa using q3
  have hh:=hne103 q3;show KA (dE n c.text off).value=true->KI a (off+c.text.length) (eB (dE n c.text off) off _) cs;unfold dE
  split
  ·exact ext _ rfl rfl rfl rfl (.inr ⟨rfl,hh⟩) λ_ _=>hh
  ·exact ext _ rfl rfl rfl rfl (.inl rfl) λ_ _=>hh
 split
 ·split
  ·rename_i v _;exact ext (xC n v) rfl rfl rfl rfl (.inl rfl) λq q2=>hd7 q q2 ht
  ·exact ext (xC n 2147483647) rfl rfl rfl rfl (.inl rfl) λq q2=>hd7 q q2 ht
 split
 ·exact ext (VV n (yC c.text (off:Nat)).1) rfl rfl rfl rfl (.inl rfl) λq q2=>hd7 q q2 ht
 ·obtain⟨f1,f2,f3,f4,f5⟩:=kf c.text;exact ext (dX n c.text) f1 f2 f3 f4 (.inl f5) λq q2=>hd7 q q2 ht
theorem KI.kid{a off o1:Nat}{n m:Nd}{c:St}{cs:List St}(h:KI a off n (c::cs))(hc:c.kind<100)(g:GT off o1 m)(ho:off<=o1)(hok:JY n.kind m.kind=true):KI a o1 (lJ (eB n m.st m.en) m) cs:=by
 obtain⟨le,bd,nd,sh,vl,ns,st,i7⟩:=h;have hk:(lJ (eB n m.st m.en) m).kids=n.kids++ [m]:=rfl;have hs:eM (n.kids++ [m])=eM n.kids++nY m:=by rw[HI];simp[eM]
 have hx:∀x:Int,x<off->x∉eM n.kids->x∉eM (n.kids++ [m]):=λx hx h1 h2=>by
  rw[hs]at h2;rcases aRp.1 h2 with h2|h2
  ·exact h1 h2
  ·have:=g.bd x h2;omega
 refine⟨z8, ?_, ?_, ?_,vl, ?_, ?_,λq=>.inr ?_⟩
 ·rw[hk,hs];intro x hx;rcases aRp.1 hx with hx|hx
  ·have:=bd x hx;omega
  ·have:=g.bd x hx;omega
 ·rw[hk,hs,List.nodup_append];exact⟨nd,g.nd,λx hx y hy e=>by have:=bd x hx;have:=g.bd y hy;omega⟩
 ·rw[hk,DC,List.all_append,List.all_append,<-DC,sh.2];have h1:(List.all n.kids (λc=>JY (lJ (eB n m.st m.en) m).kind c.kind))=true:=sh.1;have h2:JY (lJ (eB n m.st m.en) m).kind m.kind=true:=hok;rw[h1];simp[h2,g.sh]
 ·show n.ns<0\/((a:Int)<=n.ns/\n.ns<o1/\n.ns∉eM (n.kids++ [m]));rcases ns with ns| ⟨n1,n2,n3⟩
  ·exact .inl ns
  ·exact .inr ⟨n1,z8,hx _ n2 n3⟩
 ·show 0<=(if n.en<0 then m.st else n.st)
  split
  ·exact g.st
  ·exact st
 ·rcases i7 q with⟨h1,h2,h3⟩| ⟨h1,h2,h3,h4⟩
  ·rw[tY,if_neg (by simp[rK];omega)]at h3;simp at h3;omega
  ·show 0<=m.en/\(a:Int)<=(if n.en<0 then m.st else n.st)/\(if n.en<0 then m.st else n.st)<o1/\(if n.en<0 then m.st else n.st)∉eM (n.kids++ [m]);rw[if_neg z8];exact⟨g.en,h2,z8,hx _ h3 h4⟩
theorem OD(t:St)(off:Nat)(n:Nd)(ds:List Dg):(gJ t off n ds).1.kind=n.kind:=by
 unfold gJ;dsimp only
 repeat' split
 all_goals first|rfl|exact(AD n t.text off).2.2|exact(EA n t.text).2.2
def NS(src:List UInt8)(t:St):Prop:=(∀x∈zP t,TkO x)->AQ t=true->t.kind<100->∀(off off':Nat) (ds ds':List Dg) (m:Nd),tC src t off ds=some (off',m,ds')->off<=off'/\GT off off' m/\(AY m.kind=true->m.kind=t.kind)/\(t.kind=1->m.kind=1)
theorem WN{k c:Int}(h:AY c=false):JY k c=true:=by
 unfold AY at h;simp only[Bool.or_eq_false_iff,decide_eq_false_iff_not]at h;unfold JY;rw[if_neg h.2,if_neg h.1.2,if_neg h.1.1]
theorem NX{src:List UInt8}:∀(ch:List St) (ih:∀c∈ch,NS src c) (hit:∀x∈vB ch,TkO x) (hok:∀c∈ch,AQ c=true) (a off:Nat) (n:Nd) (hp:∀c∈ch,JY n.kind c.kind=true) (ds:List Dg),KI a off n ch->∀(off':Nat) (m:Nd) (ds':List Dg),lH src ch off n ds=some (off',m,ds')->off<=off'/\KI a off' m []/\m.kind=n.kind
 | [],ih,hit,hok,a,off,n,hp,ds,h,off',m,ds',e=>by rw[lH]at e;cases e;exact⟨aQj _,h,rfl⟩
 |c::cs,ih,hit,hok,a,off,n,hp,ds,h,off',m,ds',e=>by
  rw[vB]at hit;have hit':∀x∈vB cs,TkO x:=λx hx=>hit x (aR9 _ hx);have hic:∀x∈zP c,TkO x:=λx hx=>hit x (aSa _ hx);have hi0:QS c.kind c.text:=by
   by_cases ht:c.text= []
   ·rw[ht];intro _ v hv;cases hv
   ·obtain⟨ck,ct,cc⟩:=c;exact(hic ⟨ck,ct⟩ (by have ht:¬ct= []:=ht;rw[zP,if_neg ht];simp)).2
  have ih':∀d∈cs,NS src d:=λd hd=>ih d (aSd _ hd);have hok':∀d∈cs,AQ d=true:=λd hd=>hok d (aSd _ hd);rw[sK]at e
  split at e
  ·rename_i q;have q:=of_decide_eq_true q
   split at e
   ·have hk:=OD c off n ds;obtain⟨h1,h2,h3⟩:=NX cs ih' hit' hok' a _ _ (λd hd=>by rw[hk];exact hp d (aSd _ hd)) _ (h.tok (ds:=ds) z8 (hok c (List.mem_cons_self ..)) hi0) off' m ds' e;exact⟨z8,h2,by rw[h3,hk]⟩
   ·cases e
  ·rename_i q;have q:c.kind<100:=by have:=of_decide_eq_false (by simpa using q:decide (c.kind>=100)=false);omega
   obtain⟨⟨o1,m1,d1⟩,e1,e⟩:=oB e
   split at e
   ·obtain⟨g1,g2,g3,_⟩:=ih c (List.mem_cons_self ..) hic (hok c (List.mem_cons_self ..)) q off o1 ds d1 m1 e1;have hcm:JY n.kind m1.kind=true:=by
     cases hs:AY m1.kind with
     |false=>exact WN hs
     |true=>rw[g3 hs];exact hp c (List.mem_cons_self ..)
    obtain⟨h1,h2,h3⟩:=NX cs ih' hit' hok' a o1 (lJ (eB n m1.st m1.en) m1) (λd hd=>hp d (aSd _ hd)) _ (h.kid q g2 g1 hcm) off' m ds' e;exact⟨z8,h2,h3⟩
   ·cases e
theorem wA{c:Nd}{s e:Int}(h:c.kind≠7):nY (fJ c s e)=nY c:=by
 obtain⟨k,v,t,s0,e0,n,us⟩:=c;have h:k≠7:=h;simp only[pU,fJ,Nd.kids,Nd.kind,Nd.value,Nd.text,Nd.ns,Nd.st,Nd.en,iS,mO,pN,h,decide_false,if_false];rfl
theorem HL(c:Nd)(s e:Int):shN (fJ c s e)=shN c:=by rw[BU,BU];rfl
theorem KI.done{a off:Nat}{n:Nd}(h:KI a off n [])(hh:n.kind=7->n.ns<0\/True):GT a off (fJ n n.st (max n.en n.st)):=by
 obtain⟨le,bd,nd,sh,vl,ns,st,i7⟩:=h;have hk:(fJ n n.st (max n.en n.st)).kids=n.kids:=rfl;have h7:n.kind=7->(a:Int)<=n.st/\n.st<off/\n.st∉eM n.kids:=λq=>by
  rcases i7 q with⟨_,_,h⟩| ⟨_,h⟩
  ·cases h
  ·exact h
 have hd:iS (fJ n n.st (max n.en n.st))=true->(a:Int)<=pN (fJ n n.st (max n.en n.st))/\pN (fJ n n.st (max n.en n.st))<off/\pN (fJ n n.st (max n.en n.st))∉eM n.kids:=λq=>by
  by_cases q7:n.kind=7
  ·rw[aM9 (n:=fJ n n.st _) q7];exact h7 q7
  ·have:=aA8 (n:=fJ n n.st _) q q7;rw[aKr (n:=fJ n n.st _) q7];rcases ns with h|h
   ·exact absurd h this
   ·exact h
 refine⟨?_, ?_, ?_,st,by show 0<=max n.en n.st;omega⟩
 ·intro x hx;rw[pU,hk]at hx;rcases aRp.1 hx with hx|hx
  ·split at hx
   ·rename_i q;rw[aRz]at hx;subst hx;exact⟨(hd q).1,(hd q).2.1⟩
   ·cases hx
  ·exact bd x hx
 ·rw[pU,hk]
  split
  ·rename_i q;rw[List.singleton_append,List.nodup_cons];exact⟨(hd q).2.2,nd⟩
  ·exact nd
 ·rw[BU,hk,aQd,aQd];exact⟨⟨sh.1,vl⟩,sh.2⟩
theorem aK7{src:List UInt8}{t:St}(ih:∀c∈t.ch,NS src c):NS src t:=by
 intro hit hok hlt off off' ds ds' m e;obtain⟨k,tx,ch⟩:=t;simp only[AQ,okN,BE,aQd,aRo]at hok;obtain⟨⟨⟨⟨hch,h60⟩,h7⟩,_⟩,hall⟩:=hok;have htx:tx= []:=Classical.byContradiction λh=>by
  have:=(hit ⟨k,tx⟩ (by rw[zP,if_neg h];simp)).1;have h2:k<100:=hlt;simp only at this;omega
 subst htx;have hit':∀x∈vB ch,TkO x:=λx hx=>hit x (by rw[zP,if_pos rfl];exact hx);rw[wE]at e;have e:(if ch.length<fE then(lH src ch off ⟨k,0,[],off, -1, -1,[]⟩ ds).bind λr=>(AV src (fJ r.2.1 r.2.1.st (max r.2.1.en r.2.1.st)) r.2.2).bind λm=>some (r.1,m.1,m.2)else none)=some (off',m,ds'):=e
 split at e
 ·obtain⟨⟨o1,n,d1⟩,e1,e⟩:=oB e;obtain⟨⟨m2,d2⟩,e2,e⟩:=oB e;cases e;have h0:KI off off (⟨k,0,[],off, -1, -1,[]⟩:Nd) ch:=⟨aQj _,λx hx=>(by cases hx),List.Pairwise.nil,⟨rfl,rfl⟩,rfl, .inl (show(-1:Int)<0 by decide),Int.natCast_nonneg _,λq=>.inl ⟨show(-1:Int)<0 by decide,rfl,by
   have q:k=7:=q;rcases(by simpa using h7:k≠7\/tY ch=true)with h|h
   ·exact absurd q h
   ·exact h⟩⟩
  obtain⟨f1,f2,f3⟩:=NX ch ih hit' hall off off (⟨k,0,[],off, -1, -1,[]⟩:Nd) hch ds h0 _ _ _ e1;have f3:n.kind=k:=f3;have G:=f2.done λ_=>.inr trivial;have e2:AV src (fJ n n.st (max n.en n.st)) d1=some (m2,d2):=e2;have hkn:(fJ n n.st (max n.en n.st)).kind=n.kind:=rfl;unfold AV at e2
  split at e2
  ·rename_i q;have q:n.kind=60:=by simpa[hkn]using q
   match hk:n.kids with
   | []=>rw[show(fJ n n.st (max n.en n.st)).kids= []from hk]at e2;cases e2
   |c::r=>
    rw[show(fJ n n.st (max n.en n.st)).kids=c::r from hk]at e2;dsimp only at e2;cases e2;have hcs:JY 60 c.kind=true:=by have:=f2.sh.1;rw[hk,aQc,aQd,q]at this;exact this.1
    have hns:AY c.kind=false:=by
     unfold JY at hcs;unfold AY
     split at hcs
     ·simp at hcs
     split at hcs
     ·simp at hcs
     split at hcs
     ·simp at hcs
     simp[*]
    have h7':c.kind≠7:=λh=>by rw[h]at hns;cases hns
    have hsc:∀x∈nY c,x∈eM n.kids:=λx hx=>by rw[hk,eM];exact aSa _ hx
    refine⟨f1,⟨?_, ?_, ?_,G.st,G.en⟩,λh=> ?_,λh=>by rw[<-f3,q]at h;cases h⟩
    ·rw[wA h7'];exact λx hx=>f2.bd x (hsc x hx)
    ·rw[wA h7'];have:=f2.nd;rw[hk,eM]at this;exact(List.nodup_append.1 this).1
    ·rw[HL];have:=f2.sh.2;rw[hk,BT,aQd]at this;exact this.1
    ·have h:AY c.kind=true:=h;rw[hns]at h;cases h
  ·split at e2
   ·rename_i q46;have q46:n.kind=46:=by simpa[hkn]using q46
    split at e2
    ·rename_i q;cases e2;refine⟨f1,⟨λx hx=> ?_, ?_,rfl,q.1,Int.le_trans q.1 q.2.1⟩,(λh=>by cases h),λh=> ?_⟩
     ·rw[pU]at hx;simp[iS,mO,Nd.kind,Nd.ns,Nd.kids,eM]at hx
     ·rw[pU];simp[iS,mO,Nd.kind,Nd.ns,Nd.kids,eM]
     ·have h:k=1:=h;rw[<-f3,q46]at h;cases h
    ·cases e2
   ·cases e2;exact⟨f1,G,λ_=>f3,λh=>by rw[<-h];exact f3⟩
 ·cases e
theorem QT(src:List UInt8):∀(k:Nat) (t:St),SizeOf.sizeOf t<k->NS src t
 |0,t,h=>z8
 |k+1,t,h=>aK7 λc hc=>QT src k c (by
  cases t with
  |mk kk tx ch=>
   have:=List.sizeOf_lt_of_mem (show c∈ch from hc);simp at h;omega)
theorem ZM{c:UInt8}{r:List UInt8}(hc:rZ c=true){v:Int}(h:yT (c::r)=some v):0<=v:=by
 have h45:¬c.toNat=45:=λq=>by
  have:c=45:=UInt8.toNat_inj.1 q;subst this;exact absurd hc z7
 unfold yT UN Lib.atoiAll at h;simp only[h45,or_false,not_false_eq_true,true_and,false_and,if_false]at h
 split at h
 ·rename_i w hw
  split at hw
  ·cases hw
  ·cases hw
  ·split at hw
   ·cases hw
   ·cases hw
    split at h
    ·cases h
    ·cases h;omega
 ·cases h
theorem QK{s:List UInt8}(h:(dL s).2=105):∃c r,s=c::r/\rZ c=true:=by
 cases s with
 |nil=>cases h
 |cons c r=>
  refine⟨c,r,rfl, ?_⟩;unfold dL at h;simp only at h
  split at h
  ·simp at h
  split at h
  ·simp at h
  split at h
  ·split at h<;>simp at h
  split at h
  ·assumption
  split at h
  ·split at h<;>simp at h
  split at h
  ·simp at h
  split at h<;>simp at h
theorem MG:∀(k:Nat) (s:List UInt8),s.length<=k->∀x∈toks s,TkO x
 |0,s,h=>by
  have:s= []:=List.length_eq_zero_iff.1 z8;subst this;rw[uH];exact λt h=>by cases h
 |k+1,s,h=>by
  by_cases hs:s= []
  ·subst hs;rw[uH];exact λt h=>by cases h
  ·have hb:=oJ hs;rw[zE hs];intro x hx;rcases aRs.1 hx with rfl|hx
   ·refine⟨AF hs,λh105 v hv=> ?_⟩;obtain⟨c,r,rfl,hc⟩:=QK h105;obtain⟨n,hn⟩:∃n,(dL (c::r)).1=n+1:=⟨(dL (c::r)).1-1,z8⟩;have hv:yT ((c::r).take (dL (c::r)).1)=some v:=hv;rw[hn,List.take_succ_cons]at hv;exact ZM hc hv
   ·exact MG k _ (by rw[aQ5];omega) x hx
theorem IB{s:List UInt8}(h:s.length<=2000):(∀x∈nY (fK s),0<=x)/\(nY (fK s)).Nodup/\shN (fK s)=true/\(fK s).kind=1:=by
 obtain⟨ch,e1,e2,e3,e4,e5⟩:=RK h;obtain⟨g1,g2,g3⟩:=aIr h;obtain⟨a1,a2,a3,a4⟩:=QT s _ (DD s) (aR3 _) (by rw[e2,zP,if_pos rfl,e3];exact MG _ s (aQj _)) (by rw[e2];exact e4) (by rw[e2];show(1:Int)<100;decide) 0 _ [] _ _ g1;have hk:(UO s).2.1.kind=1:=a4 (by rw[e2];rfl);have h7:(UO s).2.1.kind≠7:=by rw[hk];decide
 unfold fK;rw[wA h7,HL];exact⟨λx hx=>(a2.bd x hx).1,a2.nd,a2.sh,hk⟩
theorem OM{k:Int}(h:k≠11/\k≠13/\k≠14/\k≠15/\k≠16):QB k tV=0:=GO (by
 obtain⟨h1,h2,h3,h4,h5⟩:=h;simp[tV,Ne.symm h1,Ne.symm h2,Ne.symm h3,Ne.symm h4,Ne.symm h5])
theorem DX{n:Nd}{ps:List Nd}{lp:Bool}(h13:n.kind=13->lp=UC (MO ps)):mO n lp=jV n ps:=by
 unfold mO jV
 by_cases h7:n.kind=7
 ·simp[h7]
 by_cases hn:n.ns<0
 ·simp[h7,hn]
 simp only[h7,hn,decide_false,aQ9,if_false]
 by_cases hk:3<=n.kind/\n.kind<=9
 ·have:n.kind=3\/n.kind=4\/n.kind=5\/n.kind=6\/n.kind=8\/n.kind=9:=z8
  rcases this with h|h|h|h|h|h<;>simp[h]
 by_cases h11:n.kind=11
 ·simp[h11];rfl
 by_cases h14:n.kind=14
 ·simp[h14];rfl
 by_cases h15:n.kind=15
 ·simp[h15];rfl
 by_cases h16:n.kind=16
 ·simp[h16];rfl
 by_cases h44:n.kind=44
 ·simp[h44]
 by_cases h13':n.kind=13
 ·rw[h13 h13'];cases UC (MO ps)<;>simp[h13']<;>rfl
 have e1:n.kind≠3/\n.kind≠4/\n.kind≠5/\n.kind≠6/\n.kind≠8/\n.kind≠9:=z8
 obtain⟨e1,e2,e3,e4,e5,e6⟩:=e1;have e7:(decide (n.kind>=3)&&decide (n.kind<=9))=false:=by
  rw[Bool.and_eq_false_iff]
  by_cases h:n.kind<3
  ·left;simp;omega
  ·right;simp;omega
 rw[e7,OM ⟨h11,h13',h14,h15,h16⟩];simp[h11,h14,h15,h16,h44,h13',e1,e2,e3,e4,e5,e6]
def NQ(r:Int):Prop:=r=0\/(2<=r/\r<=14)
instance(r:Int):Decidable (NQ r):=by unfold NQ;infer_instance
theorem XS{c:Prop}[Decidable c]{a b:Int}(ha:NQ a)(hb:NQ b):NQ (if c then a else b):=by split<;>assumption
theorem TZ(n:Nd)(ps:List Nd):NQ (jV n ps):=by
 unfold jV
 repeat' first|with_reducible refine XS ?_ ?_|decide
theorem YO(n:Nd)(lp:Bool):NQ (mO n lp):=by
 have h:=DX (n:=n) (ps:= [(⟨if lp=true then 9 else 0,0,[],0,0,0,[]⟩:Nd)]) (lp:=lp) (λ_=>by cases lp<;>rfl);rw[h];exact TZ _ _
theorem YE(n:Nd)(lp:Bool):iS n= !decide (mO n lp=0):=by
 cases lp with
 |false=>rfl
 |true=>
  unfold iS mO
  by_cases h7:n.kind=7
  ·simp[h7]
  by_cases hn:n.ns<0
  ·simp[h7,hn]
  by_cases h13:n.kind=13
  ·simp[h13,hn];decide
  ·simp[h7,hn,h13]
theorem aLl{n:Nd}(h:KA n.value=true):NJ n=AM n:=by
 simp only[KA,aQd,decide_eq_true_eq]at h;unfold NJ AM;congr 1;obtain⟨k,hk⟩:=Int.eq_ofNat_of_zero_le h.1;rw[hk];rw[hk]at h;have h1:(BitVec.ofInt 64 (k:Int)).toNat=k:=by simp;omega
 unfold WV;rw[BitVec.toNat_and,h1,show(BitVec.ofInt 64 (1:Int)).toNat=1 from rfl,Nat.and_one_is_mod,aZ z8 z8];rw[Int.tmod_eq_emod_of_nonneg z8];rw[aRr];simp;omega
def aAs(n:Nd)(ps:List Nd)(lp:Bool):Prop:=(n.kind=13->lp=UC (MO ps))/\(n.kind=12->lp=UC (aA2 ps))
def RD(m mod:Int)(ss:List Sy)(ps:List Nd)(par:Int):Prop:=∀xs,mZ m mod (ss++xs) ps ps.length=par
def aCo(m:Int)(ss:List Sy)(l:List Int):Prop:=∀s∈ss,s.mod=m->s.st∉l
theorem HO(m mod:Int)(ss:List Sy)(ps:List Nd)(n:Nd):∀i,i<=ps.length->mZ m mod ss (ps++ [n]) i=mZ m mod ss ps i
 |0,_=>rfl
 |i+1,h=>by
  rw[mZ,mZ,HO m mod ss ps n i z8,List.take_append_of_le_length z8];simp only[aRb,aQt (show i<ps.length by omega)]
theorem GM(m mod:Int)(ss:List Sy)(ps:List Nd)(n:Nd):mZ m mod ss (ps++ [n]) (ps++ [n]).length=if uB (jV n ps)=true then mF (uD m (pN n)) ss else mZ m mod ss ps ps.length:=by
 rw[aRf,aQh,mZ,HO m mod ss ps n _ (aQj _),List.take_left' rfl];simp
theorem OZ{p:Sy->Bool}{a b:List Sy}{s:Sy}(ha:∀x∈a,p x=false)(hs:p s=true):mF p (a++ [s]++b)=(a.length:Int):=by
 have hi:a.length<(a++ [s]++b).length:=z6
 rw[pP hi (by simp[hs]) (by simp;exact λx hx=>by simpa using ha x hx)]
theorem aGe{m:Int}{n:Nd}{lp:Bool}{par:Int}{ss:List Sy}(h:mO n lp=0):kU m n lp par ss=ss/\tI n lp par ss=par:=by
 unfold kU tI;simp[h]
theorem aAs.kid{n c:Nd}{ps:List Nd}{lp:Bool}(h:aAs n ps lp)(hc:JY n.kind c.kind=true):aAs c (ps++ [n]) (lB n lp):=by
 unfold JY at hc;constructor
 ·intro h13;rw[if_pos h13]at hc;have h12:n.kind=12:=by simpa using hc
  have:lB n lp=lp:=by simp[lB,h12]
  rw[this,h.2 h12];unfold aA2 MO;rcases List.eq_nil_or_concat ps with rfl| ⟨qs,q,rfl⟩
  ·show UC 0=UC n.kind;rw[h12];rfl
  ·simp[aQt]
 ·intro h12;rw[if_neg z8,if_pos h12]at hc;have h12':n.kind≠12:=λq=>by rw[q]at hc;simp at hc
  unfold aA2;simp[lB,h12',UC]
def FY(m:Int)(l:List Int)(s:Sy):Prop:=s.mod=m/\s.st∈l/\2<=s.kind/\s.kind<=14
mutual
theorem SV(m mod:Int):∀(n:Nd) (ps:List Nd) (pa:List Int) (par:Int) (lp:Bool) (ss:List Sy),shN n=true->aAs n ps lp->RD m mod ss ps par->(nY n).Nodup->aCo m ss (nY n)->
  oK m n par lp ss=(iE n ps pa).foldl (oA m mod) ss/\∃new,oK m n par lp ss=ss++new/\∀s∈new,FY m (nY n) s
 | .mk k v t s e n us,ps,pa,par,lp,ss,hsh,hlp,hpar,hnd,hfr=>by
  have hN:(Nd.mk k v t s e n us).kids=us:=rfl;generalize hx:Nd.mk k v t s e n us=x at*;rw[BU,aQd,aQd,hN]at hsh;obtain⟨⟨hok,hvl⟩,hsh⟩:=hsh;rw[aRo]at hok;rw[pU,hN]at hnd hfr;have hD:=DX hlp.1;rw[RQ,IA,hN,List.foldl_cons];have hz:=YE x lp;have key:∀ss1 par1,ss1=kU m x lp par ss->par1=tI x lp par ss->oA m mod ss ⟨x,ps,pa⟩=ss1->RD m mod ss1 (ps++ [x]) par1->aCo m ss1 (eM us)->(∃new,ss1=ss++new/\∀s∈new,FY m (nY x) s)->(eM us).Nodup->
    gQ m us (tI x lp par ss) (lB x lp) (kU m x lp par ss)=(iP us (ps++ [x]) pa 0).foldl (oA m mod) (oA m mod ss ⟨x,ps,pa⟩)/\∃new,gQ m us (tI x lp par ss) (lB x lp) (kU m x lp par ss)=ss++new/\∀s∈new,FY m (nY x) s:=by
   intro ss1 par1 e1 e2 e3 h1 h2 h3 h4;rw[e3,<-e1,<-e2];obtain⟨a1,new,a2,a3⟩:=MS m mod us (ps++ [x]) pa 0 par1 (lB x lp) ss1 hsh (λc hc=>hlp.kid (hok c hc)) h1 h4 h2;obtain⟨new0,b1,b2⟩:=h3;refine⟨a1,new0++new,by rw[a2,b1,aR4],λs hs=> ?_⟩;rcases aRp.1 hs with hs|hs
   ·exact b2 s hs
   ·exact⟨(a3 s hs).1,by rw[pU,hN];exact aR9 _ (a3 s hs).2.1,(a3 s hs).2.2⟩
  by_cases h0:mO x lp=0
  ·obtain⟨z1,z2⟩:=aGe (m:=m) (par:=par) (ss:=ss) h0;have hb:iS x=false:=by rw[hz,h0];rfl
   rw[hb]at hnd hfr;simp only[aQ9,if_false,aRy]at hnd hfr;refine key ss par z1.symm z2.symm ?_ ?_ hfr ⟨[],z6,λs hs=>by cases hs⟩ hnd
   ·unfold oA;rw[if_pos (by rw[<-hD,h0];rfl)]
   ·intro xs;rw[GM,<-hD,h0];exact hpar xs
  ·have hb:iS x=true:=by rw[hz];simp[h0]
   rw[hb]at hnd hfr;simp only[if_true,List.singleton_append,List.nodup_cons]at hnd hfr;have ha:kU m x lp par ss=ss++ [uK m x lp par]:=by unfold kU;rw[if_neg (by simpa using h0)]
   have hpz:mZ m mod ss ps ps.length=par:=by have:=hpar [];rwa [aR0]at this
   have hsy:uK m x lp par=⟨jV x ps,m,pN x,mZ m mod ss ps ps.length,x.text,AM x⟩:=by unfold uK;rw[hD,hpz,aLl hvl]
   have hno:∀s∈ss,uD m (pN x) s=false:=λs hs=>by
    unfold uD
    by_cases hm:s.mod=m
    ·have:=hfr s hs hm;have:s.st≠pN x:=λe=>this (by rw[e];simp);simp[this]
    ·simp[hm]
   have hyes:uD m (pN x) (uK m x lp par)=true:=by simp[uD,uK]
   refine key _ _ rfl rfl ?_ ?_ ?_ ?_ hnd.2
   ·unfold oA;rw[if_neg (by rw[<-hD];simpa using h0),ha,hsy]
   ·intro xs;have hps:tI x lp par ss=if uB (mO x lp)=true then(ss.length:Int)else par:=by unfold tI;rw[if_neg (by simpa using h0)]
    rw[GM,<-hD,ha,hps]
    split
    ·rw[OZ hno hyes]
    ·rw[aR4];exact hpar _
   ·rw[ha];intro s hs hm;rcases aRp.1 hs with hs|hs
    ·exact λh=>hfr s hs hm (aSd _ h)
    ·rw[aRz]at hs;subst hs;exact hnd.1
   ·exact⟨[uK m x lp par],ha,λs hs=>by rw[aRz]at hs;subst hs;exact⟨rfl,by rw[pU,hb];simp[uK],(YO x lp).resolve_left h0⟩⟩
theorem MS(m mod:Int):∀(us:List Nd) (ps:List Nd) (pa:List Int) (i:Nat) (par:Int) (lp:Bool) (ss:List Sy),BT us=true->(∀c∈us,aAs c ps lp)->RD m mod ss ps par->(eM us).Nodup->aCo m ss (eM us)->
  gQ m us par lp ss=(iP us ps pa i).foldl (oA m mod) ss/\∃new,gQ m us par lp ss=ss++new/\∀s∈new,FY m (eM us) s
 | [],ps,pa,i,par,lp,ss,hsh,hlp,hpar,hnd,hfr=>⟨rfl,[],by rw[gQ];simp,λs hs=>by cases hs⟩
 |u::us,ps,pa,i,par,lp,ss,hsh,hlp,hpar,hnd,hfr=>by
  rw[BT,aQd]at hsh;rw[eM]at hnd hfr;rw[List.nodup_append]at hnd;obtain⟨n1,n2,n3⟩:=hnd;obtain⟨a1,new,a2,a3⟩:=SV m mod u ps (pa++ [(i:Int)]) par lp ss hsh.1 (hlp u z6) hpar n1 (λs hs hm h=>hfr s hs hm (aSa _ h));have hp2:RD m mod (oK m u par lp ss) ps par:=λxs=>by rw[a2,aR4];exact hpar _
  have hf2:aCo m (oK m u par lp ss) (eM us):=λs hs hm h=>by
   rw[a2]at hs;rcases aRp.1 hs with hs|hs
   ·exact hfr s hs hm (aR9 _ h)
   ·exact n3 _ (a3 s hs).2.1 _ h rfl
  obtain⟨b1,new2,b2,b3⟩:=MS m mod us ps pa (i+1) par lp (oK m u par lp ss) hsh.2 (λc hc=>hlp c (by simp[hc])) hp2 n2 hf2;rw[gQ,iP,List.foldl_append,<-a1];refine⟨b1,new++new2,by rw[b2,a2,aR4],λs hs=> ?_⟩;rw[eM];rcases aRp.1 hs with hs|hs
  ·exact⟨(a3 s hs).1,aSa _ (a3 s hs).2.1,(a3 s hs).2.2⟩
  ·exact⟨(b3 s hs).1,aR9 _ (b3 s hs).2.1,(b3 s hs).2.2⟩
end
structure NM(t:Nd):Prop where
 pos:∀x∈nY t,0<=x
 nd:(nY t).Nodup
 sh:shN t=true
 k1:t.kind=1
theorem HF{s:List UInt8}(h:s.length<=2000):NM (fK s):=⟨(IB h).1,(IB h).2.1,(IB h).2.2.1,(IB h).2.2.2⟩
theorem KO(ms:List Md):∀(ts:List Nd) (i:Nat) (ss:List Sy),(∀t∈ts,NM t)->(∀s∈ss,s.mod<(i:Int))->
  lY ms ts i ss=HZ ms ts i ss/\∃new,lY ms ts i ss=ss++new/\∀s∈new,∃(j:Nat) (h:j<ts.length),s.mod=((i+j:Nat):Int)/\(s.kind=1\/FY ((i+j:Nat):Int) (nY ts[j]) s)
 | [],i,ss,hg,hs=>⟨rfl,[],by rw[lY];simp,λs h=>by cases h⟩
 |t::ts,i,ss,hg,hs=>by
  have g:=hg t z6;have hm:(gG ms i).mod=(i:Int)/\(gG ms i).st= -1/\(gG ms i).kind=1:=⟨rfl,rfl,rfl⟩;obtain⟨a1,new,a2,a3⟩:=SV (i:Int) (ss.length:Int) t [] [] (ss.length:Int) false (ss++ [gG ms i]) g.sh
   ⟨(λh=>by rw[g.k1]at h;cases h),(λh=>by rw[g.k1]at h;cases h)⟩ (λxs=>rfl) g.nd (λs h e h2=>by
    rcases aRp.1 h with h|h
    ·have:=hs s h;omega
    ·rw[aRz]at h;subst h;have:=g.pos _ h2;rw[hm.2.1]at this;omega)
  have hs2:∀s∈oK (i:Int) t (ss.length:Int) false (ss++ [gG ms i]),s.mod<((i+1:Nat):Int):=λs h=>by
   rw[a2]at h;rcases aRp.1 h with h|h
   ·rcases aRp.1 h with h|h
    ·have:=hs s h;omega
    ·rw[aRz]at h;subst h;rw[hm.1];omega
   ·rw[(a3 s h).1];omega
  obtain⟨b1,new2,b2,b3⟩:=KO ms ts (i+1) _ (λu hu=>hg u (by simp[hu])) hs2;rw[lY,HZ,<-a1];refine⟨b1,gG ms i::(new++new2),by rw[b2,a2];simp,λs h=> ?_⟩;rcases aRs.1 h with rfl|h
  ·exact⟨0,z6,by rw[hm.1];simp, .inl hm.2.2⟩
  rcases aRp.1 h with h|h
  ·exact⟨0,z6,by rw[(a3 s h).1];simp, .inr (by simpa using a3 s h)⟩
  ·obtain⟨j,hj,c1,c2⟩:=b3 s h;refine⟨j+1,by simp;omega,by rw[c1];congr 1;omega, ?_⟩;rw[show i+(j+1)=i+1+j by omega];simpa using c2
structure aNv(n:Nd)(ps:List Nd)(pa:List Int):Prop where
 h13:n.kind=13->2<=ps.length
 h12:n.kind=12->1<=ps.length
 hl:ps.length+n.size<=1000000
 hp:pa.length=ps.length
 hi:∀i (h:i<ps.length),ps[i].kind=13->2<=i
mutual
theorem aEw:∀(n:Nd) (ps:List Nd) (pa:List Int),shN n=true->aNv n ps pa->∀a∈iE n ps pa,aBm a
 | .mk k v t s e n us,ps,pa,hsh,h,a,ha=>by
  have hN:(Nd.mk k v t s e n us).kids=us:=rfl;have hz:(Nd.mk k v t s e n us).size=1+aX us:=by rw[Nd.size]
  rw[iE]at ha;generalize hx:Nd.mk k v t s e n us=x at*;rw[BU,aQd,aQd,hN,aRo]at hsh;rcases aRs.1 ha with rfl|ha
  ·exact⟨h.h13,by have:=h.hl;show ps.length<=_;omega,h.hp,h.hi⟩
  ·refine ZY us (ps++ [x]) pa 0 hsh.2 (λc hc=> ?_) a ha;have hc2:=hsh.1.1 c hc;unfold JY at hc2;refine⟨λh13=> ?_,λh12=>z6,by have:=h.hl;simp;have:=kL hc;omega,by have:=h.hp;simp;omega,λi hi q=> ?_⟩
   ·rw[if_pos h13]at hc2;have h12:x.kind=12:=by simpa using hc2
    have:=h.h12 h12;simp;omega
   ·rw[aRf,aQh]at hi
    by_cases hi2:i<ps.length
    ·rw[List.getElem_append_left hi2]at q;exact h.hi i hi2 q
    ·obtain rfl:i=ps.length:=z8
     rw[List.getElem_append_right (aQj _)]at q;simp at q;exact h.h13 q
theorem ZY:∀(us:List Nd) (ps:List Nd) (pa:List Int) (i:Nat),BT us=true->(∀c∈us,aNv c ps (pa++ [0]))->∀a∈iP us ps pa i,aBm a
 | [],ps,pa,i,hsh,h,a,ha=>by cases ha
 |u::us,ps,pa,i,hsh,h,a,ha=>by
  rw[BT,aQd]at hsh;rw[iP]at ha;rcases aRp.1 ha with ha|ha
  ·have hu:=h u z6;exact aEw u ps (pa++ [(i:Int)]) hsh.1 ⟨hu.h13,hu.h12,hu.hl,by have:=hu.hp;simp at this⊢;exact this,hu.hi⟩ a ha
  ·exact ZY us ps pa (i+1) hsh.2 (λc hc=>h c (by simp[hc])) a ha
end
def NZ(src:List UInt8)(t:St):Prop:=∀(off off':Nat) (ds ds':List Dg) (m:Nd),tC src t off ds=some (off',m,ds')->m.size<=t.size
theorem size_eq(n:Nd):n.size=1+aX n.kids:=by cases n;simp only[Nd.size,Nd.kids]
theorem zJ:∀a b:List Nd,aX (a++b)=aX a+aX b
 | [],b=>by simp[aX]
 |u::a,b=>by simp only[aQf,aX,zJ a b];omega
theorem QC{src:List UInt8}:∀(ch:List St) (ih:∀c∈ch,NZ src c) (off:Nat) (n:Nd) (ds:List Dg) (off':Nat) (m:Nd) (ds':List Dg),lH src ch off n ds=some (off',m,ds')->aX m.kids<=aX n.kids+bV ch
 | [],ih,off,n,ds,off',m,ds',e=>by rw[lH]at e;cases e;simp[bV]
 |c::cs,ih,off,n,ds,off',m,ds',e=>by
  have ih':∀d∈cs,NZ src d:=λd hd=>ih d (aSd _ hd);rw[sK]at e;have hZ:bV (c::cs)=c.size+bV cs:=rfl
  split at e
  ·split at e
   ·have:=QC cs ih' _ _ _ _ _ _ e;rw[uX]at this;omega
   ·cases e
  ·obtain⟨⟨o1,m1,d1⟩,e1,e⟩:=oB e
   split at e
   ·have h1:=ih c (List.mem_cons_self ..) _ _ _ _ _ e1;have h2:=QC cs ih' _ _ _ _ _ _ e;rw[show(lJ (eB n m1.st m1.en) m1).kids=n.kids++ [m1]from rfl,zJ]at h2;simp only[aX]at h2;omega
   ·cases e
theorem aHu{src:List UInt8}{t:St}(ih:∀c∈t.ch,NZ src c):NZ src t:=by
 intro off off' ds ds' m e;obtain⟨k,tx,ch⟩:=t;rw[wE]at e;have e:(if ch.length<fE then(lH src ch off ⟨k,0,[],off, -1, -1,[]⟩ ds).bind λr=>(AV src (fJ r.2.1 r.2.1.st (max r.2.1.en r.2.1.st)) r.2.2).bind λm=>some (r.1,m.1,m.2)else none)=some (off',m,ds'):=e;have hsz:(St.mk k tx ch).size=1+bV ch:=by simp only[St.size]
 split at e
 ·obtain⟨⟨o1,n,d1⟩,e1,e⟩:=oB e;obtain⟨⟨m2,d2⟩,e2,e⟩:=oB e;cases e;have h1:=QC ch ih _ _ _ _ _ _ e1;have h1:aX n.kids<=0+bV ch:=h1;have e2:AV src (fJ n n.st (max n.en n.st)) d1=some (m2,d2):=e2;have hk:(fJ n n.st (max n.en n.st)).kids=n.kids:=rfl;unfold AV at e2;rw[hsz]
  split at e2
  ·rw[hk]at e2
   match hks:n.kids with
   | []=>rw[hks]at e2;cases e2
   |c::r=>
    rw[hks]at e2 h1;cases e2;simp only[aX]at h1;show(fJ c _ _).size<=_;rw[size_eq];show 1+aX c.kids<=_;have:=size_eq c;omega
  ·split at e2
   ·split at e2
    ·cases e2;show(Nd.mk 46 0 _ _ _ _ []).size<=_;simp[Nd.size,aX]
    ·cases e2
   ·cases e2;show(fJ n _ _).size<=_;rw[size_eq];show 1+aX n.kids<=_;omega
 ·cases e
theorem TB(src:List UInt8):∀(k:Nat) (t:St),SizeOf.sizeOf t<k->NZ src t
 |0,t,h=>z8
 |k+1,t,h=>aHu λc hc=>TB src k c (by
  cases t with
  |mk kk tx ch=>
   have:=List.sizeOf_lt_of_mem (show c∈ch from hc);simp at h;omega)
theorem VB{s:List UInt8}(h:s.length<=2000):(fK s).size<=2+300*s.length:=by
 obtain⟨ch,e1,e2,e3,e4,e5⟩:=RK h;obtain⟨g1,g2,g3⟩:=aIr h;have:(UO s).2.1.size<=(DD s).size:=TB s _ (DD s) (aR3 _) _ _ _ _ _ g1;have hz:(DD s).size=1+bV ch:=by rw[e2];simp only[St.size]
 have h2:(fK s).size=(UO s).2.1.size:=by unfold fK;rw[size_eq,size_eq];rfl
 omega
def zC(st:Int)(x:Nd):Bool:=iS x&&decide (pN x=st)
mutual
theorem vM(st:Int):∀(n:Nd) (ps:List Nd) (pa:List Int),lQ st n=((iE n ps pa).map At.node).find? (zC st)
 | .mk k v t s e n us,ps,pa=>by
  rw[lQ,iE,aRd,List.find?_cons];show(if zC st _=true then _ else _)=_
  split
  ·rename_i h;rw[h]
  ·rename_i h;rw[Bool.not_eq_true]at h;rw[h];exact zT st us _ pa 0
theorem zT(st:Int):∀(us:List Nd) (ps:List Nd) (pa:List Int) (i:Nat),gV st us=((iP us ps pa i).map At.node).find? (zC st)
 | [],ps,pa,i=>rfl
 |u::us,ps,pa,i=>by
  rw[gV,iP,aRt,List.find?_append,<-vM st u,<-zT st us];cases lQ st u<;>rfl
end
mutual
theorem yZ:∀(n:Nd) (ps:List Nd) (pa:List Int),nY n=(((iE n ps pa).map At.node).filter iS).map pN
 | .mk k v t s e n us,ps,pa=>by
  rw[nY,iE,aRd,List.filter_cons,DE us (ps++ [.mk k v t s e n us]) pa 0]
  split<;>rfl
theorem DE:∀(us:List Nd) (ps:List Nd) (pa:List Int) (i:Nat),eM us=(((iP us ps pa i).map At.node).filter iS).map pN
 | [],ps,pa,i=>rfl
 |u::us,ps,pa,i=>by
  rw[eM,iP,aRt,List.filter_append,aRt,<-yZ u,<-DE us]
end
def FA(st:Int)(d x:Nd):Nd:=if zC st x=true then x else d
theorem KT{st:Int}:∀(L:List Nd) (d:Nd),(∀x∈L,zC st x=false)->L.foldl (FA st) d=d
 | [],d,h=>rfl
 |x::L,d,h=>by
  rw[List.foldl_cons,show FA st d x=d by unfold FA;rw[if_neg (by rw[h x z6];simp)]];exact KT L d λy hy=>h y (by simp[hy])
theorem aAa{st:Int}:∀(L:List Nd) (d:Nd),((L.filter iS).map pN).Nodup->L.foldl (FA st) d=(L.find? (zC st)).getD d
 | [],d,h=>rfl
 |x::L,d,h=>by
  rw[List.foldl_cons,List.find?_cons];rw[List.filter_cons]at h;cases hx:zC st x with
  |true=>
   have hd:iS x=true:=by unfold zC at hx;simp only[aQd]at hx;exact hx.1
   have hs:pN x=st:=by unfold zC at hx;simp only[aQd,decide_eq_true_eq]at hx;exact hx.2
   rw[if_pos hd,aRd,List.nodup_cons]at h;rw[show FA st d x=x by unfold FA;rw[if_pos hx]];refine KT L x λy hy=> ?_;cases hy2:zC st y with
   |false=>rfl
   |true=>
    unfold zC at hy2;simp only[aQd,decide_eq_true_eq]at hy2;exact absurd (aRn.2 ⟨y,aRw.2 ⟨hy,hy2.1⟩,hy2.2.trans hs.symm⟩) h.1
  |false=>
   rw[show FA st d x=d by unfold FA;rw[if_neg (by rw[hx];simp)]];refine aAa L d ?_
   split at h
   ·rw[aRd,List.nodup_cons]at h;exact h.2
   ·exact h
def sX(st:Int)(d:Nd)(a:At):Nd:=if(!decide (jV a.node a.pars=0)&&decide (pN a.node=st))=true then a.node else d
theorem MN(st:Int):∀(l:List At) (d:Nd),l.foldl (sX st) d=(l.map At.node).foldl (FA st) d
 | [],d=>rfl
 |a::l,d=>by
  rw[List.foldl_cons,aRd,List.foldl_cons,<-MN st l];congr 1;unfold sX FA zC;rw[YE a.node (UC (MO a.pars)),DX (n:=a.node) (ps:=a.pars) (λ_=>rfl)]
theorem aBw{t d:Nd}{st:Int}(g:NM t)(h:st∈nY t):(iE t [] []).foldl (sX st) d=(JZ st t).1:=by
 rw[MN,aAa _ _ (by rw[<-yZ];exact g.nd),<-vM];unfold JZ;cases hf:lQ st t with
 |some x=>rfl
 |none=>
  rw[vM st t [] []]at hf;rw[yZ t [] []]at h;obtain⟨x,hx,rfl⟩:=aRn.1 h;rw[aRw]at hx;have:=List.find?_eq_none.1 hf x hx.1;simp[zC,hx.2]at this
set_option maxRecDepth 4000
theorem UY{ms:List Md}(h2k:∀m∈ms,m.src.length<=2000):HZ ms (cY ms) 0 bJ=dW ms/\∀(k:Nat) (h:k<(dW ms).length),(k<4/\(dW ms)[k].kind=15)\/(4<=k/\∃(j:Nat) (h:j<(cY ms).length),(dW ms)[k].mod=(j:Int)/\((dW ms)[k].kind=1\/FY (j:Int) (nY (cY ms)[j]) (dW ms)[k])):=by
 obtain⟨h1,new,h2,h3⟩:=KO ms (cY ms) 0 bJ (λt ht=>by
  unfold cY at ht;obtain⟨m,hm,rfl⟩:=aRn.1 ht;exact HF (h2k m hm)) (λs hs=>by
   unfold bJ at hs;simp only[aRs,aR2,or_false]at hs;rcases hs with rfl|rfl|rfl|rfl<;>decide)
 have e:dW ms=bJ++new:=h2;refine⟨h1.symm,λk hk=> ?_⟩;rcases aQi k 4 with h|h
 ·refine .inl ⟨h, ?_⟩;have:(dW ms)[k]=bJ[k]'h:=by simp only[e];exact List.getElem_append_left (show k<bJ.length from h)
  rw[this];have:k=0\/k=1\/k=2\/k=3:=z8
  rcases this with rfl|rfl|rfl|rfl<;>rfl
 ·refine .inr ⟨h, ?_⟩;have hk2:k<(bJ++new).length:=by rw[<-e];exact hk
  have:(dW ms)[k]∈new:=by
   simp only[e];rw[List.getElem_append_right (show bJ.length<=k from h)];exact aRh _
  obtain⟨j,hj,c1,c2⟩:=h3 _ this;rw[aRe]at c1 c2;exact⟨j,hj,c1,c2⟩
theorem aBy{H:aC}(hG:vE G0 H)(ms:List Md)(hl:ms.length<=maxLen)(hn:∀m∈ms,m.name.length<=maxLen):aL Tryz.prog 11 [.slice (ms.map Md.enc) .none] H λr H'=>r=aA (fC ms)/\H'=H:=by
 have h:=aD2 hG ms hl hn;rw[aBj]at h;exact h
mutual
theorem CZ(st:Int):∀(n x:Nd),lQ st n=some x->x.size<=n.size
 | .mk k v t s e n us,x,h=>by
  rw[lQ]at h
  split at h
  ·cases h;exact aQj _
  ·have:=AB st us x h;rw[Nd.size];omega
theorem AB(st:Int):∀(us:List Nd) (x:Nd),gV st us=some x->x.size<=aX us
 | [],x,h=>by cases h
 |u::us,x,h=>by
  rw[gV]at h;rw[aX]
  split at h
  ·rename_i y hy;cases h;have:=CZ st u x hy;omega
  ·have:=AB st us x h;omega
end
theorem aBl(st:Int)(n:Nd):(JZ st n).1.size<=n.size:=by
 unfold JZ;cases h:lQ st n with
 |some x=>exact CZ st n x h
 |none=>have:=size_eq n;show dN.size<=_;rw[show dN.size=1 from rfl];omega
mutual
theorem RO(m:Int):∀(n:Nd) (par:Int) (lp:Bool) (ss:List Sy),ss.length<=(oK m n par lp ss).length
 | .mk k v t s e n us,par,lp,ss=>by
  rw[oK];have:=NG m us (tI (.mk k v t s e n us) lp par ss) (lB (.mk k v t s e n us) lp) (kU m (.mk k v t s e n us) lp par ss);have h2:ss.length<=(kU m (.mk k v t s e n us) lp par ss).length:=by unfold kU;split<;>simp
  omega
theorem NG(m:Int):∀(us:List Nd) (par:Int) (lp:Bool) (ss:List Sy),ss.length<=(gQ m us par lp ss).length
 | [],par,lp,ss=>by rw[gQ];exact aQj _
 |u::us,par,lp,ss=>by
  rw[gQ];have:=RO m u par lp ss;have:=NG m us par lp (oK m u par lp ss);omega
end
theorem aCp(ms:List Md):4<=(dW ms).length:=by
 have:∀(ts:List Nd) (i:Nat) (ss:List Sy),ss.length<=(lY ms ts i ss).length:=λts=>by
  induction ts with
  |nil=>intro i ss;rw[lY];exact aQj _
  |cons t ts ih=>
   intro i ss;rw[lY];have h1:=ih (i+1) (oK (i:Int) t (ss.length:Int) false (ss++ [gG ms i]));have h2:=RO (i:Int) t (ss.length:Int) false (ss++ [gG ms i]);simp at h2;omega
 exact this (cY ms) 0 bJ
theorem aCx(ms:List Md):(AO ms).length<=3:=by unfold AO;rw[aQp,aQ6];omega
theorem HU{ms:List Md}:∀m∈AO ms,m.src.length<=250:=λm hm=>by
 unfold AO at hm;obtain⟨u,_,rfl⟩:=aRn.1 hm;simp only[aQ6];omega
theorem XF{ms:List Md}(h:∀m∈ms,m.name.length<=maxLen):∀m∈AO ms,m.name.length<=maxLen:=λm hm=>by
 unfold AO at hm;obtain⟨u,hu,rfl⟩:=aRn.1 hm;exact h u (List.mem_of_mem_take hu)
theorem MT{ms:List Md}:∀t∈cY (AO ms),t.size<=100000:=λt ht=>by
 unfold cY at ht;obtain⟨m,hm,rfl⟩:=aRn.1 ht;have h1:=HU m hm;have:=VB (s:=m.src) z8;omega
theorem aKs{ms:List Md}:∀t∈cY (AO ms),NM t/\∀a∈iE t [] [],aBm a:=λt ht=>by
 have hz:=MT t ht;unfold cY at ht;obtain⟨m,hm,rfl⟩:=aRn.1 ht;have h1:=HU m hm;have g:=HF (s:=m.src) z8;exact⟨g,aEw _ _ _ g.sh ⟨(λh=>by rw[g.k1]at h;cases h),(λh=>by rw[g.k1]at h;cases h),by simp;omega,rfl,λi h=>by simp at h⟩⟩
theorem law_sy{H0:aC}{e3 e4:Value}(hG:vE G0 H0)(hE:oD e3 e4 H0)(ms:List Md)(k m st:Int)(hl:ms.length<=maxLen)(hn:∀m∈ms,m.name.length<=maxLen)(hs:∀m∈ms,m.src.length<=maxLen):aL Tryz.prog 3 [.slice (ms.map Md.enc) .none,aA k,aA m,aA st] H0 λr H'=>r= .bool true/\Fr [] [] H0 H':=by
 have hem:maxLen=9223372036854775807:=z7
 obtain⟨fs,hfs⟩:∃fs,fs=AO ms:=⟨_,rfl⟩;have h3:fs.length<=3:=hfs▸aCx ms;have hfn:∀m∈fs,m.name.length<=maxLen:=hfs▸XF hn;have hf2:∀m∈fs,m.src.length<=2000:=λm hm=>by have:=(hfs▸HU:∀m∈fs,m.src.length<=250) m hm;omega
 have hfz:∀t∈cY fs,t.size<=100000:=hfs▸MT;have hfa:∀t∈cY fs,NM t/\∀a∈iE t [] [],aBm a:=hfs▸aKs;have hz:∀t∈cY fs,t.size<=1000000:=λt ht=>aQk (hfz t ht) z7;have htl:(cY fs).length=fs.length:=by unfold cY;rw[aQp]
 obtain⟨hrf,hat⟩:=UY hf2;have hM:∀s∈dW fs,s.kind≠15->∃i:Nat,i<fs.length/\s.mod=(i:Int):=λs hs h15=>by
  obtain⟨k,hk,rfl⟩:=List.mem_iff_getElem.1 hs;rcases hat k hk with⟨_,h⟩| ⟨_,j,hj,h,_⟩
  ·exact absurd h h15
  ·exact⟨j,z8,h⟩
 have hsl:=FU (ms:=fs) z8 hz;obtain⟨n0,c0,hnc⟩:∃n c,eJ fs k=(n,c):=⟨_,_,rfl⟩;have hno:=λH hG hE=>MR (H0:=H) (e3:=e3) (e4:=e4) hG hE fs z8 hfn hf2 hz hM k;have hro:=λH hG hE=>TT (H0:=H) (e3:=e3) (e4:=e4) hG hE fs z8 hfn hf2 hz hM k;rw[hnc]at hno hro;have hfew:=aNn ms hl hs;rw[<-hfs]at hfew;refine aF (N:=169) Tryz.func3 rfl rfl z6 λhb'=> ?_;refine jU ?_;refine wQ ?_;refine wR ?_;refine ZA0 aPc (aD1 hG hE) ?_;rintro _ H1 ⟨rfl,f1⟩;have hG1:vE G0 H1:=λk o h=>(f1.get (hG k o h) z6).1;have hE1:=hE.fr f1 z6 z6;refine VT ?_;refine wQ ?_;refine wF rfl (by simp only[jN,seval,aA,bM,bN,qZ,qM,qS,aRq]<;>with_reducible rfl) ?_;refine qK ?_;refine PI 1 ?_;refine ZP0 aO2 (hfew _) ?_;refine VT ?_;refine PI 1 ?_;refine ZA0 aOc (GW hG1 hE1 fs z8 hfn hf2 hz) ?_;rintro _ H2 ⟨rfl,f2⟩;have hG2:vE G0 H2:=λk o h=>(f2.get (hG1 k o h) z6).1;have hE2:=hE1.fr f2 z6 z6;refine VT ?_;refine PI 2 ?_;refine ZA0 aOh (hno _ hG2 hE2) ?_;rintro _ H3 ⟨rfl,f3⟩;have hG3:vE G0 H3:=λk o h=>(f3.get (hG2 k o h) z6).1;have hE3:=hE2.fr f3 z6 z6;have hb3:(H3++ [.row [.int .i64 n0.kind, .int .i64 n0.value, .str n0.text, .int .i64 n0.st, .int .i64 n0.en, .int .i64 n0.ns, .slice (n0.kids.map Nd.enc) .none]])[H3.length]? =some (.row [.int .i64 n0.kind, .int .i64 n0.value, .str n0.text, .int .i64 n0.st, .int .i64 n0.en, .int .i64 n0.ns, .slice (n0.kids.map Nd.enc) .none]):=z6
 refine ZX cW ?_;refine WG [0,1,2,3,9,10,11,12] ?_;refine PI 2 ?_;refine ZA0 aN8 (hro _ (hG3.app _) (hE3.app _)) ?_;rintro _ H4 ⟨rfl,f4⟩;have hG4:vE G0 H4:=λk o h=>(f4.get (hG3.app _ k o h) z6).1;have hE4:=(hE3.app _).fr f4 z6 z6;have hl4:=f4.len;simp only[aRf,aQ0,aR1]at hl4;have hz4:H4[H3.length]? =some (.row [.int .i64 n0.kind, .int .i64 n0.value, .str n0.text, .int .i64 n0.st, .int .i64 n0.en, .int .i64 n0.ns, .slice (n0.kids.map Nd.enc) .none]):=(f4.same _ z6 z6).trans z6;have F4:Fr [] [] H0 H4:=((f1.trans f2).trans f3).step f4;have gv:∀b,decide (fC fs=0)=b->(fC fs=0)=(b=true):=λb h=>by rw[<-h];simp
 refine ZX hz4 ?_;refine VF (a4 y3 KC cW hz4) ?_;refine wQ ?_;refine wF rfl (by simp only[jN,seval,aA,bM,bN,qZ,qM,qS,hz4,decide_true,aRq]<;>with_reducible rfl) ?_;refine qK ?_;refine ZL [0,1,2,3,9,10,11,12] hz4 ?_;refine ZT 1 hz4 ?_;refine ZP hz4 aN7 (aBy hG4 fs z8 hfn) ?_;refine ZX hz4 ?_;rcases Classical.em (fC fs=0)with hv|hv
 ·
  have hcm:BH fs=dW fs:=by unfold BH;rw[if_pos hv]
  have hsr:=NV fs (cY fs) z8 z8 λt ht=>⟨hfz t ht,(hfa t ht).2⟩;rw[hrf]at hsr;rw[hcm,hv];refine ZE (a2 KC hz4) ?_;refine wQ ?_;refine wF rfl (by simp only[jN,seval,aA,bM,bN,qZ,qM,qS,hz4,decide_true,aRq]<;>with_reducible rfl) ?_;refine qK ?_;refine ZT 1 hz4 ?_;refine ZA hz4 aOn (aD7 hG4 hE4 fs z8 hf2) ?_;rintro _ H5 ⟨ds5,rfl,f5⟩;have hz5:H5[H3.length]? =some (.row [.int .i64 n0.kind, .int .i64 n0.value, .str n0.text, .int .i64 n0.st, .int .i64 n0.en, .int .i64 n0.ns, .slice (n0.kids.map Nd.enc) .none]):=(f5.same _ z8 z6).trans hz4;have qz5:=aB hz5;have l5:=lG hz5;have F5:Fr [] [] H0 H5:=F4.trans f5;refine ZX (a3 hz4 hz5 qz5) ?_;refine ZT 2 (a3 hz4 hz5 qz5) ?_;refine ZP (a3 hz4 hz5 qz5) aNw (hsr _) ?_;refine ZX (a3 hz4 hz5 qz5) ?_;refine ZL [1,2,3,9,10,11,12,17,19] (a3 hz4 hz5 qz5) ?_;refine wQ ?_;refine wR ?_;refine bH ?_;refine ZgT 5 (a4 KC hz4 hz5 qz5) ?_;refine ZgP (a3 hz4 hz5 qz5) aN6 (λhc=>aNo (dW fs) z8 _) ?_;refine ZgT 6 (a3 hz4 hz5 qz5) ?_;refine ZgP (a3 hz4 hz5 qz5) aNl (λhc=>YP (dW fs) m st z8) ?_;refine ZgT 3 (a3 hz4 hz5 qz5) ?_;refine ZgP (a3 hz4 hz5 qz5) aFe (λhc=>SO (dW fs) m st z8 _) ?_;refine ZgX (a4 y3 hz4 hz5 qz5) ?_;refine wQ ?_;refine wF rfl (by simp only[jN,seval,aA,bM,bN,qZ,qM,qS,hz4,hz5,qz5,decide_true,aRq,aRm]<;>with_reducible rfl) ?_;refine qK ?_;refine ZL [1,11,12,17,19] (a3 hz4 hz5 qz5) ?_;have hcs:k<4\/(0<=k/\((dW fs).length:Int)<=k)\/∃j:Nat,4<=j/\j<(dW fs).length/\k=(j:Int):=by
   by_cases h:k<4
   ·exact .inl h
   ·by_cases h2:((dW fs).length:Int)<=k
    ·exact .inr (.inl ⟨z8,h2⟩)
    ·exact .inr (.inr ⟨k.toNat,z8,z8,z8⟩)
  rcases hcs with hk| ⟨hk,hk2⟩| ⟨j,h4j,hj,rfl⟩
  ·
   have k1:decide (k<4)=true:=decide_eq_true hk;have hn2:n0=dN/\c0=5:=by
    have:eJ fs k=(dN,5):=by
     unfold eJ;rw[if_pos hv]
     split
     ·rfl
     ·rename_i h0;cases hq:(dW fs)[k.toNat]? with
      |none=>rfl
      |some s=>
       obtain⟨hq1,hq2⟩:=List.getElem?_eq_some_iff.1 hq;rcases hat k.toNat hq1 with⟨_,h⟩| ⟨h,_⟩
       ·rw[hq2]at h;simp only;rw[if_pos h]
       ·omega
    rw[this]at hnc;cases hnc;exact⟨rfl,rfl⟩
   obtain⟨rfl,rfl⟩:=hn2;refine ZE (a5 y3 vS rS hz4 (a3 hz5 qz5 k1)) ?_;refine ZG (a4 hz4 hz5 qz5 k1) ?_;refine wQ ?_;refine wR ?_;refine bH ?_;refine lP 5 (by simp only[jG,jO,jN,seval,KC,cW,aA,bM,bN,qZ,qM,qS,hz4,hz5,qz5,k1,dN,decide_true]<;>with_reducible rfl) z7 ?_;refine gF (by simp only[kE,seval,aA,bM,bN,qZ,qM,qS,hz4,hz5,qz5,k1,dN,decide_true,dN]<;>with_reducible rfl) (by simp only[kE,seval,aA,bM,bN,qZ,qM,qS,hz4,hz5,qz5,k1,dN,decide_true,dN]<;>with_reducible rfl) (by simp only[kE,seval,aA,bM,bN,qZ,qM,qS,hz4,hz5,qz5,k1,dN,decide_true,dN]) z7 FF (λhc=>mC 1 dN (aQj _) z7 _) ?_;refine uJ (by simp only[jG,jO,jN,seval,aA,bM,bN,qZ,qM,qS,hz4,hz5,qz5,k1,dN,decide_true]<;>with_reducible rfl) z7 (by repeat (first|exact dI.base _|with_reducible apply dI.keep|apply dI.drop)) ?_;refine wQ ?_;refine wT ⟨.inr rfl,_,rfl, ?_⟩;exact⟨rfl,F5⟩
  ·
   have k0:decide (k<4)=false:=decide_eq_false (by have:=aCp fs;omega);have k2:decide (k>=((dW fs).length:Int))=true:=decide_eq_true hk2;have hn2:n0=dN/\c0=5:=by
    have:eJ fs k=(dN,5):=(by unfold eJ;rw[if_pos hv,if_neg z8,aQv z8]);rw[this]at hnc;cases hnc;exact⟨rfl,rfl⟩
   obtain⟨rfl,rfl⟩:=hn2;refine ZE (a5 y3 vS rS hz4 (a4 hz5 qz5 k0 k2)) ?_;refine ZG (a5 hz4 hz5 qz5 k0 k2) ?_;refine wQ ?_;refine wR ?_;refine bH ?_;refine lP 5 (by simp only[jG,jO,jN,seval,KC,cW,aA,bM,bN,qZ,qM,qS,hz4,hz5,qz5,k0,k2,aQp,dN,decide_true]<;>with_reducible rfl) z7 ?_;refine gF (by simp only[kE,seval,aA,bM,bN,qZ,qM,qS,hz4,hz5,qz5,k0,k2,aQp,dN,decide_true,dN]<;>with_reducible rfl) (by simp only[kE,seval,aA,bM,bN,qZ,qM,qS,hz4,hz5,qz5,k0,k2,aQp,dN,decide_true,dN]<;>with_reducible rfl) (by simp only[kE,seval,aA,bM,bN,qZ,qM,qS,hz4,hz5,qz5,k0,k2,aQp,dN,decide_true,dN]) z7 FF (λhc=>mC 1 dN (aQj _) z7 _) ?_;refine uJ (by simp only[jG,jO,jN,seval,aA,bM,bN,qZ,qM,qS,hz4,hz5,qz5,k0,k2,aQp,dN,decide_true]<;>with_reducible rfl) z7 (by repeat (first|exact dI.base _|with_reducible apply dI.keep|apply dI.drop)) ?_;refine wQ ?_;refine wT ⟨.inr rfl,_,rfl, ?_⟩;exact⟨rfl,F5⟩
  ·
   have k1:decide ((j:Int)<4)=false:=decide_eq_false z8;have k2:decide ((j:Int)>=((dW fs).length:Int))=false:=decide_eq_false z8;have gi:=bA hj;have ge:=bS Sy.enc hj;obtain⟨_,i,hi,hmi,hks⟩:=(hat j hj).resolve_left z8;have hgt:(dW fs)[((j:Nat):Int).toNat]? =some (dW fs)[j]:=by rw[tN];exact aRa hj
   have hgd:(cY fs).getD (dW fs)[j].mod.toNat dN=(cY fs)[i]:=by rw[hmi,tN,aRb,aRa hi];rfl
   have hmt:(cY fs)[i]∈cY fs:=aRh hi;have wi:=bA hi;have we:=bS Nd.enc hi;obtain⟨s,hs⟩:∃s,s=(dW fs)[j]:=⟨_,rfl⟩;rw[<-hs]at ge hmi hks hgt hgd;obtain⟨t,ht⟩:∃t,t=(cY fs)[i]:=⟨_,rfl⟩;rw[<-ht]at we hmt hks hgd;have hts:=hz t hmt;have hn1:s.kind≠15:=λq=>hks.elim (λh=>z8) (λh=>by have:=h.2.2.2;omega);have hn2:(n0,c0)=if s.kind=1 then(t,0)else((JZ s.st t).1,0):=by
    rw[<-hnc];unfold eJ;rw[if_pos hv,if_neg z8,hgt];simp only;rw[if_neg hn1,hgd]
   refine ZE (a5 y3 vS rS hz4 (a5 hz5 qz5 k1 k2 (a5 gi ge hmi wi we))) ?_;refine ZF (a5 hz4 hz5 qz5 k1 (a5 k2 gi ge hmi (a2 wi we))) ?_;refine qK ?_;refine ZE (a5 vS rS hz4 hz5 (a5 qz5 k1 k2 gi (a4 ge hmi wi we))) ?_;refine ZE (a5 y3 tT cW rS (a5 hz4 hz5 qz5 k1 (a5 k2 gi ge hmi (a2 wi we)))) ?_;refine ZL [11,12,17,20,21] (a5 hz4 hz5 qz5 k1 (a5 k2 gi ge hmi (a2 wi we))) ?_;refine ZE (a5 y3 rS hz4 hz5 (a5 qz5 k1 k2 gi (a4 ge hmi wi we))) ?_;refine ZI (a5 hz4 hz5 qz5 k1 (a5 k2 gi ge hmi (a2 wi we))) (λbt136=> ?_) (λbt136=> ?_)
   ·
    have hs1:s.kind≠1:=by simpa using bt136
    rw[if_neg hs1]at hn2;have hin:s.st∈nY t:=hks.elim (λh=>absurd h hs1) (λh=>h.2.1);obtain⟨hn3,rfl⟩:=Prod.mk.inj hn2;have hn0:n0.size<=1000000:=by rw[hn3];exact aQk (aBl _ _) hts
    have hpo:=BZ t hts;have hpl:=xW t [] [];refine ZT 5 (a5 y3 tT cW rS (a5 hz4 hz5 qz5 k1 (a5 k2 gi ge hmi (a2 wi we)))) ?_;refine ZP (a5 hz4 hz5 qz5 k1 (a5 k2 gi ge hmi (a2 wi we))) aEv (hpo _) ?_;refine ZX (a5 y46 AI hz4 hz5 (a5 qz5 k1 k2 gi (a4 ge hmi wi we))) ?_;refine qB ?_;refine cL (σ:=Nat×Nd) (λ(z:Nat×Nd)=> [(142, .slice ((iE t [] []).map At.enc) .none),(143,aA ((iE t [] []).length:Int)),(144,aA (z.1:Int)),(12,aA 0),(11, .optr H3.length 0),(20, .optr H5.length 0),(21, .optr (H5.length+1) 0)]) (λ(z:Nat×Nd)=>λH6=>z.1<=(iE t [] []).length/\z.2=((iE t [] []).take z.1).foldl (sX s.st) t/\H6[H3.length]? =some (.row [.int .i64 n0.kind, .int .i64 n0.value, .str n0.text, .int .i64 n0.st, .int .i64 n0.en, .int .i64 n0.ns, .slice (n0.kids.map Nd.enc) .none])/\H6[H5.length]? =some (.row [.int .i64 s.kind, .int .i64 s.mod, .int .i64 s.st, .int .i64 s.par, .str s.name, .bool s.pub])/\H6[H5.length+1]? =some (.row [.int .i64 z.2.kind, .int .i64 z.2.value, .str z.2.text, .int .i64 z.2.st, .int .i64 z.2.en, .int .i64 z.2.ns, .slice (z.2.kids.map Nd.enc) .none])/\Fr [] [] H0 H6) (λ(z:Nat×Nd)=>(iE t [] []).length -z.1) ((0,t)) (Zt (a5 hz4 hz5 qz5 k1 (a5 k2 gi ge hmi (a2 wi we)))) (⟨aRk _,z6,by rw[aQt (by have:=lG hz5;omega)];exact hz5,by simp[hmi],by simp[aQu],F5.app _⟩) ?_;intro z H6 hg;obtain⟨j2,d⟩:=z;obtain⟨hj2,hd,qz,qs,qd,F6⟩:=hg;simp only at hj2 hd qz qs qd F6;have l3:=lG qz;have l5:=lG qs;have l6:=lG qd;have nA:(H3.length=H6.length)=False:=by simp;omega
    have nB:(H5.length=H6.length)=False:=by simp;omega
    have nC:(H5.length+1=H6.length)=False:=by simp;omega
    have qzL:=aB qz;have qsL:=aB qs;have qdL:=aB qd;rcases aQi j2 (iE t [] []).length with hi2|hi2
    ·
     have gi:=bA hi2;have ge:=bS At.enc hi2;have gl:decide ((j2:Int)<((iE t [] []).length:Int))=true:=decide_eq_true z8;have gwj:IntKind.i64.wrap ((j2:Int)+1)=((j2+1:Nat):Int):=by rw[aZ z8 z8];omega
     have hao:=(hfa t hmt).2 _ (aRh hi2);have htk:((iE t [] []).take (j2+1)).foldl (sX s.st) t=sX s.st d (iE t [] [])[j2]:=by rw[List.take_succ_eq_append_getElem hi2,List.foldl_append,<-hd];rfl
     obtain⟨a,ha⟩:∃a,a=(iE t [] [])[j2]:=⟨_,rfl⟩;rw[<-ha]at ge hao htk;refine ZE (a5 y3 hz4 hz5 qz5 (a5 k1 k2 gi ge (a5 hmi wi we qz (a5 qs qd qzL qsL (a5 qdL nA nB nC (a2 gl gwj)))))) ?_;refine ZG (a5 hz4 hz5 qz5 k1 (a5 k2 gi ge hmi (a5 wi we qz qs (a5 qd qzL qsL qdL (a5 nA nB nC gl gwj))))) ?_;refine qK ?_;refine qB ?_;refine ZE (a5 y46 AI hz4 hz5 (a5 qz5 k1 k2 gi (a5 ge hmi wi we (a5 qz qs qd qzL (a5 qsL qdL nA nB (a3 nC gl gwj)))))) ?_;refine wQ ?_;refine eA (by kernel_rfl) ?_;refine ZpT 1 (a5 AI hz4 hz5 qz5 (a5 k1 k2 gi ge (a5 hmi wi we qz (a5 qs qd qzL qsL (a5 qdL nA nB nC (a2 gl gwj)))))) ?_;refine ZpK (a5 hz4 hz5 qz5 k1 (a5 k2 gi ge hmi (a5 wi we qz qs (a5 qd qzL qsL qdL (a5 nA nB nC gl gwj))))) aAb (λhc=>vY a.node a.pars a.path hao.h13 hao.hl _) ?_;refine ZpT 4 (a5 y3 cW AI hz4 (a5 hz5 qz5 k1 k2 (a5 gi ge hmi wi (a5 we qz qs qd (a5 qzL qsL qdL nA (a4 nB nC gl gwj)))))) ?_;refine ZpK (a5 hz4 hz5 qz5 k1 (a5 k2 gi ge hmi (a5 wi we qz qs (a5 qd qzL qsL qdL (a5 nA nB nC gl gwj))))) SA (λhc=>pW a.node _) ?_;refine ZpX (a5 y3 rS hz4 hz5 (a5 qz5 k1 k2 gi (a5 ge hmi wi we (a5 qz qs qd qzL (a5 qsL qdL nA nB (a3 nC gl gwj)))))) ?_;refine ZI (a5 hz4 hz5 qz5 k1 (a5 k2 gi ge hmi (a5 wi we qz qs (a5 qd qzL qsL qdL (a5 nA nB nC gl gwj))))) (λbt158=> ?_) (λbt158=> ?_)
     ·
      have hlr:sX s.st d a=a.node:=by unfold sX;rw[if_pos (by first|exact bt158| (revert bt158;cases decide (jV a.node a.pars=0)<;>simp))]
      refine ZL [11,12,20,21,23,142,143,144] (a5 hz4 hz5 qz5 k1 (a5 k2 gi ge hmi (a5 wi we qz qs (a5 qd qzL qsL qdL (a5 nA nB nC gl gwj))))) ?_;refine ZE (a5 cW AI hz4 hz5 (a5 qz5 k1 k2 gi (a5 ge hmi wi we (a5 qz qs qd qzL (a5 qsL qdL nA nB (a3 nC gl gwj)))))) ?_;refine ZE (a5 y3 hz4 hz5 qz5 (a5 k1 k2 gi ge (a5 hmi wi we qz (a5 qs qd qzL qsL (a5 qdL nA nB nC (a2 gl gwj)))))) ?_
      try simp only[aY,aT]
      refine⟨(j2+1,sX s.st d a),by show(iE t [] []).length - (j2+1)<(iE t [] []).length -j2;omega,ZV,hi2,htk.symm, ?_⟩;rw[hlr]
      first
       |exact⟨qzL _,qsL _,qdL _,F6.app _⟩
       |exact⟨by rw[aQy z8];exact qzL _,by rw[aQy z8];exact qsL _,aQx (by simp;omega),(F6.app _).setN (by have:=F5.len;omega)⟩
     ·
      have hlr:sX s.st d a=d:=by unfold sX;rw[if_neg (by first| (rw[bt158];simp)| (revert bt158;cases decide (jV a.node a.pars=0)<;>simp))]
      refine qK ?_;refine ZL [11,12,20,21,142,143,144] (a5 hz4 hz5 qz5 k1 (a5 k2 gi ge hmi (a5 wi we qz qs (a5 qd qzL qsL qdL (a5 nA nB nC gl gwj))))) ?_;refine ZE (a5 y3 hz4 hz5 qz5 (a5 k1 k2 gi ge (a5 hmi wi we qz (a5 qs qd qzL qsL (a5 qdL nA nB nC (a2 gl gwj)))))) ?_
      try simp only[aY,aT]
      refine⟨(j2+1,sX s.st d a),by show(iE t [] []).length - (j2+1)<(iE t [] []).length -j2;omega,ZV,hi2,htk.symm, ?_⟩;rw[hlr]
      first
       |exact⟨qzL _,qsL _,qdL _,F6.app _⟩
       |exact⟨by rw[aQy z8];exact qzL _,by rw[aQy z8];exact qsL _,aQx (by simp;omega),(F6.app _).setN (by have:=F5.len;omega)⟩
    ·
     have gl:decide ((j2:Int)<((iE t [] []).length:Int))=false:=decide_eq_false z8;rw[aR8 hi2,aBw (hfa t hmt).1 hin]at hd;obtain rfl:n0=d:=by rw[hd];exact hn3
     refine ZE (a5 y3 hz4 hz5 qz5 (a5 k1 k2 gi ge (a5 hmi wi we qz (a5 qs qd qzL qsL (a5 qdL nA nB nC gl))))) ?_;refine ZF (a5 hz4 hz5 qz5 k1 (a5 k2 gi ge hmi (a5 wi we qz qs (a5 qd qzL qsL qdL (a4 nA nB nC gl))))) ?_;refine wQ ?_;refine bG ?_;simp only[aY,aT,reduceIte,Nat.reduceEqDiff,aR5,if_true,if_false];refine wQ ?_;refine wR ?_;refine bH ?_;refine ZgT 5 (a5 KC cW hz4 hz5 (a5 qz5 k1 k2 gi (a5 ge hmi wi we (a5 qz qs qd qzL (a5 qsL qdL nA nB (a2 nC gl)))))) ?_;refine ZgP (a5 hz4 hz5 qz5 k1 (a5 k2 gi ge hmi (a5 wi we qz qs (a5 qd qzL qsL qdL (a4 nA nB nC gl))))) FF (λhc=>mC n0.size n0 (aQj _) hn0 _) ?_;refine ZgX (a5 hz4 hz5 qz5 k1 (a5 k2 gi ge hmi (a5 wi we qz qs (a5 qd qzL qsL qdL (a4 nA nB nC gl))))) ?_;refine wQ ?_;refine wT ⟨.inr rfl,_,rfl, ?_⟩;exact⟨rfl,F6⟩
   ·
    have hs1:s.kind=1:=by simpa using bt136
    rw[if_pos hs1]at hn2;have hn2:=Prod.mk.inj hn2;obtain⟨rfl,rfl⟩:=hn2;have hn0:=hts;refine qK ?_;refine wQ ?_;refine wR ?_;refine bH ?_;refine ZgT 5 (a5 KC cW hz4 hz5 (a5 qz5 k1 k2 gi (a4 ge hmi wi we))) ?_;refine ZgP (a5 hz4 hz5 qz5 k1 (a5 k2 gi ge hmi (a2 wi we))) FF (λhc=>mC n0.size n0 (aQj _) hn0 _) ?_;refine ZgX (a5 hz4 hz5 qz5 k1 (a5 k2 gi ge hmi (a2 wi we))) ?_;refine wQ ?_;refine wT ⟨.inr rfl,_,rfl, ?_⟩;exact⟨rfl,(F5.app _)⟩
 ·
  have hcm:BH fs= []:=by unfold BH;rw[if_neg hv]
  have gz:decide (fC fs=0)=false:=decide_eq_false hv;have hn2:n0=dN/\c0=fC fs:=by unfold eJ at hnc;rw[if_neg hv]at hnc;cases hnc;exact⟨rfl,rfl⟩
  obtain⟨rfl,rfl⟩:=hn2;rw[hcm];refine ZE (a3 KC hz4 gz) ?_;refine wQ ?_;refine bP rfl (by simp only[jN,seval,aA,bM,bN,qZ,qM,qS,hz4,gz,aRm]<;>with_reducible rfl) ?_;refine wQ ?_;refine wR ?_;refine bH ?_;refine lP 16 (by simp only[jG,jO,jN,seval,y3,vS,KC,cW,rS,aA,bM,bN,qZ,qM,qS,hz4,gz,dN]<;>with_reducible rfl) z7 ?_;refine gF (by simp only[kE,seval,aA,bM,bN,qZ,qM,qS,hz4,gz,dN,dN]<;>with_reducible rfl) (by simp only[kE,seval,aA,bM,bN,qZ,qM,qS,hz4,gz,dN,dN]<;>with_reducible rfl) (by simp only[kE,seval,aA,bM,bN,qZ,qM,qS,hz4,gz,dN,dN]) z7 FF (λhc=>mC 1 dN (aQj _) z7 _) ?_;refine uJ (by simp only[jG,jO,jN,seval,aA,bM,bN,qZ,qM,qS,hz4,gz,dN]<;>with_reducible rfl) z7 (by repeat (first|exact dI.base _|with_reducible apply dI.keep|apply dI.drop)) ?_;refine wQ ?_;refine wT ⟨.inr rfl,_,rfl, ?_⟩;exact⟨rfl,F4⟩
def env0(W:World):aE:= {w:=W,κ:=λ_=>.fixed,ρ:=λ_=>0,tb:=λ_=>none,H:= []}
theorem WA(W:World)(a:Addr):(env0 W).view.cell a=W.cell? a:=rfl
def RLl(V:cQ)(cs:List Value)(ps:List PV):Prop:=cs.length=ps.length/\∀i (h:i<ps.length),aM V (cs.getD i undef) ps[i]
theorem RLl.nil{V:cQ}:RLl V [] []:=⟨rfl,λi h=>by cases h⟩
theorem RLl.cons{V:cQ}{c:Value}{cs:List Value}{p:PV}{ps:List PV}(h:aM V c p)(hs:RLl V cs ps):RLl V (c::cs) (p::ps):=by
 refine⟨by simp[hs.1],λi hi=> ?_⟩;cases i with
 |zero=>exact h
 |succ i=>exact hs.2 i (by simpa using hi)
theorem RLl.app{V:cQ}{c1 c2:List Value}{p1 p2:List PV}(h1:RLl V c1 p1)(h2:RLl V c2 p2):RLl V (c1++c2) (p1++p2):=by
 refine⟨by simp[h1.1,h2.1],λi hi=> ?_⟩
 by_cases h:i<p1.length
 ·have:=h1.2 i h;simp only[aRb]at this⊢;rw[aQt (by rw[h1.1];exact h),List.getElem_append_left h];exact this
 ·have:=h2.2 (i-p1.length) (by simp at hi;omega);simp only[aRb]at this⊢;rw[aQu (by rw[h1.1];omega),List.getElem_append_right z8,h1.1];exact this
theorem RLl.agg{V:cQ}{arr:Array Value}{ps:List PV}(h:RLl V arr.toList ps):aM V (.agg arr) (.agg ps):=by
 refine .agg _ _ (by have:=h.1;simpa using this) λi hi=> ?_;have:=h.2 i hi;rw[aRb,aRc]at this;rw[aQm];exact this
theorem RLl.one{V:cQ}{v:Value}{p:PV}(h:RLl V [v] [p]):aM V v p:=h.2 0 z6
theorem LH{α:Type}{n:Nat}{p:Nat->α->Prop}(h:∀i,i<n->∃a,p i a):∃xs:List α,xs.length=n/\∀i (hi:i<xs.length),p i xs[i]:=by
 induction n with
 |zero=>exact⟨[],rfl,λi hi=>by cases hi⟩
 |succ n ih=>
  obtain⟨xs,h1,h2⟩:=ih λi hi=>h i z8;obtain⟨a,ha⟩:=h n z8;refine⟨xs++ [a],by simp[h1],λi hi=> ?_⟩
  by_cases hlt:i<xs.length
  ·rw[List.getElem_append_left hlt];exact h2 i hlt
  ·rw[List.getElem_append_right z8];simp at hi;obtain rfl:i=n:=z8
   simpa using ha
def SlD{α:Type}{H:Type}(D:α->DataW H->Prop)(xs:List α)(d:DataW H):Prop:=
 (xs= []/\d= .nil)\/∃els sp,d= .slice els sp/\xs.length=els.length/\∀i (h1:i<xs.length) (h2:i<els.length),D xs[i] els[i]
section
variable{H:Type}{enc:TypeId×Value->H}{P:Program}{W:World}{spare:Nat->Bool}{held:Bool}
theorem rd_slice{α:Type}(en:α->PV)(D:α->DataW H->Prop){t e:TypeId}{fuel:Nat}{cs:List Value}{x:DataW H×List MemPlace}(ht:P.underlying t=some (.slice e))(hsz:∀a,(en a).cells.length=P.cellsOf e)
  (h:DataW.trod enc P W 0 spare held fuel t cs=some x) (ih:∀n cs' x',n<fuel->DataW.trod enc P W 0 spare held n e cs'=some x'->∃a,RLl (env0 W).view cs' (en a).cells/\D a x'.1):
  ∃(xs:List α) (v:Value),cs= [v]/\aM (env0 W).view v (.slice (xs.map en) .none)/\SlD D xs x.1:=by
 rcases DataW.trod_slice ht h with⟨rfl,rfl⟩| ⟨a,len,cap,elems,rest,n,rfl,rfl,rfl,hb,hl,hm,hlen,hel,_,_⟩
 ·exact⟨[],_,rfl, .nils .none trivial, .inl ⟨rfl,rfl⟩⟩
 ·obtain⟨ys,hys,hp⟩:=LH (α:=α×List Value) (n:=len) (p:=λi y=>W.cells? 0 (a.add (i*P.cellsOf e)) (P.cellsOf e)=some y.2/\RLl (env0 W).view y.2 (en y.1).cells/\∀h:i<elems.length,D y.1 elems[i].1) (λi hi=>by
   have:=hel i hi;rw[aRa z8]at this;obtain⟨cs',h1,h2⟩:=oB this;obtain⟨y,h3,h4⟩:=ih n cs' _ z8 h2;exact⟨(y,cs'),h1,h3,λ_=>h4⟩)
  refine⟨ys.map (·.1),_,rfl, ?_, .inr ⟨_,_,rfl,by simp[hys,hlen],λi h1 h2=> ?_⟩⟩
  ·have hget:∀i (hi:i<ys.length),ys[i]? =some ys[i]:=λi hi=>aRa hi;refine .slice a len cap (P.cellsOf e) _ .none (λi j=>match ys[i]? with|some y=>y.2.getD j undef|none=>undef) (by simp[hys]) hl hm ?_ ?_ ?_ trivial
   ·intro i hi;simp only[aQg];exact hsz _
   ·intro i j hi hj;have hi':i<ys.length:=z8
    obtain⟨h1,h2,_⟩:=hp i hi';obtain⟨_,h4,h5⟩:=World.cells?_some h1;have:=h5 j hj;rw[hget i hi'];simp only;rw[WA,<-AX,this,aRb,aRa z8];rfl
   ·intro i j hi hj;have hi':i<ys.length:=by simpa using hi
    simp only[aQg]at hj⊢;rw[hget i hi'];exact(hp i hi').2.1.2 j hj
  ·simp only[aQg];exact(hp i (by simpa using h1)).2.2 _
theorem GS{t:TypeId}{fs:Array Field}{fuel:Nat}{cs:List Value}{x:DataW H×List MemPlace}(ht:P.underlying t=some (.struct fs))(h:DataW.trod enc P W 0 spare held fuel t cs=some x):
  ∃(ds:List (DataW H)) (n:Nat),fuel=n+1/\x.1= .agg ds/\cs.length=P.cellsOf t/\ds.length=fs.size/\∀(i:Nat) (f:Field),fs[i]? =some f->∃d ps,ds[i]? =some d/\DataW.trod enc P W 0 spare held n f.type ((cs.drop f.offset).take (P.cellsOf f.type))=some (d,ps):=by
 obtain⟨xs,n,h1,rfl,h3,h4,h5⟩:=DataW.trod_struct ht h;refine⟨xs.map (·.1),n,h1,rfl,h3,by simpa using h4,λi f hf=> ?_⟩;have hi:i<xs.length:=by
  rw[h4];rcases aQi i fs.size with hl|hl
  ·exact hl
  ·rw[Array.getElem?_eq_none hl]at hf;cases hf
 have:=h5 i f hf;rw[aRa hi]at this;exact⟨xs[i].1,xs[i].2,by simp[hi],this⟩
theorem rd_int{t:TypeId}{k:IntKind}{fuel:Nat}{cs:List Value}{x:DataW H×List MemPlace}(ht:P.underlying t=some (.int k))(h:DataW.trod enc P W 0 spare held fuel t cs=some x):∃n,RLl (env0 W).view cs [.int k n]/\x.1= .lit (.int k n)/\(Lit.int k n).wf=true/\cs= [.int k n]:=by
 obtain⟨n,rfl,rfl,h3⟩:=DataW.trod_int ht h;exact⟨n, .cons (.int _ _) .nil,rfl,h3,rfl⟩
theorem rd_string{t:TypeId}{fuel:Nat}{cs:List Value}{x:DataW H×List MemPlace}(ht:P.underlying t=some .string)(h:DataW.trod enc P W 0 spare held fuel t cs=some x):∃s:List UInt8,RLl (env0 W).view cs [.str s]/\x.1= .lit (.string s)/\s.length<=maxLen:=by
 obtain⟨s,rfl,rfl,h3⟩:=DataW.trod_string ht h;exact⟨s.data.toList, .cons (.str _) .nil,rfl,by simpa using h3⟩
end
inductive TyD{H:Type}:Ty->DataW H->Prop
 |nil (k i:Int):TyD (.mk k i []) (.agg [.lit (.int .i64 k), .lit (.int .i64 i), .nil])
 |slice (k i:Int) (xs:List Ty) (es sp:List (DataW H)) (hl:xs.length=es.length) (h:∀j (h1:j<xs.length) (h2:j<es.length),TyD xs[j] es[j]):TyD (.mk k i xs) (.agg [.lit (.int .i64 k), .lit (.int .i64 i), .slice es sp])
theorem TyD.of{H:Type}{k i:Int}{xs:List Ty}{d:DataW H}(h:SlD TyD xs d):TyD (.mk k i xs) (.agg [.lit (.int .i64 k), .lit (.int .i64 i),d]):=by
 rcases h with⟨rfl,rfl⟩| ⟨es,sp,rfl,h1,h2⟩
 ·exact .nil k i
 ·exact .slice k i xs es sp h1 h2
structure aOz(P:Program)(T S:TypeId):Prop where
 st:∃f0 f1 f2:Field,P.underlying T=some (.struct #[f0,f1,f2])/\P.underlying f0.type=some (.int .i64)/\P.underlying f1.type=some (.int .i64)/\f2.type=S/\f0.offset=0/\f1.offset=1/\f2.offset=2/\P.cellsOf f0.type=1/\P.cellsOf f1.type=1
 sl:P.underlying S=some (.slice T)
 c:P.cellsOf T=3
 cs:P.cellsOf S=1
 by40:P.bytesOf T=40
section
variable{H:Type}{enc:TypeId×Value->H}{P:Program}{W:World}{spare:Nat->Bool}{held:Bool}{T S:TypeId}
theorem rd_ty(F:aOz P T S):∀(fuel:Nat) (cs:List Value) (x:DataW H×List MemPlace),DataW.trod enc P W 0 spare held fuel T cs=some x->∃t:Ty,RLl (env0 W).view cs t.enc.cells/\TyD t x.1:=by
 intro fuel
 induction fuel using Nat.strongRecOn with
 |_ fuel ih=>
 intro cs x h;obtain⟨f0,f1,f2,hst,u0,u1,e2,o0,o1,o2,c0,c1⟩:=F.st;obtain⟨ds,n,rfl,hx,hlen,hdl,hf⟩:=GS hst h;rw[F.c]at hlen
 match cs,hlen with
 | [v0,v1,v2],_=>
 obtain⟨d0,p0,g0,r0⟩:=hf 0 f0 rfl;obtain⟨d1,p1,g1,r1⟩:=hf 1 f1 rfl;obtain⟨d2,p2,g2,r2⟩:=hf 2 f2 rfl;rw[o0,c0]at r0;rw[o1,c1]at r1;rw[o2,e2,F.cs]at r2;obtain⟨k,q0,rfl,w0,_⟩:=rd_int u0 r0;obtain⟨i,q1,rfl,w1,_⟩:=rd_int u1 r1;obtain⟨xs,v,hv,hr,hd⟩:=rd_slice Ty.enc TyD F.sl (λa=>by rw[F.c,Ty.enc_len]) r2 (λm cs' x' hm h'=>ih m z8 cs' x' h');simp only[List.drop_succ_cons,aSb,List.take_succ_cons,List.take_zero,List.cons.injEq,and_true]at hv;subst hv;refine⟨.mk k i xs, ?_, ?_⟩
 ·rw[Ty.enc_cells];exact .cons q0.one (.cons q1.one (.cons hr .nil))
 ·rw[hx];have:ds= [.lit (.int .i64 k), .lit (.int .i64 i),d2]:=by
   match ds,hdl with
   | [a,b,c],_=>
    simp at g0 g1 g2;rw[g0,g1,g2]
  rw[this];exact .of hd
theorem LE{l:List (DataW H)}{e:TypeId}{d:DataW H}(hd:d∈l)(h:(DataW.weightsAll P e l).all (· <=reachBytes)=true):(d.weights P e).all (· <=reachBytes)=true:=by
 rw[aRo]at h⊢;intro x hx;refine h x ?_;clear h
 induction l with
 |nil=>cases hd
 |cons a l ih=>
  simp only[DataW.weightsAll,aRp];rcases aRs.1 hd with rfl|hd
  ·exact .inl hx
  ·exact .inr (ih hd)
theorem sl_weights{α:Type}{D:α->DataW H->Prop}{Sl E:TypeId}(hs:P.underlying Sl=some (.slice E)){xs:List α}{d:DataW H}(h:SlD D xs d)(hw:(d.weights P Sl).all (· <=reachBytes)=true):
  xs.length*P.bytesOf E<=reachBytes/\∀a∈xs,∃d',D a d'/\(d'.weights P E).all (· <=reachBytes)=true:=by
 rcases h with⟨rfl,rfl⟩| ⟨els,sp,rfl,h1,h2⟩
 ·simp
 ·simp only[DataW.weights,hs,aQc,List.all_append,aQd,decide_eq_true_eq]at hw;refine⟨?_,λa ha=> ?_⟩
  ·rw[h1];refine aQk (aRg _ (Nat.le_add_right _ _)) hw.1
  ·obtain⟨j,hj,rfl⟩:=List.mem_iff_getElem.1 ha;exact⟨_,h2 j hj z8,LE (aRh _) hw.2.1⟩
end
theorem RLl.rl{V:cQ}{arr:Array Value}{ps:List PV}(h:RLl V arr.toList ps):RL V arr ps:=by
 refine⟨by have:=h.1;simpa using this,λi hi=> ?_⟩;have:=h.2 i hi;rw[aRb,aRc]at this;rw[aQm];exact this
theorem Ty.enc_agg(t:Ty):PV.agg t.enc.cells=t.enc:=by rw[Ty.enc_cells,Ty.enc_eq]
def Agr(s:MSt)(xs:List Ty):Prop:=∀i,s.2.getD i false=true->xs.getD i .zero=s.1.getD i .zero
def MLe(s s':MSt):Prop:=∀i,s.2.getD i false=true->s'.2.getD i false=true/\s'.1.getD i .zero=s.1.getD i .zero
theorem MLe.refl(s:MSt):MLe s s:=λi h=>⟨h,rfl⟩
theorem MLe.trans{a b c:MSt}(h:MLe a b)(k:MLe b c):MLe a c:=λi hi=>⟨(k i (h i hi).1).1,(k i (h i hi).1).2.trans (h i hi).2⟩
theorem Agr.mono{s s':MSt}{xs:List Ty}(h:MLe s s')(k:Agr s' xs):Agr s xs:=λi hi=>(k i (h i hi).1).trans (h i hi).2
structure MRt(ps:List Int)(xs:List Ty)(s:MSt):Prop where
 agr:Agr s xs
 zero:∀i,s.2.getD i false=false->s.1.getD i .zero= .zero
structure Bd where
 v:Int
 t:Ty
def Bd.enc(b:Bd):PV:=.agg [.int .i64 b.v, .int .i64 b.t.kind, .int .i64 b.t.id, .slice (b.t.args.map Ty.enc) .none]
theorem Bd.enc_len(b:Bd):b.enc.cells.length=4:=rfl
theorem Bd.bel(n:Nat)(b:Bd):bW n b.enc:=.agg _ (by
 intro c hc;simp at hc;rcases hc with rfl|rfl|rfl|rfl
 ·exact .int _ _
 ·exact .int _ _
 ·exact .int _ _
 ·exact HT _ _)
structure aP8(P:Program)(B T:TypeId):Prop where
 st:∃f0 f1:Field,P.underlying B=some (.struct #[f0,f1])/\P.underlying f0.type=some (.int .i64)/\f1.type=T/\f0.offset=0/\f1.offset=1/\P.cellsOf f0.type=1
 c:P.cellsOf B=4
section
variable{H:Type}{enc:TypeId×Value->H}{P:Program}{W:World}{spare:Nat->Bool}{held:Bool}{B T S:TypeId}
end
def aCg(W:World)(G:aC):aE:= {w:=W,κ:=λ_=>.fixed,ρ:=λ_=>0,tb:=λ_=>none,H:=G}
theorem aDy{W:World}{G:aC}(hG:∀o∈G,∃b vs,o=AObj.glob b vs)(hW:∀b vs,AObj.glob b vs∈G->∀i (h:i<vs.length),W.cell? ⟨b,i,none⟩=some vs[i]):(aCg W G).Ok:=by
 have hk:∀id o,(aCg W G).H[id]? =some o->∃b vs,o=AObj.glob b vs:=λid o h=>hG o (List.mem_of_getElem? h);constructor
 ·intro id cs h;obtain⟨b,vs,e⟩:=hk _ _ h;cases e
 ·intro id n sz b h;obtain⟨b,vs,e⟩:=hk _ _ h;cases e
 ·intro id id' cs cs' h;obtain⟨b,vs,e⟩:=hk _ _ h;cases e
 ·intro id id' n sz n' sz' b h;obtain⟨b,vs,e⟩:=hk _ _ h;cases e
 ·intro id b vs h i hi;exact hW b vs (List.mem_of_getElem? h) i hi
 ·exact⟨λid k h=>(by obtain⟨b,vs,e⟩:=hk _ _ h;cases e),λid id' k k' h=>(by obtain⟨b,vs,e⟩:=hk _ _ h;cases e)⟩
theorem VD(W:World)(G:aC):(env0 W).view.le (aCg W G).view:=by
 have hb:∀id,¬(env0 W).view.born id:=by
  rintro id ⟨o,h,_⟩;simp[env0]at h
 exact⟨λa v h=>h,λid h=>absurd h (hb id),λid h=>absurd h (hb id),λid t h=>absurd h (hb id)⟩
theorem calls_of_ga{P:Program}{f:FuncId}{args:List PV}{b:Bool}{G:aC}(h:aL P f args G λr _=>r= .bool b)(W:World)(hG:∀o∈G,∃b vs,o=AObj.glob b vs)(hW:∀b vs,AObj.glob b vs∈G->∀i (h:i<vs.length),W.cell? ⟨b,i,none⟩=some vs[i])
  (vargs:Array Value) (hr:RL (env0 W).view vargs args):Calls P f vargs W λe w'=>e= .returned (.bool b)/\Go.RowKit.Below W.heap.size W w':=by
 refine(h (aCg W G) vargs (aDy hG hW) rfl (hr.mono (VD W G))).mono ?_;rintro e w' ⟨E',v,r,rfl,rfl,hle,hok,hv,rfl⟩;refine⟨by rw[hv.bool_inv],hle.os,hle.tape,hle.output,hle.size,λk hk=>(hle.other k hk ?_).2⟩;rintro(⟨id,cs,h,_⟩| ⟨id,n,sz,h,_⟩| ⟨id,k,h,_⟩)<;>(obtain⟨b,vs,e⟩:=hG _ (List.mem_of_getElem? h);cases e)
theorem laid_ints{H:Type}{enc:TypeId×Value->H}{P:Program}{w:World}{sp:Nat->Bool}{held:Bool}{t e:TypeId}{n f:Nat}{k:IntKind}{cs:List Value}{ds:List (DataW H)}{q:List MemPlace}
  (ht:P.underlying t=some (.array n e)) (he:P.underlying e=some (.int k)) (hc:P.cellsOf e=1) (h:DataW.trod enc P w 0 sp held f t cs=some (.agg ds,q)):
  ∀i,i<n->∃v,ds[i]? =some (.lit (.int k v))/\cs[i]? =some (.int k v):=by
 intro i hi;obtain⟨xs,m,rfl,hx,hlen,hn,hel⟩:=DataW.trod_array ht h;have h1:=hel i hi;rw[hc,Nat.mul_one]at h1;rw[aRa z8]at h1;obtain⟨v,e1,e2,_⟩:=DataW.trod_int he h1;simp only[Prod.mk.injEq,DataW.agg.injEq]at hx;refine⟨v, ?_, ?_⟩
 ·rw[hx.1,aQ8,aRa z8];simp[e2]
 ·have:(cs.drop i).head? =some (.int k v):=by
   cases hd:cs.drop i with
   |nil=>rw[hd]at e1;cases e1
   |cons a l=>rw[hd]at e1;simp at e1;rw[e1];rfl
  rw[List.head?_drop]at this;exact this
set_option maxRecDepth 4000
def MdD{H:Type}(t:Md)(d:DataW H):Prop:=d= .agg [.lit (.string t.name), .lit (.string t.src)]/\t.name.length<=maxLen/\t.src.length<=maxLen
section
variable{H:Type}{enc:TypeId×Value->H}{W:World}{spare:Nat->Bool}{held:Bool}
theorem rd_Md(fuel:Nat)(cs:List Value)(x:DataW H×List MemPlace)(h:DataW.trod enc Tryz.prog W 0 spare held fuel 89 cs=some x):∃t:Md,RLl (env0 W).view cs t.enc.cells/\MdD t x.1:=by
 obtain⟨ds,n,rfl,hx,hlen,hdl,hf⟩:=GS Tryz.underlying89 h;rw[show Tryz.prog.cellsOf 89=2 from by kernel_rfl]at hlen
 match cs,hlen with
 | [v0,v1],_=>
 obtain⟨d0,p0,g0,r0⟩:=hf 0 _ rfl;have r0:DataW.trod enc Tryz.prog W 0 spare held n 9 [v0]=some (d0,p0):=by
  have e:Tryz.prog.cellsOf 9=1:=by kernel_rfl
  have r0:DataW.trod enc Tryz.prog W 0 spare held n 9 (List.take (Tryz.prog.cellsOf 9) (List.drop 0 [v0,v1]))=some (d0,p0):=r0;rw[e]at r0;exact r0
 obtain⟨a0,q0,rfl,l0⟩:=rd_string Tryz.underlying9 r0;obtain⟨d1,p1,g1,r1⟩:=hf 1 _ rfl;have r1:DataW.trod enc Tryz.prog W 0 spare held n 9 [v1]=some (d1,p1):=by
  have e:Tryz.prog.cellsOf 9=1:=by kernel_rfl
  have r1:DataW.trod enc Tryz.prog W 0 spare held n 9 (List.take (Tryz.prog.cellsOf 9) (List.drop 1 [v0,v1]))=some (d1,p1):=r1;rw[e]at r1;exact r1
 obtain⟨a1,q1,rfl,l1⟩:=rd_string Tryz.underlying9 r1;refine⟨Md.mk a0 a1, ?_, ?_⟩
 ·rw[Md.enc_cells];exact(RLl.app q0 q1)
 ·rw[hx];have e:ds= [.lit (.string a0), .lit (.string a1)]:=by
   match ds,hdl with
   | [e0,e1],_=>
    simp at g0 g1;rw[g0,g1]
  rw[e];exact⟨rfl,l0,l1⟩
end
theorem trod_ifc{H:Type}{enc:TypeId×Value->H}{P:Program}{w:World}{base:Nat}{sp:Nat->Bool}{held:Bool}{fuel:Nat}{t:TypeId}{cs:List Value}{n:String}{d:DataW H}{p:List MemPlace}(hu:∃ms,P.underlying t=some (.interface ms))(h:DataW.trod enc P w base sp held fuel t cs=some (.iface n d,p)):∃te pe,cs= [.iface te pe]:=by
 obtain⟨ms,hu⟩:=hu;cases fuel with
 |zero=>cases h
 |succ f=>
  unfold DataW.trod at h;rw[hu]at h
  split at h<;>first|exact⟨_,_,rfl⟩| (exfalso;simp_all;done)| (exfalso;rename_i heq _;simp at heq;done)| (exfalso;rename_i heq;simp at heq;done)
def GE(e3 e4:Value):aC:= [gO, .glob 3 [e3], .glob 4 [e4]]
theorem preE(e3 e4:Value):vE G0 (GE e3 e4):=λk o h=>by
 match k,h with
 |0,h=>exact h
 |k+1,h=>simp[G0,GC]at h
theorem errE{e3 e4:Value}(h3:∃te pe,e3= .iface te pe)(h4:∃te pe,e4= .iface te pe):oD e3 e4 (GE e3 e4):=⟨rfl,rfl, .inr h3, .inr h4⟩
theorem globE{e3 e4:Value}:∀o∈GE e3 e4,∃b vs,o=AObj.glob b vs:=λo ho=>by
 simp only[GE,gO,aRs,aR2,or_false]at ho;rcases ho with rfl|rfl|rfl<;>exact⟨_,_,rfl⟩
end Go.Abs
