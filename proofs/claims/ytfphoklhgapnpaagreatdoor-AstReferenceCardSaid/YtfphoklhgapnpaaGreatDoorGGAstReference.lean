/- Part 12 of a proof of the law AstReference: Go data as trees, the walks of the functions that the law reaches, the plain laws. -/
import Derived.Test.YtfphoklhgapnpaaGreatDoorGFAstReference
open List renaming all_cons->aSd,all_eq_true->aTr,append_assoc->aUa,append_nil->aT4,cons_append->aSg,contains_iff_mem->aTz,drop_zero->aUh,getElem_mem->aTk,length_append->aTi,length_cons->aS2,length_drop->aS8,length_eq_zero_iff->aTx,length_map->aSr,length_nil->aT5,length_take->aS9,mem_append->aTs,mem_append_left->aUg,mem_cons->aTv,mem_cons_of_mem->aUj,mem_singleton->aT2,nil_append->aT1,not_mem_nil->aT7,take_append_drop->aT3,take_length->aUd
open Nat renaming le_refl->aSl,lt_or_ge->aSk,lt_succ_self->aT9,zero_le->aTn
open Bool renaming and_eq_true->aSe,false_eq_true->aTc,not_eq_true'->aSf,not_false->aTp,not_true->aTt,or_eq_true->aTy
open Int renaming le_refl->aUi
open Option renaming bind_some->aSy
set_option linter.unusedSectionVars false
set_option linter.unnecessarySimpa false
set_option linter.unusedVariables false
set_option linter.unusedSimpArgs false
namespace Go.Abs
section
variable{toks:List Tk}{S S2:Int}{al al2:List Int}{nd nd2:Bool}{s0 s1 s s':PS}{d r n:Nat}
def QW(k:Int):List Int:=if OG k=true then [k]else []
theorem aK8{t:St}(h104:t.kind≠104)(rm:Rm toks d r s)(hr:0<r)(hz:(t.size:Int)<=S)(hw:wI t= [])(ht:wO t=true):∃s',qQ t s=some s'/\J toks S (QW t.kind) (decide (t.kind<100)) s s'/\s'.pos=s.pos:=by
 obtain⟨f,fs,b1,b2,b3,b4⟩:=rm;refine⟨_,vW b1 z8,⟨f,fs,[t],b1,rfl,aSl _,b2, ?_,by simp[tH,hw,vF],λx hx=> ?_,λq=>⟨t,z6,by simpa using q⟩⟩,rfl⟩
 ·simp only[bE];rw[if_neg (Nat.lt_irrefl _)];omega
 ·rw[aT2]at hx;subst hx;exact⟨ht,λq=>by rw[IZ h104]at q;unfold QW;rw[if_pos q];simp⟩
theorem JH{k:Int}(rm:Rm toks d r s)(hr:0<r)(hk:OG k=false)(h6:k≠60)(hm:k<100\/k=108):∃s',oH k s=some s'/\J toks 1 [] (decide (k<100)) s s'/\s'.pos=s.pos:=by
 have h7:k≠7:=by rintro rfl;cases hk
 have h103:k≠103:=z8
 obtain⟨s',e,x,p⟩:=aK8 (S:=1) (t:=⟨k,[],[]⟩) (show k≠104 by omega) rm hr (by simp[St.size,bE]) (by simp[wI,tH]) (by rcases hm with hm|hm<;>simp[wO,okN,PH,VY,h6,h103,h7,hm]);refine⟨s',e, ?_,p⟩;have:QW k= []:=by unfold QW;rw[hk];rfl
 have x':J toks 1 (QW k) (decide (k<100)) s s':=x
 rwa [this]at x'
theorem yR(hT:CN toks){x:List UInt8}(rm:Rm toks d (r+1) s):∃s',bP toks x s=some s'/\J toks 1 [104] false s s'/\(eI (aG toks s.pos) [x]=true->s.pos<s'.pos/\J toks (-239) [104] false s s'):=by
 obtain⟨s1,e1,x1,y1,z1⟩:=pH hT (xs:= [x]) rm;unfold bP;rw[e1];simp only[aSy]
 by_cases c:eI (aG toks s.pos) [x]=true
 ·exact⟨s1,by simp only[c,if_true],x1.mono z8 (λ_ h=>h) (λh=>h),λ_=>y1 c⟩
 ·rw[z1 c]at*;obtain⟨s2,e2,x2,p2⟩:=JH (k:=108) rm z8 rfl z7 z7;exact⟨s2,by simp only[c];exact e2,x2.mono (aUi _) (λ_ h=>by cases h) (λh=>by cases h),λq=>absurd q c⟩
theorem CC(hT:CN toks)(rm:Rm toks d (r+1) s):∃s',bK toks s=some s'/\J toks 1 [104] false s s':=by
 unfold bK
 split
 ·obtain⟨s1,e1,x1,_⟩:=nE hT rm;exact⟨s1,e1,x1.mono z8 (λ_ h=>h) (λh=>h)⟩
 ·obtain⟨s2,e2,x2,p2⟩:=JH (k:=108) rm z8 rfl z7 z7;exact⟨s2,e2,x2.mono (aUi _) (λ_ h=>by cases h) (λh=>by cases h)⟩
theorem KC{k:Int}{ch:List St}(h1:∀t∈ch,wO t=true/\(spj t.kind=true->t.kind∈GL k))(h60:k=60->∃t∈ch,t.kind<100)(h7:k=7->zF ch=true)(h100:k<100):wO ⟨k,[],ch⟩=true:=by
 simp only[wO,okN,CM,aSe,aTr];refine⟨⟨⟨⟨λt ht=>aLr (h1 t ht).2, ?_⟩, ?_⟩,by simp;omega, ?_⟩,λt ht=>(h1 t ht).1⟩
 ·by_cases h:k=60
  ·obtain⟨t,t1,t2⟩:=h60 h;simp only[h,decide_true,aTt,Bool.false_or,List.any_eq_true];exact⟨t,t1,by simpa using t2⟩
  ·simp[h]
 ·by_cases h:k=7
  ·simp[h,h7 h]
  ·simp[h]
 ·unfold PH;rw[if_pos h100,aSe,aTr];exact⟨z6,λt ht=>aLm (h1 t ht).2⟩
theorem TB{k:Int}{a:PS->Option PS}{s2:PS}(rm:Rm toks (d+1) (r+1) s)(e:a ⟨s.pos,⟨k,[]⟩::s.stack,s.flag⟩=some s2)(x:J toks S al nd ⟨s.pos,⟨k,[]⟩::s.stack,s.flag⟩ s2)(h100:k<100)
  (hok:∀new,s2.stack=⟨k,new⟩::s.stack->(∀t∈new,wO t=true/\(spj t.kind=true->t.kind∈al))->wO (St.mk k [] new)=true):∃s',cF k a s=some s'/\J toks (S+1) (QW k) true s s'/\s'.pos=s2.pos:=by
 obtain⟨g,gs,new,c1,c2,c3,c4,c5,c6,c7,c8⟩:=x;injection c1 with c1 c0;subst c1 c0;simp only[aT1]at c2 c3 c5 c6;obtain⟨f,fs,b1,b2,b3,b4⟩:=rm;have ha:qQ (St.mk k [] new) {s2 with stack:=s.stack}=some {s2 with stack:=⟨f.kind,f.kids++ [St.mk k [] new]⟩::fs}:=vW (f:=f) (fs:=fs) b1 z8;refine⟨⟨s2.pos,⟨f.kind,f.kids++ [St.mk k [] new]⟩::fs,s2.flag⟩, ?_,⟨f,fs,[St.mk k [] new],b1,rfl,c3,c4, ?_,by simp[tH,wI,c6],λt ht=> ?_,λ_=>⟨St.mk k [] new,z6,h100⟩⟩,rfl⟩
 ·unfold cF SY;rw[if_pos z8];simp only[aSy,e];unfold qY;rw[c2,b1];simp only;rw[<-b1];exact ha
 ·simp only[bE,St.size]
  split at c5<;>split<;>omega
 ·rw[aT2]at ht;subst ht;exact⟨hok new c2 c7,λq=>by simp[QW,(IZ (k:=k) z8).symm.trans q,St.kind]⟩
theorem CR{k:Int}{a:PS->Option PS}{s2:PS}(rm:Rm toks (d+1) (r+1) s)(e:a ⟨s.pos,⟨k,[]⟩::s.stack,s.flag⟩=some s2)(x:J toks S al nd ⟨s.pos,⟨k,[]⟩::s.stack,s.flag⟩ s2)(h100:k<100)(h7:k≠7)(hal:∀y∈al,y∈GL k)(h60:k=60->nd=true):∃s',cF k a s=some s'/\J toks (S+1) (QW k) true s s'/\s'.pos=s2.pos:=
 TB rm e x h100 λnew hn h=>by
  obtain⟨g,gs,new',c1,c2,c3,c4,c5,c6,c7,c8⟩:=x;injection c1 with c1 c0;subst c1 c0;simp only[aT1]at c2;rw[hn]at c2;injection c2 with c2 _;injection c2 with _ c2;subst c2;exact KC (λt ht=>⟨(h t ht).1,λq=>hal _ ((h t ht).2 q)⟩) (λq=>c8 (h60 q)) (λq=>absurd q h7) h100
theorem aIa{k:Int}{a:PS->Option PS}{S0:Int}{s2:PS}{y:St}{f:vU}{fs:List vU}{ini:List St}(rm:Rm toks (d+1) (r+1) s)(x:J toks S0 [] true s0 s)(hy:s.stack=⟨f.kind,f.kids++ini++ [y]⟩::fs)(h0:s0.stack=f::fs)
  (e:a ⟨s.pos,⟨k,[y]⟩::⟨f.kind,f.kids++ini⟩::fs,s.flag⟩=some s2) (z:J toks S al nd ⟨s.pos,⟨k,[y]⟩::⟨f.kind,f.kids++ini⟩::fs,s.flag⟩ s2) (h100:k<100) (hk:OG k=false) (h6:k≠60) (hal:∀y∈al,y∈GL k):∃s',iP k a s=some s'/\J toks (S0+S+1) [] true s0 s'/\s'.pos=s2.pos:=by
 obtain⟨f',fs',new,x1,x2,x3,x4,x5,x6,x7,x8⟩:=x;rw[h0]at x1;injection x1 with x1 x0;subst x1 x0;have hnew:new=ini++ [y]:=by
  rw[hy]at x2;injection x2 with x2 _;injection x2 with _ x2;rw[aUa]at x2;exact(List.append_cancel_left x2).symm
 subst hnew;obtain⟨g,gs,n2,c1,c2,c3,c4,c5,c6,c7,c8⟩:=z;injection c1 with c1 c0;subst c1 c0;simp only at c2 c3 c5 c6;obtain⟨f3,fs3,b1,b2,b3,b4⟩:=rm;rw[hy]at b1;injection b1 with b1 b0;subst b1 b0;have hkids:(f.kids++ini).length<iB:=by simp only[aTi,aS2,aT5]at b3⊢;omega
 have ho:sG k s=some ⟨s.pos,⟨k,[y]⟩::⟨f.kind,f.kids++ini⟩::fs,s.flag⟩:=by
  unfold sG;rw[hy];rw[hy]at b4;simp only;rw[if_pos z8];simp only[List.getLast?_concat,List.dropLast_concat]
 have ha:qQ (St.mk k [] ([y]++n2)) {s2 with stack:=⟨f.kind,f.kids++ini⟩::fs}=some ⟨s2.pos,⟨f.kind,f.kids++ini++ [St.mk k [] ([y]++n2)]⟩::fs,s2.flag⟩:=vW (s:=⟨s2.pos,⟨f.kind,f.kids++ini⟩::fs,s2.flag⟩) (f:=⟨f.kind,f.kids++ini⟩) (fs:=fs) rfl hkids;have h7:k≠7:=by rintro rfl;cases hk
 have hyo:=x7 y z6;refine⟨⟨s2.pos,⟨f.kind,f.kids++ini++ [St.mk k [] ([y]++n2)]⟩::fs,s2.flag⟩, ?_,⟨f,fs,ini++ [St.mk k [] ([y]++n2)],h0,z6,by simp only;omega,c4, ?_, ?_,λt ht=> ?_,λ_=>⟨St.mk k [] ([y]++n2),z6,h100⟩⟩,rfl⟩
 ·unfold iP;rw[ho];simp only[aSy,e];unfold qY;rw[c2];simp only;exact ha
 ·rw[jQ]at x5⊢;simp only[aSg,aT1,bE,St.size]at x5⊢
  split at x5<;>split at c5<;>split<;>omega
 ·rw[KR toks x3 c3,<-x6,<-c6];simp[vT,tH,wI]
 ·rcases aTs.1 ht with q|q
  ·exact x7 t (by simp[q])
  ·rw[aT2]at q;subst q;refine⟨KC (λu hu=> ?_) (λq=>absurd q h6) (λq=>absurd q h7) h100,λq=>by simp only[St.kind]at q;rw[IZ z8,hk]at q;cases q⟩;rcases aTs.1 hu with q|q
   ·rw[aT2]at q;subst q;exact⟨hyo.1,λq=>by cases hyo.2 q⟩
   ·exact⟨(c7 u q).1,λq'=>hal _ ((c7 u q).2 q')⟩
theorem J.last(x:J toks S al true s0 s):∃f fs ini y,s0.stack=f::fs/\s.stack=⟨f.kind,f.kids++ini++ [y]⟩::fs:=by
 obtain⟨f,fs,new,x1,x2,x3,x4,x5,x6,x7,x8⟩:=x;obtain⟨t0,ht0,_⟩:=x8 rfl;exact⟨f,fs,new.dropLast,new.getLast (List.ne_nil_of_mem ht0),x1,by rw[x2,aUa,List.dropLast_concat_getLast]⟩
theorem aAi{c:PS->Bool}{b:PS->Option PS}(hS:S<=60)(rm:Rm toks d (r+400) s)(hb:∀t,s.pos<=t.pos->Rm toks d r t->c t=true->∃t',b t=some t'/\J toks S al nd t t'/\t.pos<t'.pos):
  ∀(n:Nat) (t:PS),(t=s\/(s.pos<t.pos/\J toks (max S 0) al nd s t))->toks.length-t.pos<n->∃s',dO c b n t=some s'/\(s'=s\/(s.pos<s'.pos/\J toks (max S 0) al nd s s'))
 |0,t,hi,h=>z8
 |n+1,t,hi,h=>by
  unfold dO
  by_cases e:c t=true
  ·rw[if_pos e];have hrm:Rm toks d r t:=by
    rcases hi with rfl| ⟨_,hj⟩
    ·exact rm.mono (aSl _) z8
    ·exact hj.rm rm z8
   have hle:s.pos<=t.pos:=by rcases hi with rfl| ⟨h,_⟩<;>omega
   obtain⟨t1,e1,x1,l1⟩:=hb t hle hrm e;have hp:=x1.pos.2;obtain⟨s2,e2,i2⟩:=aAi hS rm hb n t1 (.inr (by
    rcases hi with rfl| ⟨hm,hj⟩
    ·exact⟨l1,x1.mono z8 (λ_ h=>h) (λh=>h)⟩
    ·refine⟨z8,(hj.absorb hm (x1.mono (S2:=max S 0) z8 (λ_ h=>h) (λh=>h)) l1 z8).mono (aUi _) (λx hx=> ?_) (λh=>by simp[h])⟩;rcases aTs.1 hx with q|q<;>exact q)) z8
   exact⟨s2,by rw[e1];exact e2,i2⟩
  ·rw[if_neg e];exact⟨t,rfl,hi⟩
theorem JX{c:PS->Bool}{b:PS->Option PS}(hn:toks.length<n)(hS:S<=60)(rm:Rm toks d (r+400) s)(hb:∀t,s.pos<=t.pos->Rm toks d r t->c t=true->∃t',b t=some t'/\J toks S al nd t t'/\t.pos<t'.pos):∃s',dO c b n s=some s'/\J toks (max S 0) al false s s':=by
 obtain⟨s',e,h⟩:=aAi hS rm hb n s (.inl rfl) z8;refine⟨s',e, ?_⟩;rcases h with rfl| ⟨_,h⟩
 ·exact rm.refl.mono z8 (λx hx=>by cases hx) (λh=>h)
 ·exact h.mono (aUi _) (λ_ h=>h) (λh=>by cases h)
theorem TZ(hT:CN toks)(h104:104∈al){xs:List (List UInt8)}{b:PS->Option PS}(hS:S<=60)(rm:Rm toks d (r+400) s)(hb:∀t,s.pos<t.pos->Rm toks d r t->∃t',b t=some t'/\J toks (S+239) al nd t t'):
  ∀(n:Nat) (t:PS),(t=s\/(s.pos<t.pos/\J toks (max S 0) al false s t))->toks.length-t.pos<n->∃s',lO (λs=>eI (aG toks s.pos) xs) (cH toks xs) b n t=some s'/\(s'=s\/(s.pos<s'.pos/\J toks (max S 0) al false s s'))
 |0,t,hi,h=>z8
 |n+1,t,hi,h=>by
  unfold lO;have hrm:Rm toks d r t:=by
   rcases hi with rfl| ⟨_,hj⟩
   ·exact rm.mono (aSl _) z8
   ·exact hj.rm rm z8
  obtain⟨t0,e0,x0,y0,z0⟩:=pH hT (xs:=xs) hrm
  by_cases e:eI (aG toks t.pos) xs=true
  ·rw[if_pos e];obtain⟨l0,y0⟩:=y0 e;have hle:s.pos<=t.pos:=by rcases hi with rfl| ⟨h,_⟩<;>omega
   have hrm0:Rm toks d r t0:=by
    rcases hi with rfl| ⟨hm,hj⟩
    ·exact x0.rm rm z8
    ·exact((hj.absorb hm (y0.mono (S2:=max S 0) z8 (λ_ h=>h) (λh=>h)) l0 z8).rm rm z8)
   obtain⟨t1,e1,x1⟩:=hb t0 z8 hrm0;have x2:J toks S al false t t1:=(y0.trans x1).mono z8 (λx hx=>by rcases aTs.1 hx with q|q;(rw[aT2.1 q];exact h104);exact q) (λh=>by cases h);have hp:=x1.pos;obtain⟨s2,e2,i2⟩:=TZ hT h104 hS rm hb n t1 (.inr (by
    rcases hi with rfl| ⟨hm,hj⟩
    ·exact⟨z8,x2.mono z8 (λ_ h=>h) (λh=>h)⟩
    ·refine⟨z8,(hj.absorb hm (x2.mono (S2:=max S 0) z8 (λ_ h=>h) (λh=>h)) z8 z8).mono (aUi _) (λx hx=> ?_) (λh=>by simp[h])⟩;rcases aTs.1 hx with q|q<;>exact q)) z8
   exact⟨s2,by rw[e0];simp only[aSy,e1];exact e2,i2⟩
  ·rw[if_neg e,e0,z0 e];exact⟨t,rfl,hi⟩
theorem aKm(hT:CN toks)(h104:104∈al){c:List UInt8}{a:PS->Option PS}(hn:toks.length<n)(hS:S<=58)(rm:Rm toks (d+1) (r+1202) s)(ha:∀t,s.pos<=t.pos->t.pos<toks.length->Rm toks (d+1) (r+402) t->∃t',a t=some t'/\J toks S al nd t t'):∃s',pM toks n c a s=some s'/\J toks (max S 0+2) al false s s':=by
 have hal4:∀x∈al++ [104],x∈al:=λx hx=>by rcases aTs.1 hx with q|q;exact q;rw[aT2.1 q];exact h104
 have hL:=JX (toks:=toks) (al:=al) (nd:=false) (S:=max S 0+1) (d:=d+1) (r:=r+802) (s:=s) (n:=n) (c:=λs=>(!PZ toks s [c]&& !JW toks s)&& !JU toks s) (b:=yF toks c a) hn z8 rm λt hle hrm ct=>by
  have hl:t.pos<toks.length:=by
   simp only[aSe,aSf]at ct;exact JE ct.1.2
  obtain⟨t1,e1,x1⟩:=ha t hle hl (hrm.mono (aSl _) z8);have hq:=x1.pos;have rm1:Rm toks (d+1) (r+402) t1:=x1.rm hrm z8;unfold yF;rw[e1];simp only[aSy]
  by_cases q:t1.pos=t.pos
  ·rw[if_pos q];obtain⟨u,eu,xu,yu⟩:=nE hT (d:=d) (r:=1) (s:=⟨t1.pos,⟨46,[]⟩::t1.stack,t1.flag⟩) (by
    obtain⟨f,fs,b1,b2,b3,b4⟩:=rm1;exact⟨_,_,rfl,b2,by simp;omega,by simp only[aS2];omega⟩)
   obtain⟨lu,yu⟩:=yu (by simp only;omega);obtain⟨t2,e2,x2,p2⟩:=CR (k:=46) (rm1.mono (aSl _) z8:Rm toks (d+1) (1+1) t1) eu yu z7 z7 (λy h=>by rw[aT2.1 h];decide) (λh=>by cases h);exact⟨t2,e2,(x1.trans x2).mono z8 (λx hx=>by simpa[QW,OG]using hx) (λh=>by cases h),by simp only at lu;omega⟩
  ·rw[if_neg q]
   split
   ·exact⟨t1,rfl,x1.mono z8 (λ_ h=>h) (λh=>by cases h),z8⟩
   ·obtain⟨t2,e2,x2,_⟩:=yR hT (x:= [44]) (rm1.mono (aSl _) z8:Rm toks (d+1) (1+1) t1);exact⟨t2,e2,(x1.trans x2).mono z8 hal4 (λh=>by cases h),by have:=x2.pos;omega⟩
 obtain⟨s1,e1,x1⟩:=hL;obtain⟨s2,e2,x2,_⟩:=yR hT (x:=c) (x1.rm (r:=1+1) (rm.mono (aSl _) z8) z8);exact⟨s2,by unfold pM;rw[e1];exact e2,(x1.trans x2).mono z8 hal4 (λh=>by cases h)⟩
end
def GJ(toks:List Tk)(s:PS):Bool:=eI (aG toks s.pos) [[123]]
def SF:xP->Int
 | .path _=>3| .typeExpr=>3| .typeParams=>1| .params _=>3| .pattern=>4| .primary=>3| .postfx=>0| .unary=>3| .binary _=>3| .expr=>3| .block=>9| .ifExpr=>0| .statement=>5| .letS=>0| .returnStmt=>0
 | .arguments=>5| .matchE=>0| .structLit=>0| .lambda=>0| .function _=>20| .itemBody _=>24| .item=>1
def yU:xP->Bool| .block=>true|_=>false
def UH:xP->Bool| .arguments=>true|_=>false
def SFb(fn:xP)(br ne:Bool):Int:=if yU fn&&br then 0 else if UH fn&&ne then -200 else SF fn
def JT:xP->Bool| .ifExpr=>true| .matchE=>true| .structLit=>true| .lambda=>true| .letS=>true| .returnStmt=>true| .statement=>true| .item=>true|_=>false
def aBn:xP->Bool| .binary l=>decide (l<=5)|_=>true
def mvF:xP->Bool| .arguments=>true|fn=>JT fn
def alF:xP->List Int
 | .params _=> [12]| .function _=> [104,12]| .lambda=> [104,12]| .item=> [7]| .itemBody k=>if k=3\/k=9 then [104,12]else [104]
 | .letS=> [104]| .returnStmt=> [104]| .arguments=> [104]| .matchE=> [104]| .structLit=> [104]|_=> []
def ndF:xP->Bool
 | .expr=>true| .binary _=>true| .unary=>true| .primary=>true| .block=>true| .ifExpr=>true| .path _=>true| .typeParams=>true|_=>false
def rmx:xP->Nat
 | .path _=>1| .typeParams=>1| .params _=>1| .typeExpr=>2| .pattern=>3| .primary=>4| .postfx=>1| .unary=>5
 | .binary l=>11-l| .expr=>12| .letS=>13| .returnStmt=>13| .statement=>14| .block=>15
 | .function _=>16| .itemBody _=>17| .item=>18| .arguments=>0| .ifExpr=>0| .matchE=>0| .structLit=>0| .lambda=>0
def NJ(fn:xP)(br:Bool):Nat:=if yU fn&&br then 0 else rmx fn
def oV(toks:List Tk)(fn:xP)(s:PS):Nat:=32*(toks.length-s.pos)+NJ fn (GJ toks s)
structure Ab where
 S:Int
 nd:Bool
 mi:Bool
 mv:Bool
 me:Bool
 ne:Bool
 br:Bool
 al:List Int
 op:Bool
def Ab.go(a:Ab)(S:Int)(al:List Int)(nd m:Bool):Ab:=⟨a.S+S,a.nd||nd,a.mi||m,a.mv||m,a.me,false,false,a.al++al,false⟩
def Ab.bump(a:Ab):Ab:= {a.go (if a.ne then -239 else 0) (if a.op then []else [104]) false a.ne with me:=true}
def pD(x y:Ab):Ab:=⟨max x.S y.S,x.nd&&y.nd,x.mi&&y.mi,x.mv&&y.mv,x.me&&y.me,false,false,x.al++y.al,false⟩
def MA:Option Ab->Option Ab->Option Ab|some x,some y=>some (pD x y)|_,_=>none
mutual
def Cq.tn:Cq->Bool
 | .at _=>true| .kd k=> !decide (k=100)| .ap=>true| .tx _=>false| .no c=>c.fn| .and c d=>c.tn||d.tn| .fl=>false| .bo _=>false
def Cq.fn:Cq->Bool
 | .kd k=>decide (k=100)| .no c=>c.tn|_=>false
end
def sgn(xs:List (List UInt8)):Bool:=xs.all λx=>match x with|c::_=>decide (c.toNat<97)||decide (122<c.toNat)| []=>false
def Cq.to:Cq->Bool| .at xs=>sgn xs|_=>false
def Cq.tb:Cq->Bool| .at xs=>decide (xs= [[123]])|_=>false
def Ab.inf(a:Ab)(c:Cq)(v:Bool):Ab:= {a with ne:=a.ne||(if v then c.tn else c.fn),br:=a.br||(v&&c.tb),mv:=a.mv||(a.me&&(if v then c.tn else c.fn)),op:=a.op||(v&&c.to)}
def Ab.inn(a:Ab):Ab:=⟨0,false,a.mi,a.mv,a.me,a.ne,a.br,[],a.op⟩
def UW:xP->Bool| .postfx=>true|_=>false
def TA(self:Nat)(fn:xP)(a:Ab):Option Ab:=
 if(a.mv||decide (NJ fn a.br<self))&&(!JT fn||a.ne)&&aBn fn&&(!UW fn||(a.nd&&a.al.isEmpty&&decide (a.S<=80)&&decide (1<self)))then some (a.go (SFb fn a.br a.ne) (alF fn) (ndF fn) (mvF fn&&a.ne))else none
def JV(k:Int)(a:Ab):Option Ab->Option Ab
 |some b=>if decide (k<100)&& !decide (k=7)&&b.al.all (λy=>(GL k).contains y)&&(!decide (k=60)||b.nd)&&decide (b.S<=300)then some ⟨a.S+(b.S+1),true,b.mi,b.mv,b.me,false,false,a.al++QW k,false⟩else none
 |none=>none
def YL(k:Int)(a:Ab):Option Ab->Option Ab
 |some b=>if decide (k<100)&& !OG k&& !decide (k=60)&&b.al.all (λy=>(GL k).contains y)&&decide (b.S<=300)&&a.nd&&a.al.isEmpty then some ⟨a.S+b.S+1,true,b.mi,b.mv,b.me,false,false,[],false⟩else none
 |none=>none
def QG(mx:Int)(pl:Int)(xl:List Int)(a:Ab):Option Ab->Option Ab
 |some b=>if decide (b.S<=mx)then some (a.go (max b.S 0+pl) (b.al++xl) false false)else none
 |none=>none
def aEs(a:Ab):Option Ab->Option Ab
 |some b=>if decide (b.S<=a.S)&&b.nd&&b.mi&&b.al.isEmpty&&a.nd&&a.al.isEmpty then some {a with ne:=false,br:=false,op:=false}else none
 |none=>none
def aEq(a:Ab):Option Ab->Option Ab
 |some b=>if decide (b.S<=239)then some (a.go 0 (b.al++ [104]) false false)else none
 |none=>none
def SL(o:Option Ab)(f:Ab->Option Ab):Option Ab:=match o with|some a=>f a|none=>none
def hO(self:Nat):Nat->Pr->Ab->Option Ab
 |dp,p,a=>if 300<a.S then none else match p with
  | .skip=>some a
  | .setf _=>some a
  | .bump p=>hO self dp p a.bump
  | .acc _ p=>hO self dp p (a.go 0 [104] false false)
  | .acif _ p q=>MA (hO self dp p (a.go (-239) [104] false true)) (hO self dp q {a with ne:=a.ne})
  | .exp x p=>if a.br&&decide (x= [123])then hO self dp p (a.go (-239) [104] false true)else hO self dp p (a.go 1 [104] false false)
  | .idt p=>hO self dp p (a.go 1 [104] false false)
  | .mis k p=>if OG k||decide (k=60)|| !(decide (k<100)||decide (k=108))then none else hO self dp p (a.go 1 [] (decide (k<100)) false)
  | .call fn p=>SL (TA self fn a) λa=>hO self dp p a
  | .callT fn=>TA self fn a
  | .bumpT=>some a.bump
  | .node k q p=>match dp with
   |0=>none
   |dp+1=>SL (JV k a (hO self dp q a.inn)) λa=>hO self (dp+1) p a
  | .nodeT k q=>match dp with
   |0=>none
   |dp+1=>JV k a (hO self dp q a.inn)
  | .wrap k q p=>match dp with
   |0=>none
   |dp+1=>SL (YL k a (hO self dp q a.inn)) λa=>hO self (dp+1) p a
  | .opt _ q p=>SL (MA (hO self dp q (a.go (-239) [104] false true)) (some (a.go 1 [] true false))) λa=>hO self dp p a
  | .lst _ q p=>match dp with
   |0=>none
   |dp+1=>SL (QG 58 2 [104] a (hO self dp q ⟨0,false,false,a.mv||a.me,false,true,false,[],false⟩)) λa=>hO self (dp+1) p a
  | .lop c q p=>match dp with
   |0=>none
   |dp+1=>if c.tn then SL (QG 60 0 [] a (SL (hO self dp q ⟨0,false,false,a.mv||a.me,false,true,false,[],false⟩) λb=>if b.mi then some b else none)) λa=>hO self (dp+1) p a else none
  | .lopF c q p=>match dp with
   |0=>none
   |dp+1=>if c.tn then SL (QG 60 0 [] a (SL (hO self dp q ⟨0,false,false,a.mv||a.me,false,true,false,[],false⟩) λb=>if b.mi then some b else none)) λa=>hO self (dp+1) p a else none
  | .lpw c q p=>if c.tn then SL (aEs a (hO self dp q {a with mi:=false,mv:=a.mv||a.me,ne:=true,br:=false,op:=c.to})) λa=>hO self dp p a else none
  | .lpwT c q=>if c.tn then aEs a (hO self dp q {a with mi:=false,mv:=a.mv||a.me,ne:=true,br:=false,op:=c.to})else none
  | .lpe _ q p=>match dp with
   |0=>none
   |dp+1=>SL (aEq a (hO self dp q ⟨0,false,true,true,false,false,false,[],false⟩)) λa=>hO self (dp+1) p a
  | .lpeT _ q=>match dp with
   |0=>none
   |dp+1=>aEq a (hO self dp q ⟨0,false,true,true,false,false,false,[],false⟩)
  | .ite c p q=>MA (hO self dp p (a.inf c true)) (hO self dp q (a.inf c false))
  | .look _ p q=>MA (hO self dp p a) (hO self dp q a)
  | .look2 _ _ p q r=>MA (MA (hO self dp p a) (hO self dp q a)) (hO self dp r a)
  | .ins p=>if a.nd then hO self dp p (a.go 1 [] false false)else none
  | .seq q p=>SL (hO self dp q a) λa=>hO self dp p a
  | .use p=>match dp with
   |0=>none
   |1=>none
   |2=>none
   |dp+3=>hO self (dp+3) p (a.go 6 [104] false false)
def EJ(fn:xP):Ab:=⟨0,false,false,false,false,JT fn,false,[],false⟩
def fE(fn:xP)(a:Ab)(S:Int):Bool:=match hO (NJ fn a.br) 8 (prog fn) a with
 |some b=>decide (b.S<=S)&&(!ndF fn||b.nd)&&(!(mvF fn&&a.ne)||b.mi)&&b.al.all λy=>(alF fn).contains y
 |none=>false
theorem RM:fE .block (EJ .block) 9=true/\fE .block {EJ .block with ne:=true,br:=true} 0=true:=⟨rfl,rfl⟩
theorem aMv:fE .letS (EJ .letS) 0=true:=rfl
theorem KE:fE .returnStmt (EJ .returnStmt) 0=true:=rfl
theorem aI3:fE .expr (EJ .expr) 3=true:=rfl
theorem aCq:∀l,l<=5->fE (.binary l) (EJ (.binary l)) 3=true
 |0,_=>rfl|1,_=>rfl|2,_=>rfl|3,_=>rfl|4,_=>rfl|5,_=>rfl|n+6,h=>z8
theorem aEm:fE .unary (EJ .unary) 3=true:=rfl
theorem AV:fE .arguments (EJ .arguments) 5=true/\fE .arguments {EJ .arguments with ne:=true} (-200)=true:=⟨rfl,rfl⟩
theorem UD:fE .primary (EJ .primary) 3=true:=rfl
theorem YW:fE .ifExpr (EJ .ifExpr) 0=true:=rfl
theorem aBz:fE .matchE (EJ .matchE) 0=true:=rfl
theorem LR:fE .structLit (EJ .structLit) 0=true:=rfl
theorem YZ:fE .lambda (EJ .lambda) 0=true:=rfl
theorem WV:fE .pattern (EJ .pattern) 4=true:=rfl
theorem aKl(b:Bool):fE (.path b) (EJ (.path b)) 3=true:=rfl
theorem PO:fE .typeExpr (EJ .typeExpr) 3=true:=rfl
theorem KB:fE .typeParams (EJ .typeParams) 1=true:=rfl
theorem aB7(c:List UInt8):fE (.params c) (EJ (.params c)) 3=true:=rfl
theorem QR(b:Bool):fE (.function b) (EJ (.function b)) 20=true:=rfl
section
variable{toks:List Tk}{s0 s s':PS}{a b:Ab}{d r pF pi n:Nat}{off:Int}{R:dP}
structure pZ(toks:List Tk)(pF pi:Nat)(off:Int)(s0 s:PS)(a:Ab):Prop where
 j:J toks (a.S+off) a.al a.nd s0 s
 hi:pi<=s.pos
 hF:pF<=s.pos
 mi:a.mi=true->pi<s.pos
 mv:a.mv=true->pF<s.pos
 me:a.me=true->s.pos<toks.length->pF<s.pos
 ne:a.ne=true->s.pos<toks.length
 br:a.br=true->GJ toks s=true
 op:a.op=true->(aG toks s.pos).kind≠104
theorem pZ.go(h:pZ toks pF pi off s0 s a){S:Int}{al:List Int}{nd m:Bool}(x:J toks S al nd s s')(hm:m=true->s.pos<s'.pos):pZ toks pF pi off s0 s' (a.go S al nd m):=by
 have p:=x.pos;have h1:=h.hi;have h2:=h.hF;refine⟨(h.j.trans x).mono (by simp only[Ab.go];omega) (λ_ h=>h) (λh=>h),z8,z8,λq=> ?_,λq=> ?_,λq l=> ?_,λq=>(by cases q),λq=>(by cases q),λq=>by cases q⟩
 ·rcases(by simpa[Ab.go]using q:a.mi=true\/m=true)with q|q
  ·have:=h.mi q;omega
  ·have:=hm q;omega
 ·rcases(by simpa[Ab.go]using q:a.mv=true\/m=true)with q|q
  ·have:=h.mv q;omega
  ·have:=hm q;omega
 ·have:=h.me q z8;omega
theorem pZ.bump(h:pZ toks pF pi off s0 s a)(e:cJ toks s=some s')(x:J toks 0 [104] false s s')(y:s.pos<toks.length->s.pos<s'.pos/\J toks (-239) [104] false s s'):pZ toks pF pi off s0 s' a.bump:=by
 have h1:=h.hF;have p:=x.pos;have w:∀S,J toks S [104] false s s'->J toks S (if a.op then []else [104]) false s s':=λS j=>by
  by_cases c:a.op=true
  ·rw[if_pos c];exact aC0 e (h.op c) j
  ·rw[if_neg c];exact j
 have g:pZ toks pF pi off s0 s' (a.go (if a.ne then -239 else 0) (if a.op then []else [104]) false a.ne):=by
  by_cases c:a.ne=true
  ·rw[if_pos c];exact h.go (w _ (y (h.ne c)).2) λ_=>(y (h.ne c)).1
  ·rw[if_neg c];exact h.go (w _ x) λq=>absurd q c
 exact⟨g.j,g.hi,g.hF,g.mi,g.mv,λ_ l=>by have:=y z8;omega,g.ne,g.br,g.op⟩
theorem pZ.joinL{b:Ab}(h:pZ toks pF pi off s0 s a):pZ toks pF pi off s0 s (pD a b):=
 ⟨h.j.mono (by simp only[pD];omega) (λ_ h=>aUg _ h) (λh=>by simp only[pD,aSe]at h;exact h.1),h.hi,h.hF,λq=>h.mi (by simp only[pD,aSe]at q;exact q.1),λq=>h.mv (by simp only[pD,aSe]at q;exact q.1),λq=>h.me (by simp only[pD,aSe]at q;exact q.1),λq=>(by cases q),λq=>(by cases q),λq=>by cases q⟩
theorem pZ.joinR{b:Ab}(h:pZ toks pF pi off s0 s a):pZ toks pF pi off s0 s (pD b a):=
 ⟨h.j.mono (by simp only[pD];omega) (λ_ h=>List.mem_append_right _ h) (λh=>by simp only[pD,aSe]at h;exact h.2),h.hi,h.hF,λq=>h.mi (by simp only[pD,aSe]at q;exact q.2),λq=>h.mv (by simp only[pD,aSe]at q;exact q.2),λq=>h.me (by simp only[pD,aSe]at q;exact q.2),λq=>(by cases q),λq=>(by cases q),λq=>by cases q⟩
theorem wA{x y:Option Ab}{b:Ab}(h:MA x y=some b):∃u v,x=some u/\y=some v/\b=pD u v:=by
 cases x<;>cases y<;>simp only[MA]at h<;>first| (cases h;done)| (injection h with h;exact⟨_,_,rfl,rfl,h.symm⟩)
theorem pQ{o:Option Ab}{f:Ab->Option Ab}{b:Ab}(h:SL o f=some b):∃a,o=some a/\f a=some b:=by
 cases o with
 |none=>cases h
 |some a=>exact⟨a,rfl,h⟩
theorem RY(h:(aG toks s.pos).kind≠100):s.pos<toks.length:=JE (by simpa[JW]using h)
theorem AX:∀c:Cq,(c.tn=true->c.ev toks s=true->s.pos<toks.length)/\(c.fn=true->c.ev toks s=false->s.pos<toks.length)
 | .at xs=>⟨λ_ h=>FK h,λh=>by simp[Cq.fn]at h⟩
 | .kd k=>⟨λh e=>by
   simp only[Cq.tn,aSf,decide_eq_false_iff_not]at h;simp only[Cq.ev,decide_eq_true_eq]at e;exact RY (by rw[e];exact h),λh e=>by
   simp only[Cq.fn,decide_eq_true_eq]at h;simp only[Cq.ev,decide_eq_false_iff_not]at e;exact RY (by rw[<-h];exact e)⟩
 | .ap=>⟨λ_ e=>by
   refine RY λq=> ?_;simp[Cq.ev,IU,eI,q]at e,λh=>by simp[Cq.fn]at h⟩
 | .tx t=>⟨λh=>by simp[Cq.tn]at h,λh=>by simp[Cq.fn]at h⟩
 | .no c=>⟨λh e=>(AX c).2 (by simpa[Cq.tn]using h) (by simpa[Cq.ev]using e),λh e=>(AX c).1 (by simpa[Cq.fn]using h) (by simpa[Cq.ev]using e)⟩
 | .and c d=>⟨λh e=>by
   simp only[Cq.ev,aSe]at e;rcases(by simpa[Cq.tn]using h:c.tn=true\/d.tn=true)with q|q
   ·exact(AX c).1 q e.1
   ·exact(AX d).1 q e.2,λh=>by simp[Cq.fn]at h⟩
 | .fl=>⟨λh=>by simp[Cq.tn]at h,λh=>by simp[Cq.fn]at h⟩
 | .bo b=>⟨λh=>by simp[Cq.tn]at h,λh=>by simp[Cq.fn]at h⟩
def RE(toks:List Tk):Prop:=∀t∈toks,t.kind=104->sgn [t.text]=false
theorem WF:∀(j:Nat),(aG toks j).kind≠100->aG toks j∈toks:=λj=>by
 generalize hm:toks.length-j=m
 induction m generalizing j with
 |zero=>intro h;rw[oY z8]at h;exact absurd rfl h
 |succ m ih=>
  intro h;have hj:j<toks.length:=z8
  by_cases c:BE toks[j].kind=true
  ·rw[xK hj c]at h⊢;exact ih (j+1) z8 h
  ·rw[rV hj (by simpa using c)];exact aTk hj
theorem aDe:∀ {xs:List (List UInt8)} {x:List UInt8},sgn xs=true->x∈xs->sgn [x]=true:=λ{xs x} h hx=>by
 unfold sgn at h⊢;rw[aTr]at h;rw[aSd,h x hx];rfl
theorem aDf{t:Tk}{xs:List (List UInt8)}(h:eI t xs=true):t.text∈xs:=by
 unfold eI at h;rw[aSe,List.any_eq_true]at h;obtain⟨_,x,hx,e⟩:=h;rw[of_decide_eq_true e];exact hx
theorem aG3(hK:RE toks):∀c:Cq,c.to=true->c.ev toks s=true->(aG toks s.pos).kind≠104
 | .at xs,h,e,k=>by
  have hm:=WF (toks:=toks) s.pos (by rw[k];decide);have e':eI (aG toks s.pos) xs=true:=e;have h1:=aDe h (aDf e');rw[hK _ hm k]at h1;cases h1
 | .kd k,h,e,_=>by cases h
 | .ap,h,e,_=>by cases h
 | .tx t,h,e,_=>by cases h
 | .no c,h,e,_=>by cases h
 | .and c d,h,e,_=>by cases h
 | .fl,h,e,_=>by cases h
 | .bo b,h,e,_=>by cases h
theorem pZ.inf(hK:RE toks)(h:pZ toks pF pi off s0 s a){c:Cq}{v:Bool}(hv:c.ev toks s=v):pZ toks pF pi off s0 s (a.inf c v):=by
 have hl:(if v then c.tn else c.fn)=true->s.pos<toks.length:=λq=>by
  cases v
  ·exact(AX c).2 q hv
  ·exact(AX c).1 q hv
 refine⟨h.j,h.hi,h.hF,h.mi,λq=> ?_,h.me,λq=> ?_,λq=> ?_,λq=> ?_⟩
 ·rcases(by simpa[Ab.inf]using q:a.mv=true\/(a.me=true/\(if v=true then c.tn else c.fn)=true))with q|q
  ·exact h.mv q
  ·exact h.me q.1 (hl q.2)
 ·rcases(by simpa[Ab.inf]using q:a.ne=true\/(if v=true then c.tn else c.fn)=true)with q|q
  ·exact h.ne q
  ·exact hl q
 ·rcases(by simpa[Ab.inf]using q:a.br=true\/(v=true/\c.tb=true))with q|q
  ·exact h.br q
  ·have e:=q.2;cases c<;>first| (simp[Cq.tb]at e;done)| (simp only[Cq.tb,decide_eq_true_eq]at e;subst e;rw[q.1]at hv;exact hv)
 ·rcases(by simpa[Ab.inf]using q:a.op=true\/(v=true/\c.to=true))with q|q
  ·exact h.op q
  ·exact aG3 hK c q.2 (hv.trans q.1)
def Spc(toks:List Tk)(dB rB:Nat)(fn:xP)(m:PS->Option PS)(s:PS):Prop:=
 (UW fn=true->∀S s0,S<=80->J toks S [] true s0 s->Rm toks dB (rB+402) s0->∃s',m s=some s'/\J toks S [] true s0 s'/\s.pos<=s'.pos)/\
 (UW fn=false->Rm toks dB rB s->∃s',m s=some s'/\J toks (SFb fn (GJ toks s) (decide (s.pos<toks.length))) (alF fn) (ndF fn) s s'/\(mvF fn=true->s.pos<toks.length->s.pos<s'.pos))
def WX(toks:List Tk)(dB rB K:Nat)(R:dP):Prop:=∀fn s,(JT fn=true->s.pos<toks.length)->aBn fn=true->oV toks fn s<K->Spc toks dB rB fn (R fn) s
theorem J.rm0{S:Int}{al:List Int}{nd:Bool}(h:J toks S al nd s0 s)(k:Rm toks d r s0)(hS:S<=0):Rm toks d r s:=by
 obtain⟨f,fs,n1,a1,a2,a3,a4,a5,a6,a7,a8⟩:=h;obtain⟨g,gs,b1,b2,b3,b4⟩:=k;rw[a1]at b1;injection b1 with b1 b0;subst b1 b0;have:=iR n1;refine⟨_,_,a2,a4, ?_,by rw[a2];rw[a1]at b4;simpa using b4⟩;simp only[aTi]
 split at a5<;>omega
theorem EV(hT:CN toks)(rm:Rm toks d r s):∃q,oM toks s=some q/\Rm toks d r q:=by
 obtain⟨f,fs,b1,b2,b3,b4⟩:=rm;have r1:Rm toks d r ⟨s.pos,[⟨0,[]⟩],false⟩:=⟨_,_,rfl,b2,by simp;omega,by rw[b1]at b4;simp only[aS2,aT5]at b4⊢;omega⟩;obtain⟨q,e,x,_⟩:=nE hT r1;exact⟨q,e,x.rm0 r1 (aUi _)⟩
theorem aJ5{fn:xP}{b c:Bool}(h:b=true->c=true):NJ fn c<=NJ fn b:=by
 cases b<;>cases c<;>simp_all [NJ]
 split<;>omega
theorem aL4{fn:xP}{b c b' c':Bool}(h:b=true->c=true)(h':b'=true->c'=true):SFb fn c c'<=SFb fn b b':=by
 cases fn<;>cases b<;>cases c<;>cases b'<;>cases c'<;>first|exact aUi _|exact absurd (h rfl) Bool.false_ne_true|exact absurd (h' rfl) Bool.false_ne_true|decide
theorem aKh{fn:xP}(hb:aBn fn=true)(b:Bool):NJ fn b<=18:=by
 unfold NJ;split
 ·omega
 ·cases fn<;>simp only[rmx]<;>omega
variable{dB rB K self dp:Nat}
theorem XF(IH:WX toks dB rB K R)(hk:32*(toks.length-pF)+self<=K){fn:xP}(hc:TA self fn a=some b)(ho:off<=80/\(1<self->off=0))(hS:a.S<=300)(iv:pZ toks pF pi off s0 s a)(rm:Rm toks (dB+dp) (rB+402+1300*dp) s0):∃s',R fn s=some s'/\pZ toks pF pi off s0 s' b:=by
 unfold TA at hc
 split at hc
 case isFalse=>cases hc
 rename_i c;injection hc with hc;subst hc;simp only[aSe,aTy,aSf,decide_eq_true_eq]at c;obtain⟨⟨⟨c1,c2⟩,c3⟩,c4⟩:=c;obtain⟨ho,ho2⟩:=ho;have hp:=iv.j.pos;have h18:=aKh c3 (GJ toks s);have hle:=aJ5 (fn:=fn) iv.br;have hF:=iv.hF;have hn:oV toks fn s<K:=by
  unfold oV;rcases c1 with c1|c1
  ·have:=iv.mv c1;omega
  ·omega
 have sp:=IH fn s (λq=>by rcases c2 with c2|c2;(rw[q]at c2;cases c2);exact iv.ne c2) c3 hn
 by_cases hpo:UW fn=true
 ·obtain rfl:fn= .postfx:=by cases fn<;>first|rfl|cases hpo
  rcases c4 with c4| ⟨⟨⟨c4,c5⟩,c6⟩,c7⟩
  ·cases c4
  have h0:=ho2 c7;have j:=iv.j;rw[c4,List.isEmpty_iff.1 c5]at j;obtain⟨s',e,x,y⟩:=sp.1 rfl _ s0 z8 j (rm.mono z8 z8);have hq:=x.pos;exact⟨s',e,⟨x.mono (by simp[Ab.go,SFb,yU,UH,SF]) (λx hx=>by cases hx) (λ_=>rfl),by have:=iv.hi;omega,z8,λq=>by have:=iv.mi (by simpa[Ab.go,mvF,JT]using q);omega,λq=>by have:=iv.mv (by simpa[Ab.go,mvF,JT]using q);omega,λq l=>by have:=iv.me q z8;omega,λq=>(by cases q),λq=>(by cases q),λq=>by cases q⟩⟩
 ·have hpo':UW fn=false:=by simpa using hpo
  obtain⟨s',e,x,y⟩:=sp.2 hpo' (iv.j.rm (rm.mono (d':=dB) (r':=rB+400) z8 z8) z8);refine⟨s',e,iv.go (x.mono (aL4 iv.br λq=>decide_eq_true (iv.ne q)) (λ_ h=>h) (λh=>h)) λq=> ?_⟩;simp only[aSe]at q;exact y q.1 (iv.ne q.2)
end
section
variable{toks:List Tk}{dB rB K self n pF:Nat}{R:dP}
theorem hU{dp:Nat}{p:Pr}{a b:Ab}(h:hO self dp p a=some b):a.S<=300:=by
 unfold hO at h
 split at h
 ·cases h
 ·omega
def Snd(toks:List Tk)(n:Nat)(R:dP)(dB rB self pF:Nat)(p:Pr):Prop:=∀(dp:Nat) (a b:Ab) (pi:Nat) (off:Int) (s0 s:PS),hO self dp p a=some b->(off<=80/\(1<self->off=0))->pZ toks pF pi off s0 s a->Rm toks (dB+dp) (rB+402+1300*dp) s0->∃s',mJ toks n R p s=some s'/\pZ toks pF pi off s0 s' b
section
variable{dp pi:Nat}{off:Int}{s0 s:PS}{a a1:Ab}{k:Int}{q:Pr}(hq:Snd toks n R dB rB self pF q)(ho:off<=80/\(1<self->off=0))(iv:pZ toks pF pi off s0 s a)(hS:a.S<=300)
theorem pZ.rs(iv:pZ toks pF pi off s0 s a)(ho:off<=80/\(1<self->off=0))(hS:a.S<=300)(rm:Rm toks (dB+dp) (rB+402+1300*dp) s0):Rm toks (dB+dp) (rB+2+1300*dp) s:=iv.j.rm (rm.mono (aSl _) z8) z8
theorem bM{o:Option PS}{s1:PS}{f:PS->Option PS}{P:PS->Prop}(e:o=some s1)(h:∃s',f s1=some s'/\P s'):∃s',o.bind f=some s'/\P s':=by rw[e];exact h
include hq ho iv hS
theorem aCl(h:JV k a (hO self dp q a.inn)=some a1)(rm:Rm toks (dB+(dp+1)) (rB+402+1300*(dp+1)) s0):∃s',cF k (mJ toks n R q) s=some s'/\pZ toks pF pi off s0 s' a1:=by
 cases hc:hO self dp q a.inn with
 |none=>rw[hc]at h;cases h
 |some b=>
  rw[hc]at h;unfold JV at h;simp only at h
  split at h
  case isFalse=>cases h
  rename_i c;injection h with h;subst h;simp only[aSe,aTy,aSf,decide_eq_true_eq,decide_eq_false_iff_not,aTr,aTz]at c;obtain⟨⟨⟨⟨c1,c2⟩,c3⟩,c4⟩,c5⟩:=c;have rs:=iv.rs ho hS rm;have rk:Rm toks (dB+dp) (rB+402+1300*dp) ⟨s.pos,⟨k,[]⟩::s.stack,s.flag⟩:=by
   obtain⟨f,fs,b1,b2,b3,b4⟩:=rs;exact⟨_,_,rfl,b2,by simp;omega,by simp only[aS2];omega⟩
  obtain⟨s2,e2,i2⟩:=hq dp _ _ pi 0 _ _ hc ⟨z8,λ_=>rfl⟩ ⟨rk.refl,iv.hi,iv.hF,iv.mi,iv.mv,iv.me,iv.ne,iv.br,iv.op⟩ rk;obtain⟨s3,e3,x3,p3⟩:=CR (r:=1) (d:=dB+dp) (rs.mono z8 z8) e2 i2.j c1 c2 c3 (λz=>by rcases c4 with c4|c4;exact absurd z c4;exact c4);exact⟨s3,e3,⟨(iv.j.trans x3).mono (by simp only;omega) (λ_ h=>h) (λ_=>z6),by rw[p3];exact i2.hi,by rw[p3];exact i2.hF,by rw[p3];exact i2.mi,by rw[p3];exact i2.mv,by rw[p3];exact i2.me,λq=>(by cases q),λq=>(by cases q),λq=>by cases q⟩⟩
theorem aMf(h:YL k a (hO self dp q a.inn)=some a1)(rm:Rm toks (dB+(dp+1)) (rB+402+1300*(dp+1)) s0):∃s',iP k (mJ toks n R q) s=some s'/\pZ toks pF pi off s0 s' a1:=by
 cases hc:hO self dp q a.inn with
 |none=>rw[hc]at h;cases h
 |some b=>
  rw[hc]at h;unfold YL at h;simp only at h
  split at h
  case isFalse=>cases h
  rename_i c;injection h with h;subst h;simp only[aSe,aTy,aSf,decide_eq_true_eq,decide_eq_false_iff_not,List.isEmpty_iff,aTr,aTz]at c;obtain⟨⟨⟨⟨⟨⟨c1,c2⟩,c3⟩,c4⟩,c5⟩,c6⟩,c7⟩:=c;have rs:=iv.rs ho hS rm;have j:=iv.j;rw[c6,c7]at j;obtain⟨f,fs,ini,y,z1,z2⟩:=j.last;have rk:Rm toks (dB+dp) (rB+402+1300*dp) ⟨s.pos,⟨k,[y]⟩::⟨f.kind,f.kids++ini⟩::fs,s.flag⟩:=by
   obtain⟨f',fs',b1,b2,b3,b4⟩:=rs;rw[z2]at b4;exact⟨_,_,rfl,b2,by simp;omega,by simp only[aS2]at b4⊢;omega⟩
  have hbr:GJ toks ⟨s.pos,⟨k,[y]⟩::⟨f.kind,f.kids++ini⟩::fs,s.flag⟩=GJ toks s:=rfl;obtain⟨s2,e2,i2⟩:=hq dp _ _ pi 0 _ _ hc ⟨z8,λ_=>rfl⟩ ⟨rk.refl,iv.hi,iv.hF,iv.mi,iv.mv,iv.me,iv.ne,iv.br,iv.op⟩ rk;have j2:=i2.j;obtain⟨s3,e3,x3,p3⟩:=aIa (r:=1) (d:=dB+dp) (rs.mono z8 z8) j z2 z1 e2 j2 c1 c2 c3 c4;exact⟨s3,e3,⟨x3.mono (by simp only;omega) (λ_ h=>h) (λ_=>rfl),by rw[p3];exact i2.hi,by rw[p3];exact i2.hF,by rw[p3];exact i2.mi,by rw[p3];exact i2.mv,by rw[p3];exact i2.me,λq=>(by cases q),λq=>(by cases q),λq=>by cases q⟩⟩
omit hq ho iv hS in
theorem TQ{mx pl:Int}{xl:List Int}{o:Option Ab}(h:QG mx pl xl a o=some a1):∃b,o=some b/\b.S<=mx/\a1=a.go (max b.S 0+pl) (b.al++xl) false false:=by
 cases o with
 |none=>cases h
 |some b=>
  unfold QG at h;simp only[decide_eq_true_eq]at h
  split at h
  ·injection h with h;exact⟨b,rfl,by assumption,h.symm⟩
  ·cases h
theorem aPv(hT:CN toks)(hn:toks.length<n){c:List UInt8}(h:QG 58 2 [104] a (hO self dp q ⟨0,false,false,a.mv||a.me,false,true,false,[],false⟩)=some a1)(rm:Rm toks (dB+(dp+1)) (rB+402+1300*(dp+1)) s0):∃s',pM toks n c (mJ toks n R q) s=some s'/\pZ toks pF pi off s0 s' a1:=by
 obtain⟨b,hc,hb,rfl⟩:=TQ h;have rs:=iv.rs ho hS rm;obtain⟨s1,e1,x1⟩:=aKm (r:=rB+1300*dp) (d:=dB+dp) (al:=b.al++ [104]) (nd:=b.nd) (a:=mJ toks n R q) hT z6 hn hb (rs.mono z8 z8) λt ht hl rt=>by
  obtain⟨t',e,i⟩:=hq dp _ _ t.pos 0 t t hc ⟨z8,λ_=>rfl⟩ ⟨rt.refl,aSl _,by have:=iv.hF;omega,λq=>(by cases q),λq=>(by
   simp only[aTy]at q;rcases q with q|q
   ·have:=iv.mv q;omega
   ·have:=iv.me q z8;omega),λq=>(by cases q),λ_=>hl,λq=>(by cases q),λq=>by cases q⟩ (rt.mono z8 z8)
  exact⟨t',e,i.j.mono z8 (λ_ h=>aUg _ h) (λh=>h)⟩
 exact⟨s1,e1,iv.go x1 λq=>by cases q⟩
theorem aGk(hT:CN toks)(hn:toks.length<n){c:Cq}(hcn:c.tn=true)(h:QG 60 0 [] a (SL (hO self dp q ⟨0,false,false,a.mv||a.me,false,true,false,[],false⟩) λb=>if b.mi then some b else none)=some a1)(rm:Rm toks (dB+(dp+1)) (rB+402+1300*(dp+1)) s0):∃s',dO (λs=>c.ev toks s) (mJ toks n R q) n s=some s'/\pZ toks pF pi off s0 s' a1:=by
 obtain⟨b,hc0,hb,rfl⟩:=TQ h;obtain⟨b',hc,hm⟩:=pQ hc0
 split at hm
 case isFalse=>cases hm
 rename_i hm';injection hm with hm;subst hm;have rs:=iv.rs ho hS rm;obtain⟨s1,e1,x1⟩:=JX (r:=rB+402+1300*dp) (d:=dB+dp) (al:=b'.al) (nd:=b'.nd) (c:=λs=>c.ev toks s) (b:=mJ toks n R q) hn hb (rs.mono z8 z8) λt ht rt ct=>by
  have hl:=(AX c).1 hcn ct;obtain⟨t',e,i⟩:=hq dp _ _ t.pos 0 t t hc ⟨z8,λ_=>rfl⟩ ⟨rt.refl,aSl _,by have:=iv.hF;omega,λq=>(by cases q),λq=>(by
   simp only[aTy]at q;rcases q with q|q
   ·have:=iv.mv q;omega
   ·have:=iv.me q z8;omega),λq=>(by cases q),λ_=>hl,λq=>(by cases q),λq=>by cases q⟩ rt
  exact⟨t',e,i.j.mono z8 (λ_ h=>h) (λh=>h),i.mi hm'⟩
 exact⟨s1,e1,iv.go (x1.mono z8 (λ_ h=>by simpa using h) (λh=>h)) λq=>by cases q⟩
theorem aG6(hT:CN toks)(hn:toks.length<n){xs:List (List UInt8)}(h:aEq a (hO self dp q ⟨0,false,true,true,false,false,false,[],false⟩)=some a1)(rm:Rm toks (dB+(dp+1)) (rB+402+1300*(dp+1)) s0):∃s',lO (λs=>eI (aG toks s.pos) xs) (cH toks xs) (mJ toks n R q) n s=some s'/\pZ toks pF pi off s0 s' a1:=by
 cases hc:hO self dp q ⟨0,false,true,true,false,false,false,[],false⟩with
 |none=>rw[hc]at h;cases h
 |some b=>
  rw[hc]at h;unfold aEq at h;simp only[decide_eq_true_eq]at h
  split at h
  case isFalse=>cases h
  rename_i hb;injection h with h;subst h;have rs:=iv.rs ho hS rm;have hp:=iv.hF;have hi:=iv.hi;obtain⟨s1,e1,i1⟩:=TZ (S:=b.S-239) (r:=rB+402+1300*dp) (d:=dB+dp) (al:=b.al++ [104]) (nd:=b.nd) (b:=mJ toks n R q) hT z6 (xs:=xs) z8 (rs.mono z8 z8) (λt ht rt=>by
   obtain⟨t',e,i⟩:=hq dp _ _ pi 0 t t hc ⟨z8,λ_=>rfl⟩ ⟨rt.refl,z8,z8,λ_=>z8,λ_=>z8,λq=>(by cases q),λq=>(by cases q),λq=>(by cases q),λq=>by cases q⟩ rt;exact⟨t',e,i.j.mono z8 (λ_ h=>aUg _ h) (λh=>h)⟩) n s (.inl rfl) z8
  refine⟨s1,e1,iv.go ?_ λq=>by cases q⟩;rcases i1 with rfl| ⟨_,j⟩
  ·exact rs.refl.mono (aUi _) (λx hx=>by cases hx) (λh=>h)
  ·exact j.mono z8 (λ_ h=>h) (λh=>by cases h)
omit hS in
theorem aGh(hK:RE toks)(hn:toks.length<n){c:Cq}(hcn:c.tn=true)(h:aEs a (hO self dp q {a with mi:=false,mv:=a.mv||a.me,ne:=true,br:=false,op:=c.to})=some a1)(rm:Rm toks (dB+dp) (rB+402+1300*dp) s0):∃s',dO (λs=>c.ev toks s) (mJ toks n R q) n s=some s'/\pZ toks pF pi off s0 s' a1:=by
 cases hc:hO self dp q {a with mi:=false,mv:=a.mv||a.me,ne:=true,br:=false,op:=c.to}with
 |none=>rw[hc]at h;cases h
 |some b=>
  rw[hc]at h;unfold aEs at h;simp only at h
  split at h
  case isFalse=>cases h
  rename_i hb;injection h with h;subst h;simp only[aSe,decide_eq_true_eq,List.isEmpty_iff]at hb;obtain⟨⟨⟨⟨⟨h1,h2⟩,h3⟩,h4⟩,h5⟩,h6⟩:=hb;have hp:=iv.j.pos
  suffices hL:∀(m:Nat) (t:PS),pZ toks pF pi off s0 t {a with ne:=false,br:=false,op:=false}->s.pos<=t.pos->toks.length-t.pos<m->∃s',dO (λs=>c.ev toks s) (mJ toks n R q) m t=some s'/\pZ toks pF pi off s0 s' {a with ne:=false,br:=false,op:=false}from
   hL n s ⟨iv.j,iv.hi,iv.hF,iv.mi,iv.mv,iv.me,λq=>(by cases q),λq=>(by cases q),λq=>by cases q⟩ (aSl _) z8
  intro m
  induction m with
  |zero=>intro t _ _ h;omega
  |succ m ih=>
   intro t it ht hm;unfold dO
   by_cases e:c.ev toks t=true
   ·rw[if_pos e];have hl:=(AX c).1 hcn e;obtain⟨t1,e1,i1⟩:=hq dp _ _ t.pos off s0 t hc ho ⟨it.j,aSl _,it.hF,λq=>(by cases q),λq=>(by
     simp only[aTy]at q;rcases q with q|q
     ·exact it.mv q
     ·exact it.me q hl),it.me,λ_=>hl,λq=>(by cases q),λq=>aG3 hK c q e⟩ rm
    have hlt:=i1.mi h3;have hpi:=it.hi;have hpF:=it.hF;have hj1:=i1.j.pos;obtain⟨s',e2,i2⟩:=ih t1 ⟨i1.j.mono (by simp only;omega) (λx hx=>by rw[h4]at hx;cases hx) (λ_=>h2),z8,z8,λq=>by have:=it.mi q;omega,λq=>by have:=it.mv q;omega,λq l=>by have:=it.me q z8;omega,λq=>(by cases q),λq=>(by cases q),λq=>by cases q⟩ z8 z8;exact⟨s',by rw[e1];exact e2,i2⟩
   ·rw[if_neg e];exact⟨t,rfl,it⟩
end
end
section
variable{toks:List Tk}{n d r:Nat}{s0 s:PS}
theorem aP5{S:Int}{al:List Int}(x:J toks S al true s0 s)(rm:Rm toks d (r+1) s):∃s',sQ s=some s'/\J toks (S+1) al true s0 s'/\s'.pos=s.pos:=by
 obtain⟨f,fs,new,a1,a2,a3,a4,a5,a6,a7,a8⟩:=x;obtain⟨g,gs,b1,b2,b3,b4⟩:=rm;rw[a2]at b1;injection b1 with b1 b0;subst b1 b0;obtain⟨t0,ht0,hk0⟩:=a8 rfl;have hne:new≠ []:=by rintro rfl;cases ht0
 obtain⟨ini,y,rfl⟩:∃ini y,new=ini++ [y]:=⟨new.dropLast,new.getLast hne,(List.dropLast_concat_getLast hne).symm⟩;have hm:∀t,t∈ini++ [y]->t∈ini++ [⟨0,[],[]⟩,y]:=λt ht=>by
  rcases aTs.1 ht with q|q
  ·exact aUg _ q
  ·exact List.mem_append_right _ (aUj _ q)
 refine⟨{s with stack:=⟨f.kind,f.kids++(ini++ [⟨0,[],[]⟩,y])⟩::fs}, ?_,⟨f,fs,ini++ [⟨0,[],[]⟩,y],a1,rfl,a3,a4, ?_, ?_,λt ht=> ?_,λ_=>⟨t0,hm _ ht0,hk0⟩⟩,rfl⟩
 ·unfold sQ;rw[a2];simp only[<-aUa,List.getLast?_concat,List.dropLast_concat];simp only[<-aUa]at b3;rw[if_pos z8]
 ·rw[jQ]at a5⊢;simp only[bE,St.size]at a5⊢
  split at a5<;>split<;>simp_all<;>omega
 ·rw[<-a6];simp[vT,tH,wI]
 ·rcases aTs.1 ht with q|q
  ·exact a7 t (aUg _ q)
  ·rcases aTv.1 q with q|q
   ·subst q;exact⟨by simp[wO,okN,PH,VY],λz=>by cases z⟩
   ·exact a7 t (List.mem_append_right _ q)
theorem YQ(hT:CN toks):∀(m:Nat) (s:PS),toks.length-s.pos<m->Rm toks (d+1) 2 s->∃s',dO (λs2=>(eI (aG toks s2.pos) [[58,58]]&& !s2.flag)) (λs2=>(oM toks s2).bind λsq3=>(some {s2 with flag:=eI (aG toks sq3.pos) [[42]]}).bind λs4=>if(!s4.flag)=true then((cJ toks) s4).bind λs5=>((cF 18 (bK toks)) s5).bind λs6=>some s6 else some s4) m s=some s'/\J toks 0 [104] false s s'
 |0,s,h,r=>z8
 |m+1,s,h,r=>by
  unfold dO
  by_cases c:(eI (aG toks s.pos) [[58,58]]&& !s.flag)=true
  ·rw[if_pos c];have hl:=FK (by simp only[aSe]at c;exact c.1);obtain⟨q,eq,_⟩:=EV hT r;simp only[eq,aSy]
   by_cases f:eI (aG toks q.pos) [[42]]=true
   ·rw[f];simp only[aTt,aTc,if_false,aSy];cases m with
    |zero=>omega
    |succ m=>
     unfold dO;simp only[aTt,Bool.and_false,aTc,if_false];exact⟨_,rfl,((r.refl:J toks 0 [] false s s).mono (aUi _) (λ_ h=>by cases h) (λh=>h):J toks 0 [104] false s s)⟩
   ·have f':eI (aG toks q.pos) [[42]]=false:=by simpa using f
    rw[f'];simp only[aTp,if_true];obtain⟨s1,e1,x1,y1⟩:=nE hT (s:= {s with flag:=false}) (r:Rm toks (d+1) 2 s);obtain⟨l1,y1⟩:=y1 hl;have r1:Rm toks (d+1) 2 s1:=x1.rm0 (r:Rm toks (d+1) 2 s) (aUi _);obtain⟨t,et,xt⟩:=CC (r:=1) (d:=d) hT (s:=⟨s1.pos,⟨18,[]⟩::s1.stack,s1.flag⟩) (by
     obtain⟨f,fs,b1,b2,b3,b4⟩:=r1;exact⟨_,_,rfl,b2,by simp only[aT5];omega,by simp only[aS2];omega⟩)
    obtain⟨s2,e2,x2,p2⟩:=CR (k:=18) (r:=1) r1 et xt z7 z7 (λy h=>by rw[aT2.1 h];decide) (λh=>by cases h);simp only[e1,e2,aSy];have x:J toks (-237) [104] false s s2:=(y1.trans x2:J toks _ _ _ s s2).mono z7 (λx hx=>by simpa[QW,OG]using hx) (λh=>by cases h);have hp:t.pos<=toks.length/\s1.pos<=t.pos:=⟨xt.pos.2,xt.pos.1⟩;obtain⟨s3,e3,x3⟩:=YQ hT m s2 (by simp only at l1;omega) (x.rm0 r z7);exact⟨s3,e3,(x.trans x3).mono z7 (λ_ h=>by simpa using h) (λh=>h)⟩
  ·rw[if_neg c];exact⟨s,rfl,r.refl.mono (aUi _) (λ_ h=>by cases h) (λh=>h)⟩
theorem aPn(hT:CN toks)(hn:toks.length<n)(rm:Rm toks (d+3) 1302 s):∃s',m86 toks n s=some s'/\J toks 6 [104] false s s':=by
 have hA:∃s1,cF 17 (UP toks n) {s with flag:=false}=some s1/\J toks 3 [] false s s1:=by
  have r1:Rm toks (d+2) 802 ⟨s.pos,⟨17,[]⟩::s.stack,false⟩:=by
   obtain⟨f,fs,b1,b2,b3,b4⟩:=rm;exact⟨_,_,rfl,b2,by simp only[aT5];omega,by simp only[aS2];omega⟩
  have r2:Rm toks (d+1) 2 ⟨s.pos,⟨18,[]⟩::⟨17,[]⟩::s.stack,false⟩:=by
   obtain⟨f,fs,b1,b2,b3,b4⟩:=rm;exact⟨_,_,rfl,b2,by simp only[aT5];omega,by simp only[aS2];omega⟩
  obtain⟨t,et,xt⟩:=CC (r:=1) hT r2;obtain⟨s1,e1,x1,p1⟩:=CR (k:=18) (r:=801) (d:=d+1) r1 et xt z7 z7 (λy h=>by rw[aT2.1 h];decide) (λh=>by cases h);obtain⟨s2,e2,x2⟩:=YQ (d:=d) hT n s1 z8 ((x1.rm (r:=2) (r1.mono (aSl _) z8) z8).mono z8 z8);have e:UP toks n ⟨s.pos,⟨17,[]⟩::s.stack,false⟩=some s2:=by unfold UP;rw[e1];exact e2
  obtain⟨s3,e3,x3,_⟩:=CR (s:= {s with flag:=false}) (k:=17) (r:=1) (d:=d+2) (rm.mono z8 z8:Rm toks (d+2+1) (1+1) s) e (x1.trans x2) z7 z7 (λy h=>by rw[show y=104 by simpa[QW,OG]using h];decide) (λh=>by cases h);exact⟨s3,e3,(x3:J toks _ _ _ s s3).mono z7 (λx hx=>by simpa[QW,OG]using hx) (λh=>by cases h)⟩
 obtain⟨s1,e1,x1⟩:=hA;have r1:Rm toks (d+3) 902 s1:=x1.rm rm z8;have hE:∀t:PS,Rm toks (d+3) 2 t->∃s',((bP toks [59] t).bind λs4=>some {s4 with flag:=s.flag})=some s'/\J toks 1 [104] false t s':=λt rt=>by
  obtain⟨u,eu,xu,_⟩:=yR hT (x:= [59]) (r:=1) rt;exact⟨{u with flag:=s.flag},by rw[eu];rfl,xu⟩
 unfold m86;refine bM e1 ?_
 split
 ·obtain⟨s2,e2,x2,_⟩:=nE hT r1;obtain⟨s3,e3,x3,_⟩:=nE hT (x2.rm0 r1 (aUi _));obtain⟨s4,e4,x4⟩:=hE s3 ((x3.rm0 (x2.rm0 r1 (aUi _)) (aUi _)).mono (aSl _) z8);refine bM e2 (bM e3 ⟨s4,e4,(((x1.trans x2).trans x3).trans x4).mono z7 (λ_ h=>by simpa using h) (λh=>h)⟩)
 ·obtain⟨s2,e2,x2,_⟩:=pH hT (xs:= [[97,115]]) r1;have r2:=x2.rm0 r1 (aUi _);refine bM e2 ?_
  split
  ·obtain⟨s3,e3,x3⟩:=CC (r:=901) hT r2;obtain⟨s4,e4,x4⟩:=hE s3 ((x3.rm (r:=2) (r2.mono (aSl _) z8) z7).mono (aSl _) z8);exact bM e3 ⟨s4,e4,(((x1.trans x2).trans x3).trans x4).mono z7 (λ_ h=>by simpa using h) (λh=>h)⟩
  ·obtain⟨s4,e4,x4⟩:=hE s2 (r2.mono (aSl _) z8);exact⟨s4,e4,((x1.trans x2).trans x4).mono z7 (λ_ h=>by simpa using h) (λh=>h)⟩
end
section
variable{toks:List Tk}{dB rB K self n pF:Nat}{R:dP}
theorem snd(hT:CN toks)(hK:RE toks)(hn:toks.length<n)(IH:WX toks dB rB K R)(hk:32*(toks.length-pF)+self<=K):∀p,Snd toks n R dB rB self pF p:=by
 intro p
 induction p with
 |skip=>
  intro dp a b pi off s0 s h ho iv rm;have hS:=hU h;have rs:=iv.rs ho hS rm;unfold hO at h;rw[if_neg z8]at h;simp only at h;injection h with h;subst h;exact⟨s,rfl,iv⟩
 |setf v=>
  intro dp a b pi off s0 s h ho iv rm;have hS:=hU h;have rs:=iv.rs ho hS rm;unfold hO at h;rw[if_neg z8]at h;simp only at h;injection h with h;subst h;exact⟨{s with flag:=v},rfl,iv.j,iv.hi,iv.hF,iv.mi,iv.mv,iv.me,iv.ne,iv.br,iv.op⟩
 |bump p ih=>
  intro dp a b pi off s0 s h ho iv rm;have hS:=hU h;have rs:=iv.rs ho hS rm;unfold hO at h;rw[if_neg z8]at h;simp only at h;obtain⟨s1,e1,x1,y1⟩:=nE hT rs;exact bM e1 (ih dp _ _ pi off s0 s1 h ho (iv.bump e1 x1 y1) rm)
 |acc xs p ih=>
  intro dp a b pi off s0 s h ho iv rm;have hS:=hU h;have rs:=iv.rs ho hS rm;unfold hO at h;rw[if_neg z8]at h;simp only at h;obtain⟨s1,e1,x1,_⟩:=pH hT (xs:=xs) rs;exact bM e1 (ih dp _ _ pi off s0 s1 h ho (iv.go x1 λq=>by cases q) rm)
 |acif xs p q ihp ihq=>
  intro dp a b pi off s0 s h ho iv rm;have hS:=hU h;have rs:=iv.rs ho hS rm;unfold hO at h;rw[if_neg z8]at h;simp only at h;obtain⟨u,v,hu,hv,rfl⟩:=wA h;obtain⟨s1,e1,x1,y1,z1⟩:=pH hT (xs:=xs) rs;refine bM e1 ?_
  by_cases c:eI (aG toks s.pos) xs=true
  ·rw[if_pos c];obtain⟨s',e,i⟩:=ihp dp _ _ pi off s0 s1 hu ho (iv.go (y1 c).2 λ_=>(y1 c).1) rm;exact⟨s',e,i.joinL⟩
  ·rw[if_neg c,z1 c];obtain⟨s',e,i⟩:=ihq dp _ _ pi off s0 s hv ho iv rm;exact⟨s',e,i.joinR⟩
 |exp x p ih=>
  intro dp a b pi off s0 s h ho iv rm;have hS:=hU h;have rs:=iv.rs ho hS rm;unfold hO at h;rw[if_neg z8]at h;simp only at h;obtain⟨s1,e1,x1,y1⟩:=yR hT (x:=x) (r:=1+1300*dp+rB) (rs.mono (aSl _) z8);refine bM e1 ?_
  split at h
  ·rename_i c;simp only[aSe,decide_eq_true_eq]at c;have:=y1 (by rw[c.2];exact iv.br c.1);exact ih dp _ _ pi off s0 s1 h ho (iv.go this.2 λ_=>this.1) rm
  ·exact ih dp _ _ pi off s0 s1 h ho (iv.go x1 λq=>by cases q) rm
 |idt p ih=>
  intro dp a b pi off s0 s h ho iv rm;have hS:=hU h;have rs:=iv.rs ho hS rm;unfold hO at h;rw[if_neg z8]at h;simp only at h;obtain⟨s1,e1,x1⟩:=CC hT (r:=1+1300*dp+rB) (rs.mono (aSl _) z8);exact bM e1 (ih dp _ _ pi off s0 s1 h ho (iv.go x1 λq=>by cases q) rm)
 |mis k p ih=>
  intro dp a b pi off s0 s h ho iv rm;have hS:=hU h;have rs:=iv.rs ho hS rm;unfold hO at h;rw[if_neg z8]at h;simp only at h
  split at h
  ·cases h
  rename_i c;simp only[aTy,aSf,Bool.or_eq_false_iff,decide_eq_true_eq,decide_eq_false_iff_not,not_or]at c;obtain⟨⟨c1,c2⟩,c3⟩:=c;obtain⟨s1,e1,x1,_⟩:=JH (k:=k) rs z8 (by simpa using c1) c2 z8;exact bM e1 (ih dp _ _ pi off s0 s1 h ho (iv.go x1 λq=>by cases q) rm)
 |call fn p ih=>
  intro dp a b pi off s0 s h ho iv rm;have hS:=hU h;have rs:=iv.rs ho hS rm;unfold hO at h;rw[if_neg z8]at h;simp only at h;obtain⟨u,hu,h⟩:=pQ h;obtain⟨s1,e1,i1⟩:=XF IH hk hu ho hS iv rm;exact bM e1 (ih dp _ _ pi off s0 s1 h ho i1 rm)
 |callT fn=>
  intro dp a b pi off s0 s h ho iv rm;have hS:=hU h;have rs:=iv.rs ho hS rm;unfold hO at h;rw[if_neg z8]at h;simp only at h;exact XF IH hk h ho hS iv rm
 |bumpT=>
  intro dp a b pi off s0 s h ho iv rm;have hS:=hU h;have rs:=iv.rs ho hS rm;unfold hO at h;rw[if_neg z8]at h;simp only at h;injection h with h;subst h;obtain⟨s1,e1,x1,y1⟩:=nE hT rs;exact⟨s1,e1,iv.bump e1 x1 y1⟩
 |node k q p ihq ih=>
  intro dp a b pi off s0 s h ho iv rm;have hS:=hU h;have rs:=iv.rs ho hS rm;unfold hO at h;rw[if_neg z8]at h;simp only at h;cases dp with
  |zero=>cases h
  |succ dp=>
   obtain⟨u,hu,h⟩:=pQ h;obtain⟨s1,e1,i1⟩:=aCl ihq ho iv hS hu rm;exact bM e1 (ih _ _ _ pi off s0 s1 h ho i1 rm)
 |nodeT k q ihq=>
  intro dp a b pi off s0 s h ho iv rm;have hS:=hU h;have rs:=iv.rs ho hS rm;unfold hO at h;rw[if_neg z8]at h;simp only at h;cases dp with
  |zero=>cases h
  |succ dp=>exact aCl ihq ho iv hS h rm
 |wrap k q p ihq ih=>
  intro dp a b pi off s0 s h ho iv rm;have hS:=hU h;have rs:=iv.rs ho hS rm;unfold hO at h;rw[if_neg z8]at h;simp only at h;cases dp with
  |zero=>cases h
  |succ dp=>
   obtain⟨u,hu,h⟩:=pQ h;obtain⟨s1,e1,i1⟩:=aMf ihq ho iv hS hu rm;exact bM e1 (ih _ _ _ pi off s0 s1 h ho i1 rm)
 |opt t q p ihq ih=>
  intro dp a b pi off s0 s h ho iv rm;have hS:=hU h;have rs:=iv.rs ho hS rm;unfold hO at h;rw[if_neg z8]at h;simp only at h;obtain⟨u,hu,h⟩:=pQ h;obtain⟨x,y,hx,hy,rfl⟩:=wA hu;obtain⟨s1,e1,x1,y1,z1⟩:=pH hT (xs:= [t]) rs;have key:∃s',jI toks t (mJ toks n R q) s=some s'/\pZ toks pF pi off s0 s' (pD x y):=by
   unfold jI;refine bM e1 ?_
   by_cases c:eI (aG toks s.pos) [t]=true
   ·rw[if_pos c];obtain⟨s',e,i⟩:=ihq dp _ _ pi off s0 s1 hx ho (iv.go (y1 c).2 λ_=>(y1 c).1) rm;exact⟨s',e,i.joinL⟩
   ·rw[if_neg c,z1 c];injection hy with hy;subst hy;obtain⟨s',e,x2,_⟩:=JH (k:=0) rs z8 rfl z7 z7;exact⟨s',e,(iv.go (m:=false) x2 λq=>by cases q).joinR⟩
  obtain⟨s2,e2,i2⟩:=key;exact bM e2 (ih dp _ _ pi off s0 s2 h ho i2 rm)
 |lst c q p ihq ih=>
  intro dp a b pi off s0 s h ho iv rm;have hS:=hU h;have rs:=iv.rs ho hS rm;unfold hO at h;rw[if_neg z8]at h;simp only at h;cases dp with
  |zero=>cases h
  |succ dp=>
   obtain⟨u,hu,h⟩:=pQ h;obtain⟨s1,e1,i1⟩:=aPv ihq ho iv hS hT hn hu rm;exact bM e1 (ih _ _ _ pi off s0 s1 h ho i1 rm)
 |lop c q p ihq ih=>
  intro dp a b pi off s0 s h ho iv rm;have hS:=hU h;have rs:=iv.rs ho hS rm;unfold hO at h;rw[if_neg z8]at h;simp only at h;cases dp with
  |zero=>cases h
  |succ dp=>
   simp only at h
   split at h
   case isFalse=>cases h
   rename_i hcn;obtain⟨u,hu,h⟩:=pQ h;obtain⟨s1,e1,i1⟩:=aGk ihq ho iv hS hT hn hcn hu rm;exact bM e1 (ih _ _ _ pi off s0 s1 h ho i1 rm)
 |lopF c q p ihq ih=>
  intro dp a b pi off s0 s h ho iv rm;have hS:=hU h;have rs:=iv.rs ho hS rm;unfold hO at h;rw[if_neg z8]at h;simp only at h;cases dp with
  |zero=>cases h
  |succ dp=>
   simp only at h
   split at h
   case isFalse=>cases h
   rename_i hcn;obtain⟨u,hu,h⟩:=pQ h;have iv':pZ toks pF pi off s0 {s with flag:=false} a:=⟨iv.j,iv.hi,iv.hF,iv.mi,iv.mv,iv.me,iv.ne,iv.br,iv.op⟩;obtain⟨s1,e1,i1⟩:=aGk ihq ho iv' hS hT hn hcn hu rm;exact bM e1 (ih _ _ _ pi off s0 s1 h ho i1 rm)
 |lpw c q p ihq ih=>
  intro dp a b pi off s0 s h ho iv rm;have hS:=hU h;have rs:=iv.rs ho hS rm;unfold hO at h;rw[if_neg z8]at h;simp only at h
  split at h
  case isFalse=>cases h
  rename_i hcn;obtain⟨u,hu,h⟩:=pQ h;obtain⟨s1,e1,i1⟩:=aGh ihq ho iv hK hn hcn hu rm;exact bM e1 (ih _ _ _ pi off s0 s1 h ho i1 rm)
 |lpwT c q ihq=>
  intro dp a b pi off s0 s h ho iv rm;have hS:=hU h;have rs:=iv.rs ho hS rm;unfold hO at h;rw[if_neg z8]at h;simp only at h
  split at h
  case isFalse=>cases h
  rename_i hcn;exact aGh ihq ho iv hK hn hcn h rm
 |lpe xs q p ihq ih=>
  intro dp a b pi off s0 s h ho iv rm;have hS:=hU h;have rs:=iv.rs ho hS rm;unfold hO at h;rw[if_neg z8]at h;simp only at h;cases dp with
  |zero=>cases h
  |succ dp=>
   obtain⟨u,hu,h⟩:=pQ h;obtain⟨s1,e1,i1⟩:=aG6 ihq ho iv hS hT hn hu rm;exact bM e1 (ih _ _ _ pi off s0 s1 h ho i1 rm)
 |lpeT xs q ihq=>
  intro dp a b pi off s0 s h ho iv rm;have hS:=hU h;have rs:=iv.rs ho hS rm;unfold hO at h;rw[if_neg z8]at h;simp only at h;cases dp with
  |zero=>cases h
  |succ dp=>exact aG6 ihq ho iv hS hT hn h rm
 |ite c p q ihp ihq=>
  intro dp a b pi off s0 s h ho iv rm;have hS:=hU h;have rs:=iv.rs ho hS rm;unfold hO at h;rw[if_neg z8]at h;simp only at h;obtain⟨u,v,hu,hv,rfl⟩:=wA h;show ∃s',(if c.ev toks s=true then mJ toks n R p s else mJ toks n R q s)=some s'/\_
  by_cases e:c.ev toks s=true
  ·rw[if_pos e];obtain⟨s',e,i⟩:=ihp dp _ _ pi off s0 s hu ho (iv.inf hK e) rm;exact⟨s',e,i.joinL⟩
  ·rw[if_neg e];obtain⟨s',e,i⟩:=ihq dp _ _ pi off s0 s hv ho (iv.inf hK (by simpa using e)) rm;exact⟨s',e,i.joinR⟩
 |look c p q ihp ihq=>
  intro dp a b pi off s0 s h ho iv rm;have hS:=hU h;have rs:=iv.rs ho hS rm;unfold hO at h;rw[if_neg z8]at h;simp only at h;obtain⟨u,v,hu,hv,rfl⟩:=wA h;obtain⟨z,ez,_⟩:=EV hT rs;refine bM ez ?_
  by_cases e:c.ev toks z=true
  ·rw[if_pos e];obtain⟨s',e,i⟩:=ihp dp _ _ pi off s0 s hu ho iv rm;exact⟨s',e,i.joinL⟩
  ·rw[if_neg e];obtain⟨s',e,i⟩:=ihq dp _ _ pi off s0 s hv ho iv rm;exact⟨s',e,i.joinR⟩
 |look2 c d p q r ihp ihq ihr=>
  intro dp a b pi off s0 s h ho iv rm;have hS:=hU h;have rs:=iv.rs ho hS rm;unfold hO at h;rw[if_neg z8]at h;simp only at h;obtain⟨uv,w,huv,hw,rfl⟩:=wA h;obtain⟨u,v,hu,hv,rfl⟩:=wA huv;obtain⟨z,ez,rz⟩:=EV hT rs;obtain⟨y,ey,_⟩:=EV hT rz;refine bM ez ?_
  by_cases e:c.ev toks z=true
  ·rw[if_pos e];refine bM ey ?_
   by_cases e:d.ev toks y=true
   ·rw[if_pos e];obtain⟨s',e,i⟩:=ihp dp _ _ pi off s0 s hu ho iv rm;exact⟨s',e,i.joinL.joinL⟩
   ·rw[if_neg e];obtain⟨s',e,i⟩:=ihq dp _ _ pi off s0 s hv ho iv rm;exact⟨s',e,i.joinR.joinL⟩
  ·rw[if_neg e];obtain⟨s',e,i⟩:=ihr dp _ _ pi off s0 s hw ho iv rm;exact⟨s',e,i.joinR⟩
 |ins p ih=>
  intro dp a b pi off s0 s h ho iv rm;have hS:=hU h;have rs:=iv.rs ho hS rm;unfold hO at h;rw[if_neg z8]at h;simp only at h
  split at h
  case isFalse=>cases h
  rename_i c;have j:=iv.j;rw[c]at j;obtain⟨s1,e1,x1,p1⟩:=aP5 j (rs.mono (r':=1+1) (aSl _) z8);refine bM e1 (ih dp _ _ pi off s0 s1 h ho ⟨x1.mono (by simp only[Ab.go];omega) (λx hx=>by simpa[Ab.go]using hx) (λ_=>rfl),by rw[p1];exact iv.hi,by rw[p1];exact iv.hF,λq=>by rw[p1];exact iv.mi (by simpa[Ab.go]using q),λq=>by rw[p1];exact iv.mv (by simpa[Ab.go]using q),λq=>by rw[p1];exact iv.me q,λq=>(by cases q),λq=>(by cases q),λq=>by cases q⟩ rm)
 |seq q p ihq ih=>
  intro dp a b pi off s0 s h ho iv rm;have hS:=hU h;have rs:=iv.rs ho hS rm;unfold hO at h;rw[if_neg z8]at h;simp only at h;obtain⟨u,hu,h⟩:=pQ h;obtain⟨s1,e1,i1⟩:=ihq dp _ _ pi off s0 s hu ho iv rm;exact bM e1 (ih dp _ _ pi off s0 s1 h ho i1 rm)
 |use p ih=>
  intro dp a b pi off s0 s h ho iv rm;have hS:=hU h;have rs:=iv.rs ho hS rm;unfold hO at h;rw[if_neg z8]at h;simp only at h
  match dp,h,rm,rs with
  |0,h,_,_=>cases h
  |1,h,_,_=>cases h
  |2,h,_,_=>cases h
  |dp+3,h,rm,rs=>
   obtain⟨s1,e1,x1⟩:=aPn (d:=dB+dp) hT hn (rs.mono z8 z8);exact bM e1 (ih _ _ _ pi off s0 s1 h ho (iv.go x1 λq=>by cases q) rm)
end
section
variable{toks:List Tk}{dB rB K n:Nat}{R:dP}{s s':PS}
theorem JI:∀(a b:List St),zF a=true->zF (a++b)=true
 | [],b,h=>by cases h
 |c::a,b,h=>by
  simp only[aSg,zF]at h⊢
  split
  ·rename_i q;rw[if_pos q]at h;exact JI a b h
  ·rename_i q;rw[if_neg q]at h;exact h
theorem OB(hT:CN toks)(hp:(aG toks s.pos).kind≠100)(h:cJ toks s=some s'){f:vU}{fs:List vU}(e:s.stack=f::fs):∃new,s'.stack=⟨f.kind,f.kids++new⟩::fs/\zF new=true:=by
 obtain⟨s1,h1,h2⟩:=vR h;obtain⟨new,a2,a3,a4,a5⟩:=yJ _ h1 e;have htl:∀(l:List St) (t:St),(∀x∈l,SW x.kind=true)->zF [t]=true->zF (l++ [t])=true:=λl t hl ht=>by
  induction l with
  |nil=>exact ht
  |cons c l ih=>
   simp only[aSg,zF,hl c z6,if_true];exact ih λx hx=>hl x (by simp[hx])
 split at h2
 ·rename_i hlt;obtain⟨hl,s2,h3,h4,h5⟩:=sD h2;have htk:=hT _ (aTk hl);have hk:SW toks[s1.pos].kind=false:=a5 (aSl _) hl;refine⟨new++ [St.mk toks[s1.pos].kind toks[s1.pos].text []],by rw[h5];exact(IX h3 a2).trans z6,htl _ _ a3 ?_⟩;have h100:100<=toks[s1.pos].kind:=z8
  simp[zF,St.kind,St.text,hk,htk.1,h100]
 ·rename_i hge;exfalso;rw[a4,oY z8]at hp;exact hp rfl
theorem Rm.kid{d r d' r':Nat}(rm:Rm toks d r s)(k:Int)(h1:d'+1<=d)(h2:r'<=r):Rm toks d' r' ⟨s.pos,⟨k,[]⟩::s.stack,s.flag⟩:=by
 obtain⟨f,fs,b1,b2,b3,b4⟩:=rm;exact⟨_,_,rfl,b2,by simp only[aT5];omega,by simp only[aS2];omega⟩
theorem NG(hT:CN toks)(hK:RE toks)(hn:toks.length<n)(IH:WX toks dB rB K R){p:Pr}{self dp:Nat}{e c:Bool}{b:Ab}(hc:hO self dp p ⟨0,false,false,false,false,e,c,[],false⟩=some b)(he:e=true->s.pos<toks.length)(hb:c=true->GJ toks s=true)(hk:32*(toks.length-s.pos)+self<=K)(rm:Rm toks (dB+dp) (rB+402+1300*dp) s):∃s',mJ toks n R p s=some s'/\J toks b.S b.al b.nd s s'/\(b.mi=true->s.pos<s'.pos):=by
 obtain⟨s',e1,i⟩:=snd hT hK hn IH hk p dp _ _ s.pos 0 s s hc ⟨z7,λ_=>rfl⟩ ⟨rm.refl,aSl _,aSl _,λq=>(by cases q),λq=>(by cases q),λq=>(by cases q),he,hb,λq=>by cases q⟩ rm;exact⟨s',e1,i.j.mono z8 (λ_ h=>h) (λh=>h),i.mi⟩
theorem LE(hT:CN toks)(hK:RE toks)(hn:toks.length<n)(IH:WX toks dB rB K R){fn:xP}{S:Int}{e c:Bool}(hg:fE fn {EJ fn with ne:=e,br:=c} S=true)(he:e=true->s.pos<toks.length)(hb:c=true->GJ toks s=true)(hk:32*(toks.length-s.pos)+NJ fn c<=K)(rm:Rm toks (dB+8) (rB+10802) s):∃s',mJ toks n R (prog fn) s=some s'/\J toks S (alF fn) (ndF fn) s s'/\(mvF fn=true->e=true->s.pos<s'.pos):=by
 unfold fE at hg
 split at hg
 case h_2=>cases hg
 rename_i b hc;simp only[aSe,aTy,aSf,decide_eq_true_eq,aTr,aTz]at hg;obtain⟨⟨⟨h1,h2⟩,h3⟩,h4⟩:=hg;obtain⟨s',e1,x,m⟩:=NG hT hK hn IH hc he hb hk (rm.mono (aSl _) z8);refine⟨s',e1,x.mono h1 h4 (λq=> ?_),λq1 q2=>m ?_⟩
 ·rcases h2 with h2|h2
  ·rw[q]at h2;cases h2
  ·exact h2
 ·rcases h3 with h3|h3
  ·rw[q1,q2]at h3;cases h3
  ·exact h3
theorem nU(hT:CN toks)(hK:RE toks)(hn:toks.length<n)(IH:WX toks dB rB K R){fn:xP}(hg:fE fn (EJ fn) (SF fn)=true)(hbl:yU fn=false)(har:UH fn=false)(hmv:mvF fn=JT fn)(hden:TJ toks n R fn=mJ toks n R (prog fn))(hpo:UW fn=false)(hp:JT fn=true->s.pos<toks.length)(hk:oV toks fn s<=K):Spc toks (dB+8) (rB+10802) fn (TJ toks n R fn) s:=by
 refine⟨λh=>(by rw[hpo]at h;cases h),λ_ rm=> ?_⟩;obtain⟨s',e,x,m⟩:=LE (e:=JT fn) (c:=false) hT hK hn IH hg hp (λh=>by cases h) (by simpa[oV,NJ,hbl]using hk) rm;exact⟨s',by rw[hden];exact e,by simpa[SFb,hbl,har]using x,λq _=>m q (by rw[<-hmv];exact q)⟩
theorem QC(k:Int):fE (.itemBody k) (EJ (.itemBody k)) 24=true:=by
 by_cases h2:k=2
 ·subst h2;rfl
 by_cases h3:k=3
 ·subst h3;rfl
 by_cases h4:k=4
 ·subst h4;rfl
 by_cases h5:k=5
 ·subst h5;rfl
 by_cases h6:k=6
 ·subst h6;rfl
 by_cases h7:k=7
 ·subst h7;rfl
 by_cases h8:k=8
 ·subst h8;rfl
 by_cases h9:k=9
 ·subst h9;rfl
 unfold fE prog;simp only[h2,h3,h4,h5,h6,h7,h8,h9,if_false,or_self];rfl
end
section
variable{toks:List Tk}{dB rB K n:Nat}{R:dP}{s s':PS}
theorem aAg(hT:CN toks)(hK:RE toks)(hn:toks.length<n)(IH:WX toks dB rB K R)(P:PS->Option PS)(bb:Bool)(hp:s.pos<toks.length)(hk:32*(toks.length-s.pos)+14<=K)(rm:Rm toks (dB+8) (rB+10802) s)(hP:∃s1,P s=some s1/\J toks 3 [] true s s1):∃s',((P s).bind λs1=>if decide (((s1.pos:Nat):Int)=((s.pos:Nat):Int))=true then((CP s1).bind λs2=>((jZ toks) s2).bind λs3=>some {s3 with flag:=false})else(if eI (aG toks s1.pos) [[125]]=true then(some {s1 with flag:=true})else(if eI (aG toks s1.pos) [[61]]=true then(((iP 23 (aAo toks n R)) s1).bind λs2=>some {s2 with flag:=false})else(((iP 26 (XI toks n R bb)) s1).bind λs2=>some {s2 with flag:=false}))))=some s'/\J toks 5 [] false s s'/\s.pos<s'.pos:=by
 obtain⟨s1,e1,x1⟩:=hP;have p1:=x1.pos;have r1:Rm toks (dB+8) (rB+10402) s1:=x1.rm (rm.mono (aSl _) z8) z8;refine bM e1 ?_
 by_cases c:s1.pos=s.pos
 ·simp only[c,decide_true,if_true];obtain⟨f,fs,ini,y,z1,z2⟩:=x1.last;obtain⟨f',fs',new,a1,a2,a3,a4,a5,a6,a7,a8⟩:=x1;rw[z1]at a1;injection a1 with a1 a0;subst a1 a0;have hnew:new=ini++ [y]:=by
   rw[z2]at a2;injection a2 with a2 _;injection a2 with _ a2;rw[aUa]at a2;exact(List.append_cancel_left a2).symm
  subst hnew;have ed:CP s1=some {s1 with stack:=⟨f.kind,f.kids++ini⟩::fs}:=by
   unfold CP;rw[z2];simp only[List.getLast?_concat,List.dropLast_concat]
  have x2:J toks 3 [] false s {s1 with stack:=⟨f.kind,f.kids++ini⟩::fs}:=by
   refine⟨f,fs,ini,z1,rfl,a3,a4, ?_, ?_,λt ht=>a7 t (aUg _ ht),λh=>by cases h⟩
   ·rw[jQ]at a5;simp only;omega
   ·rw[vT,c,vF]at a6;simp only[c,vF];exact(List.append_eq_nil_iff.1 a6).1
  refine bM ed ?_;have r2:Rm toks (dB+8) (rB+10402) {s1 with stack:=⟨f.kind,f.kids++ini⟩::fs}:=x2.rm (rm.mono (aSl _) z8) z8;obtain⟨s3,e3,x3,m3⟩:=NG (p:=.nodeT 46 .bumpT) (self:=0) (dp:=1) (e:=true) (c:=false) (s:= {s1 with stack:=⟨f.kind,f.kids++ini⟩::fs}) hT hK hn IH rfl (λ_=>by simp only;omega) (λh=>by cases h) (by simp only;omega) (r2.mono z8 z8);refine⟨{s3 with flag:=false},by rw[show jZ toks {s1 with stack:=⟨f.kind,f.kids++ini⟩::fs}=some s3 from e3];rfl,((x2.trans x3).mono z7 (λx hx=>by simp[QW,OG]at hx) (λh=>by cases h):J toks 5 [] false s s3),by have:=m3 rfl;simp only at this⊢;omega⟩
 ·have ci:¬((s1.pos:Int)=(s.pos:Int)):=z8
  simp only[ci,decide_false,aTc,if_false]
  by_cases c1:eI (aG toks s1.pos) [[125]]=true
  ·rw[if_pos c1];exact⟨_,rfl,(x1.mono z7 (λ_ h=>h) (λh=>by cases h):J toks 5 [] false s s1),by simp only;omega⟩
  ·rw[if_neg c1];have iv:∀e,(e=true->s1.pos<toks.length)->pZ toks s.pos s1.pos 0 s s1 ⟨3,true,false,true,false,e,false,[],false⟩:=λe he=>⟨x1,aSl _,z8,λq=>(by cases q),λ_=>z8,λq=>(by cases q),he,λq=>(by cases q),λq=>by cases q⟩
   by_cases c2:eI (aG toks s1.pos) [[61]]=true
   ·rw[if_pos c2];obtain⟨s2,e2,i2⟩:=snd hT hK hn IH (self:=14) hk (.wrap 23 aQ6 (.setf false)) 2 _ _ s1.pos 0 s s1 rfl ⟨z7,λ_=>rfl⟩ (iv true λ_=>FK c2) (rm.mono z8 z8);exact⟨s2,e2,i2.j.mono z7 (λx hx=>by simpa using hx) (λh=>by cases h),by have:=i2.hi;omega⟩
   ·rw[if_neg c2];cases bb
    all_goals
     obtain⟨s2,e2,i2⟩:=snd hT hK hn IH (self:=14) hk (.wrap 26 (aQw _) (.setf false)) 2 _ _ s1.pos 0 s s1 rfl ⟨z7,λ_=>rfl⟩ (iv false λh=>by cases h) (rm.mono z8 z8);exact⟨s2,e2,i2.j.mono z7 (λx hx=>by simpa using hx) (λh=>by cases h),by have:=i2.hi;omega⟩
theorem LQ(hT:CN toks)(hK:RE toks)(hn:toks.length<n)(IH:WX toks dB rB K R)(hp:s.pos<toks.length)(hk:32*(toks.length-s.pos)+14<=K)(rm:Rm toks (dB+8) (rB+10802) s):∃s',aB8 toks n R s=some s'/\J toks 5 [] false s s'/\s.pos<s'.pos:=by
 have st:∀p:Pr,(∃b,hO 14 8 p ⟨0,false,false,false,false,true,false,[],false⟩=some b/\b.S<=5/\b.al= []/\b.mi=true)->∃s',mJ toks n R p s=some s'/\J toks 5 [] false s s'/\s.pos<s'.pos:=λp ⟨b,hc,h1,h2,h3⟩=>by
  obtain⟨s',e,x,m⟩:=NG hT hK hn IH hc (λ_=>hp) (λh=>by cases h) hk (rm.mono (aSl _) z8);exact⟨s',e,x.mono h1 (λx hx=>by rw[h2]at hx;exact hx) (λh=>by cases h),m h3⟩
 have hx:∀p:Pr,(∃b,hO 14 8 p ⟨0,false,false,false,false,true,false,[],false⟩=some b/\b.S<=3/\b.al= []/\b.nd=true)->∃s',mJ toks n R p s=some s'/\J toks 3 [] true s s':=λp ⟨b,hc,h1,h2,h3⟩=>by
  obtain⟨s',e,x,m⟩:=NG hT hK hn IH hc (λ_=>hp) (λh=>by cases h) hk (rm.mono (aSl _) z8);exact⟨s',e,x.mono h1 (λx hx=>by rw[h2]at hx;exact hx) (λ_=>h3)⟩
 unfold aB8
 split
 ·exact st (.node 22 (.callT .letS) (.setf false)) ⟨_,rfl,z7,rfl,rfl⟩
 split
 ·exact st (.node 24 aQ5 (.setf false)) ⟨_,rfl,z7,rfl,rfl⟩
 split
 ·exact st (.node 25 (.callT .returnStmt) (.setf false)) ⟨_,rfl,z7,rfl,rfl⟩
 split
 ·exact aAg hT hK hn IH _ _ hp hk rm (hx (.callT .primary) ⟨_,rfl,z7,rfl,rfl⟩)
 ·exact aAg hT hK hn IH _ _ hp hk rm (hx (.callT .expr) ⟨_,rfl,z7,rfl,rfl⟩)
end
theorem KQ(t:List UInt8):0<=bI t/\bI t<=9:=by
 have hi1:=TL (p:=λx=>decide (t=x)) (xs:=lW);have hle:(lW.length:Int)=8:=rfl;unfold bI
 split<;>exact⟨z8,z8⟩
section
variable{toks:List Tk}{dB rB K n:Nat}{R:dP}{s s':PS}
theorem aPf(hT:CN toks)(hK:RE toks)(hn:toks.length<n)(IH:WX toks dB rB K R){k:Int}(hp:(aG toks s.pos).kind≠100)(hk:32*(toks.length-s.pos)<=K)(rm:Rm toks dB (rB+402) s):∃s',m79 toks n R k s=some s'/\J toks (-215) (104::alF (.itemBody k)) false s s'/\s.pos<s'.pos/\∀f fs,s.stack=f::fs->∃new,s'.stack=⟨f.kind,f.kids++new⟩::fs/\zF new=true:=by
 have hl:=RY hp;obtain⟨s1,e1,x1,y1,z1⟩:=pH hT (xs:= [[112,117,98]]) rm;have r1:=x1.rm0 rm (aUi _);obtain⟨s2,e2,x2,y2⟩:=nE hT r1;have r2:=x2.rm0 r1 (aUi _);have key:J toks (-239) [104] false s s2/\s.pos<s2.pos/\∀f fs,s.stack=f::fs->∃new,s2.stack=⟨f.kind,f.kids++new⟩::fs/\zF new=true:=by
  by_cases c:eI (aG toks s.pos) [[112,117,98]]=true
  ·obtain⟨l1,j1⟩:=y1 c;refine⟨(j1.trans x2).mono (aUi _) (λ_ h=>by simpa using h) (λh=>h),by have:=x2.pos;omega,λf fs hf=> ?_⟩;have e1':cJ toks s=some s1:=by rw[<-e1];unfold cH;rw[if_pos c]
   obtain⟨n1,a1,a2⟩:=OB hT hp e1' hf;obtain⟨g,gs,n2,b1,b2,_⟩:=x2;rw[a1]at b1;injection b1 with b1 b0;subst b1 b0;exact⟨n1++n2,by rw[b2];simp,JI _ _ a2⟩
  ·have:=z1 c;subst this;obtain⟨l2,j2⟩:=y2 hl;exact⟨j2,l2,λf fs hf=>OB hT hp e2 hf⟩
 obtain⟨j,l,hh⟩:=key;have hp2:=x2.pos;obtain⟨s3,e3,x3,_⟩:=(IH (.itemBody k) s2 (λq=>by cases q) rfl (by simp only[oV,NJ,yU,rmx,Bool.false_and,aTc,if_false];omega)).2 rfl (r2.mono (aSl _) z8);refine⟨s3,by unfold m79;rw[e1];simp only[aSy,e2,e3],(j.trans x3).mono (by simp[SFb,yU,UH,SF]) (λx hx=>by simpa using hx) (λh=>by cases h),by have:=x3.pos;omega,λf fs hf=> ?_⟩;obtain⟨n1,a1,a2⟩:=hh f fs hf;obtain⟨g,gs,n2,b1,b2,_⟩:=x3;rw[a1]at b1;injection b1 with b1 b0;subst b1 b0;exact⟨n1++n2,by rw[b2];simp,JI _ _ a2⟩
theorem aMd(hT:CN toks)(hK:RE toks)(hn:toks.length<n)(IH:WX toks dB rB K R)(hp:s.pos<toks.length)(hk:32*(toks.length-s.pos)+18<=K)(rm:Rm toks (dB+8) (rB+10802) s):∃s',m51 toks n R s=some s'/\J toks 1 [7] false s s'/\s.pos<s'.pos:=by
 have hA:∃s',((m77 toks n R s).bind λs1=>some s1)=some s'/\J toks 1 [7] false s s'/\s.pos<s'.pos:=by
  obtain⟨b,hb,h1,h2,h3⟩:∃b,hO 18 8 aQz ⟨0,false,false,false,false,true,false,[],false⟩=some b/\b.S<=1/\b.al= []/\b.mi=true:=⟨_,rfl,z7,rfl,rfl⟩;obtain⟨s',e,x,m⟩:=NG hT hK hn IH hb (λ_=>hp) (λh=>by cases h) hk (rm.mono (aSl _) z8);exact⟨s',by rw[show m77 toks n R s=some s' from e];rfl,x.mono h1 (λx hx=>by rw[h2]at hx;cases hx) (λh=>by cases h),m h3⟩
 have hB:∀t:List UInt8,(aG toks s.pos).kind≠100->∃s',((cF (bI t) (m79 toks n R (bI t)) s).bind λs1=>some s1)=some s'/\J toks 1 [7] false s s'/\s.pos<s'.pos:=λt hp=>by
  obtain⟨h0,h1⟩:=KQ t;generalize bI t=k at*;have rk:=rm.kid (d':=dB) (r':=rB+402) k z8 z8;obtain⟨s2,e2,x2,l2,hh⟩:=aPf hT hK hn IH (k:=k) (s:=⟨s.pos,⟨k,[]⟩::s.stack,s.flag⟩) hp (by simp only;omega) rk;obtain⟨s3,e3,x3,p3⟩:=TB (r:=1) (d:=dB) (rm.mono z8 z8) e2 x2 z8 λnew hnew hm=>KC (λu hu=>⟨(hm u hu).1,λq=>by
   have h3:=(hm u hu).2 q;have h4:=XM (k:=k) z8 z8;rcases aTv.1 h3 with h3|h3
   ·rw[h3];exact h4
   unfold alF at h3;simp only at h3
   split at h3
   ·rename_i h39;rcases aTv.1 h3 with h3|h3
    ·rw[h3];exact h4
    rw[aT2]at h3;rw[h3];rcases h39 with rfl|rfl<;>decide
   ·rw[aT2.1 h3];exact h4⟩) (λq=>z8) (λq=>by
    obtain⟨n2,a1,a2⟩:=hh _ _ rfl;rw[hnew]at a1;injection a1 with a1 _;injection a1 with _ a1;rw[a1];exact a2) z8
  refine⟨s3,by rw[e3];rfl,x3.mono z7 (λx hx=> ?_) (λh=>by cases h),by rw[p3];exact l2⟩;unfold QW at hx
  split at hx
  ·rename_i q;simp only[OG,aTy,decide_eq_true_eq]at q;rw[aT2]at hx;simp;omega
  ·cases hx
 unfold m51
 split
 ·rename_i c;obtain⟨z,ez,_⟩:=EV hT rm;rw[ez];simp only[aSy];have hp:(aG toks s.pos).kind≠100:=by
   unfold eI at c;simp only[aSe,aTy,decide_eq_true_eq]at c;omega
  split
  ·exact hA
  ·exact hB _ hp
 ·split
  ·exact hA
  ·rename_i c;have hp:(aG toks s.pos).kind≠100:=by
    simp only[aTy,aSf,decide_eq_true_eq,decide_eq_false_iff_not]at c;have:(aG toks s.pos).kind=104:=Classical.byContradiction λq=>c (.inr q);omega
   exact hB _ hp
theorem aNe(hT:CN toks)(hK:RE toks)(hn:toks.length<n)(IH:WX toks dB rB K R):WX toks (dB+8) (rB+10802) (K+1) (TJ toks n R):=by
 intro fn s hp hb hk;have hk':oV toks fn s<=K:=z8
 cases fn with
 |block=>
  refine⟨λh=>(by cases h),λ_ rm=> ?_⟩
  by_cases c:GJ toks s=true
  ·obtain⟨s',e,x,m⟩:=LE (e:=true) (c:=true) hT hK hn IH RM.2 (λ_=>FK c) (λ_=>c) (by simpa[oV,c]using hk') rm;exact⟨s',e,by rw[c];exact x,λh=>by cases h⟩
  ·have c':GJ toks s=false:=by simpa using c
   obtain⟨s',e,x,m⟩:=LE (e:=false) (c:=false) hT hK hn IH RM.1 (λh=>by cases h) (λh=>by cases h) (by simpa[oV,c']using hk') rm;exact⟨s',e,by rw[c'];exact x,λh=>by cases h⟩
 |statement=>exact⟨λh=>(by cases h),λ_ rm=>by
   obtain⟨s',e,x,m⟩:=LQ hT hK hn IH (hp rfl) (by simpa[oV,NJ,yU,rmx]using hk') rm;exact⟨s',e,x,λ_ _=>m⟩⟩
 |item=>exact⟨λh=>(by cases h),λ_ rm=>by
   obtain⟨s',e,x,m⟩:=aMd hT hK hn IH (hp rfl) (by simpa[oV,NJ,yU,rmx]using hk') rm;exact⟨s',e,x,λ_ _=>m⟩⟩
 |arguments=>
  refine⟨λh=>(by cases h),λ_ rm=> ?_⟩
  by_cases c:s.pos<toks.length
  ·obtain⟨s',e,x,m⟩:=LE (e:=true) (c:=false) hT hK hn IH AV.2 (λ_=>c) (λh=>by cases h) (by simpa[oV,NJ,yU]using hk') rm;exact⟨s',e,by simpa[SFb,yU,UH,c]using x,λ_ _=>m rfl rfl⟩
  ·obtain⟨s',e,x,m⟩:=LE (e:=false) (c:=false) hT hK hn IH AV.1 (λh=>by cases h) (λh=>by cases h) (by simpa[oV,NJ,yU]using hk') rm;exact⟨s',e,by simpa[SFb,yU,UH,c,SF]using x,λ_ h=>absurd h c⟩
 |postfx=>
  refine⟨λ_ S s0 hS x rm=> ?_,λh=>by cases h⟩;obtain⟨b,hc,h1,h2,h3⟩:∃b,hO 1 8 (prog .postfx) ⟨0,true,false,false,false,false,false,[],false⟩=some b/\b.S<=0/\b.al= []/\b.nd=true:=⟨_,rfl,z7,rfl,rfl⟩;obtain⟨s',e,i⟩:=snd hT hK hn IH (pF:=s.pos) (self:=1) (by simpa[oV,NJ,yU,rmx]using hk') (prog .postfx) 8 _ _ s.pos S s0 s hc ⟨hS,λh=>z8⟩ ⟨x.mono z6 (λ_ h=>h) (λh=>h),aSl _,aSl _,λq=>(by cases q),λq=>(by cases q),λq=>(by cases q),λq=>(by cases q),λq=>(by cases q),λq=>by cases q⟩ (rm.mono (aSl _) z8);exact⟨s',e,i.j.mono z8 (λx hx=>by rw[h2]at hx;exact hx) (λ_=>h3),i.hi⟩
 |letS=>exact nU hT hK hn IH aMv rfl rfl rfl rfl rfl hp hk'
 |returnStmt=>exact nU hT hK hn IH KE rfl rfl rfl rfl rfl hp hk'
 |expr=>exact nU hT hK hn IH aI3 rfl rfl rfl rfl rfl hp hk'
 |binary l=>exact nU hT hK hn IH (aCq l (of_decide_eq_true hb)) rfl rfl rfl (WP toks n R l (of_decide_eq_true hb)) rfl hp hk'
 |unary=>exact nU hT hK hn IH aEm rfl rfl rfl rfl rfl hp hk'
 |primary=>exact nU hT hK hn IH UD rfl rfl rfl rfl rfl hp hk'
 |ifExpr=>exact nU hT hK hn IH YW rfl rfl rfl rfl rfl hp hk'
 |matchE=>exact nU hT hK hn IH aBz rfl rfl rfl rfl rfl hp hk'
 |structLit=>exact nU hT hK hn IH LR rfl rfl rfl rfl rfl hp hk'
 |lambda=>exact nU hT hK hn IH YZ rfl rfl rfl rfl rfl hp hk'
 |pattern=>exact nU hT hK hn IH WV rfl rfl rfl rfl rfl hp hk'
 |path b=>exact nU hT hK hn IH (aKl b) rfl rfl rfl rfl rfl hp hk'
 |typeExpr=>exact nU hT hK hn IH PO rfl rfl rfl rfl rfl hp hk'
 |typeParams=>exact nU hT hK hn IH KB rfl rfl rfl rfl rfl hp hk'
 |params c=>exact nU hT hK hn IH (aB7 c) rfl rfl rfl rfl rfl hp hk'
 |function b=>exact nU hT hK hn IH (QR b) rfl rfl rfl rfl rfl hp hk'
 |itemBody k=>exact nU hT hK hn IH (QC k) rfl rfl rfl (funext λs=>NF toks n R k s) rfl hp hk'
theorem aGc(hT:CN toks)(hK:RE toks)(hn:toks.length<n):∀k,WX toks (8*k) (10802*k) k (UJ toks n k)
 |0=>λfn s hp hb hk=>z8
 |k+1=>by
  have:=aNe hT hK hn (aGc hT hK hn k);rw[Nat.mul_succ,Nat.mul_succ];exact this
theorem HZ{c:PS->Bool}{b:PS->Option PS}:∀(n:Nat) (s:PS) {s':PS},dO c b n s=some s'->c s'=false
 |0,s,s',h=>by cases h
 |n+1,s,s',h=>by
  unfold dO at h
  split at h
  ·obtain⟨s1,h1,h2⟩:=oB h;exact HZ n s1 h2
  ·rename_i q;injection h with h;subst h;simpa using q
theorem aFv{tk:List Tk}{k n:Nat}(hT:CN tk)(hK:RE tk)(hn:tk.length<n)(hk:32*tk.length+18<k)(hl:10802*k+300*tk.length+402<iB):∃ch,uR tk k n=some ⟨1,[],ch⟩/\tH ch=tk/\wO ⟨1,[],ch⟩=true/\bE ch<=1+300*tk.length:=by
 have r0:Rm tk (8*k) (10802*k+400) ⟨0,[⟨1,[]⟩],false⟩:=⟨⟨1,[]⟩,[],rfl,aTn _,by simp only[aT5];omega,by simp only[aS2,aT5];omega⟩;obtain⟨s1,e1,x1⟩:=JX (S:=1) (al:= [7]) (nd:=false) (c:=λs1=> !JW tk s1) (b:=λs1=>(UJ tk n k .item s1).bind λs2=>some s2) hn z7 r0 λt _ rt ct=>by
  have hlt:=JE (by simpa using ct);obtain⟨t1,e1,y1,p⟩:=(aGc hT hK hn k .item t (λ_=>hlt) rfl (by simp only[oV,NJ,yU,rmx,Bool.false_and,aTc,if_false];omega)).2 rfl rt;exact⟨t1,by rw[e1];rfl,y1,p rfl hlt⟩
 have c1:=HZ n _ e1;have r1:Rm tk (8*k) 0 s1:=x1.rm (r0.mono (aSl _) z8) z7;obtain⟨s2,e2,x2⟩:=JS hT (tk.length-s1.pos) (aSl _) r1;obtain⟨f,fs,new,a1,a2,a3,a4,a5,a6,a7,a8⟩:=x1.trans x2.j.1;injection a1 with a1 a0;subst a1 a0;obtain⟨g,gs,b1,_⟩:=r1;obtain⟨_,_,_,hpk,hend⟩:=yJ _ e2 b1;have hend:s2.pos=tk.length:=by
  rcases aSk s2.pos tk.length with h|h
  ·exfalso;have heof:(aG tk s1.pos).kind=100:=by simpa using c1
   rw[hpk,rV h (hend (aSl _) h)]at heof;have:=(hT _ (aTk h)).2;omega
  ·omega
 refine⟨new, ?_, ?_,KC (λt ht=>⟨(a7 t ht).1,λq=>by
  have:=(a7 t ht).2 q;simp only[aSg,aT1,aTv,aT7,or_false]at this;rcases this with h|h<;>rw[h]<;>decide⟩) (λh=>by cases h) (λh=>by cases h) z7, ?_⟩
 ·unfold uR;rw[e1];simp only[aSy];unfold BG;rw[e2];simp only[aSy];unfold aF9;rw[a2];simp
 ·rw[a6,hend];simp only[XE,aUh,Nat.sub_zero,aUd];exact List.filter_eq_self.2 λt ht=>by simp[neT,(hT t ht).1]
 ·rw[hend]at a5;simp only at a5;split at a5<;>omega
end
open Go.Proofs
def Lt(l:List Tk):Nat:=(l.map λt=>t.text.length).sum
theorem ZK(a b:List Tk):Lt (a++b)=Lt a+Lt b:=by simp[Lt]
def Tw(a b:Nat)(n:Nd):Prop:=(n.en<0/\n.st=(a:Int))\/((a:Int)<=n.st/\n.st<=n.en/\n.en<=(b:Int))
theorem Tw.eq{a b:Nat}{n m:Nd}(h:Tw a b n)(h1:m.st=n.st)(h2:m.en=n.en):Tw a b m:=by unfold Tw at*;rw[h1,h2];exact h
theorem Tw.mono{a b c:Nat}{n:Nd}(h:Tw a b n)(hb:b<=c):Tw a c n:=by unfold Tw at*;omega
theorem Tw.ext{a b c:Nat}{n m:Nd}{x y:Int}(h:Tw a b n)(h1:m.st=n.st)(h2:m.en=n.en)(hab:a<=b)(hx:(b:Int)<=x)(hy:x<=y)(hc:y<=(c:Int)):Tw a c (iY m x y):=by
 unfold Tw at*;rw[<-h1,<-h2]at h;show(y<0/\(if m.en<0 then x else m.st)=(a:Int))\/((a:Int)<=(if m.en<0 then x else m.st)/\(if m.en<0 then x else m.st)<=y/\y<=(c:Int))
 split<;>omega
theorem QU(n:Nd)(t:List UInt8):(jB n t).st=n.st/\(jB n t).en=n.en/\(jB n t).kind=n.kind:=by
 unfold jB
 repeat' split
 all_goals exact⟨rfl,rfl,rfl⟩
theorem NR(n:Nd)(t:List UInt8)(o:Int):(fG n t o).st=n.st/\(fG n t o).en=n.en/\(fG n t o).kind=n.kind:=by
 unfold fG
 repeat' split
 all_goals exact⟨rfl,rfl,rfl⟩
theorem DJ:∀(k:Nat) (l:List UInt8) (p:Int),l.length<=k->(kM l p).2.length<=l.length/\∀d∈(kM l p).2,zU d
 |_,[],p,_=>by rw[kM];exact⟨z6,λd h=>by cases h⟩
 |_,[_],p,_=>by rw[kM];exact⟨z6,λd h=>by cases h⟩
 |0,_::_::_,p,h=>by simp at h
 |k+1,c::d::r,p,h=>by
  simp only[aS2]at h;rw[kM]
  split
  ·obtain⟨h1,h2⟩:=DJ k r (p+2) z8;refine⟨?_,λe he=> ?_⟩
   ·simp only[aTi,aS2];split<;>simp<;>omega
   ·rcases aTs.1 he with he|he
    ·split at he
     ·cases he
     ·rw[aT2]at he;subst he;exact⟨rfl,rfl⟩
    ·exact h2 e he
  ·obtain⟨h1,h2⟩:=DJ k (d::r) (p+1) (by simp;omega);exact⟨by simp only[aS2]at*;omega,h2⟩
theorem WY(t:List UInt8)(p:Int):(wD t p).2.length<=t.length/\∀d∈(wD t p).2,zU d:=by
 obtain⟨h1,h2⟩:=DJ _ (t.drop 1) (p+1) (aSl _);exact⟨by unfold wD;rw[aS8]at h1;omega,h2⟩
theorem aE0(c a b:Int):zU (gZ c a b):=⟨rfl,rfl⟩
theorem LM{ds:List Dg}(h:∀d∈ds,zU d)(c a b:Int):∀d∈ds++ [gZ c a b],zU d:=λd hd=>by
 rcases aTs.1 hd with hd|hd
 ·exact h d hd
 ·rw[aT2]at hd;subst hd;exact aE0 c a b
theorem aOu{t:St}{off a:Nat}{n:Nd}{ds:List Dg}(h:Tw a off n)(ha:a<=off)(hX:∀d∈ds,zU d):Tw a (off+t.text.length) (fI t off n ds).1/\(fI t off n ds).1.kind=n.kind/\(fI t off n ds).2.length<=ds.length+t.text.length+1/\∀d∈(fI t off n ds).2,zU d:=by
 have h0:Tw a (off+t.text.length) n:=h.mono z8;have hE:∀ {m:Nd},m.st=n.st->m.en=n.en->Tw a (off+t.text.length) (iY m (off:Nat) (((off:Nat):Int)+t.text.length)):=λe1 e2=>h.ext e1 e2 ha z8 z8 z8;obtain⟨i1,i2,i3⟩:=NR n t.text (off:Nat);obtain⟨f1,f2,f3⟩:=QU n t.text;obtain⟨u1,u2⟩:=WY t.text (off:Nat);have ub:∀d∈ds++(wD t.text (off:Nat)).2,zU d:=λd hd=>by
  rcases aTs.1 hd with hd|hd
  ·exact hX d hd
  ·exact u2 d hd
 have sn:=λc a b=>LM hX c a b;unfold fI;dsimp only
 split
 ·exact⟨h0,rfl,by dsimp only;omega,hX⟩
 split
 ·exact⟨h0,rfl,by dsimp only;omega,hX⟩
 split
 ·split
  ·exact⟨h0,rfl,z6,sn _ _ _⟩
  ·exact⟨hE rfl rfl,rfl,z6,sn _ _ _⟩
 split
 ·refine⟨hE i1 i2,i3, ?_, ?_⟩
  ·dsimp only
   split
   ·simp
   ·omega
  ·dsimp only
   split
   ·exact sn _ _ _
   ·exact hX
 split
 ·split
  ·exact⟨hE rfl rfl,rfl,by dsimp only;omega,hX⟩
  ·exact⟨hE rfl rfl,rfl,z6,sn _ _ _⟩
 split
 ·exact⟨hE rfl rfl,rfl,by simp only[aTi];omega,ub⟩
 ·exact⟨hE f1 f2,f3,by dsimp only;omega,hX⟩
def NT(src:List UInt8)(t:St):Prop:=(∀x∈wI t,100<x.kind)->wO t=true->t.kind<100->∀(off:Nat) (ds:List Dg),off+Lt (wI t)<=src.length->ds.length+Lt (wI t)+t.size<iB->src.length<iB->(∀d∈ds,zU d)->
 ∃off' m ds',uG src t off ds=some (off',m,ds')/\off<=off'/\off'<=off+Lt (wI t)/\(off:Int)<=m.st/\m.st<=m.en/\m.en<=(off':Int)/\ds'.length<=ds.length+Lt (wI t)+t.size/\∀d∈ds',zU d
theorem aJg(c:St):c.text.length<=Lt (wI c):=by
 obtain⟨k,t,ch⟩:=c;show t.length<=_;rw[wI]
 split
 ·rename_i h;rw[h];simp
 ·simp[Lt]
theorem QN{src:List UInt8}:∀(ch:List St) (ih:∀c∈ch,NT src c) (hk:∀x∈tH ch,100<x.kind) (hok:∀c∈ch,wO c=true) (a off:Nat) (n:Nd) (ds:List Dg),a<=off->Tw a off n->off+Lt (tH ch)<=src.length->ds.length+Lt (tH ch)+bE ch<iB->n.kids.length+bE ch<iB->src.length<iB->(∀d∈ds,zU d)->
  ∃off' m ds',oK src ch off n ds=some (off',m,ds')/\off<=off'/\off'<=off+Lt (tH ch)/\Tw a off' m/\m.kind=n.kind/\n.kids.length<=m.kids.length/\((∃c∈ch,c.kind<100)->0<m.kids.length)/\ds'.length<=ds.length+Lt (tH ch)+bE ch/\∀d∈ds',zU d
 | [],ih,hk,hok,a,off,n,ds,ha,ht,ho,hd,hn,hs,hX=>⟨off,n,ds,by rw[oK],aSl _,z8,ht,rfl,aSl _,(λh=>by obtain⟨c,hc,_⟩:=h;cases hc),z8,hX⟩
 |c::cs,ih,hk,hok,a,off,n,ds,ha,ht,ho,hd,hn,hs,hX=>by
  have hL:tH (c::cs)=wI c++tH cs:=by rw[tH]
  have hZ:bE (c::cs)=c.size+bE cs:=rfl;rw[hL,ZK]at ho hd;rw[hL]at hk;rw[hZ]at hd hn;rw[hL,ZK,hZ];have hc1:1<=c.size:=by cases c;simp only[St.size];omega
  have hcl:=aJg c;have ih':∀d∈cs,NT src d:=λd hd=>ih d (aUj _ hd);have hk':∀x∈tH cs,100<x.kind:=λx hx=>hk x (List.mem_append_right _ hx);have hok':∀d∈cs,wO d=true:=λd hd=>hok d (aUj _ hd);rw[EP]
  split
  ·rename_i q;have q:=of_decide_eq_true q;obtain⟨t1,t2,t3,t4⟩:=aOu (t:=c) ht ha hX;rw[if_pos ⟨z8,z8⟩];obtain⟨o',m,ds',e1,e2,e3,e4,e5,e6,e7,e8,e9⟩:=QN cs ih' hk' hok' a (off+c.text.length) _ _ z8 t1 z8 z8 (by rw[AP];omega) hs t4;rw[AP]at e6;exact⟨o',m,ds',e1,z8,z8,e4,by rw[e5,t2],e6,λ⟨d,hd,hd2⟩=>by
    rcases aTv.1 hd with rfl|hd
    ·omega
    ·exact e7 ⟨d,hd,hd2⟩,z8,e9⟩
  ·rename_i q;have q:c.kind<100:=by have:=of_decide_eq_false (by simpa using q:decide (c.kind>=100)=false);omega
   obtain⟨o1,m1,d1,f1,f2,f3,f4,f5,f6,f7,f8⟩:=ih c (List.mem_cons_self ..) (λx hx=>hk x (aUg _ hx)) (hok c (List.mem_cons_self ..)) q off ds z8 z8 hs hX;rw[f1];dsimp only[aSy];rw[if_pos z8];have t1:Tw a o1 (mW (iY n m1.st m1.en) m1):=(ht.ext (m:=n) (c:=o1) rfl rfl ha f4 f5 f6).eq rfl rfl;have hkl:(mW (iY n m1.st m1.en) m1).kids.length=n.kids.length+1:=by simp[mW,iY,Nd.kids]
   obtain⟨o',m,ds',e1,e2,e3,e4,e5,e6,e7,e8,e9⟩:=QN cs ih' hk' hok' a o1 _ d1 z8 t1 z8 z8 (by rw[hkl];omega) hs f8;rw[hkl]at e6;exact⟨o',m,ds',e1,z8,z8,e4,by rw[e5];rfl,z8,λ_=>z8,z8,e9⟩
theorem aHe{src:List UInt8}{t:St}(ih:∀c∈t.ch,NT src c):NT src t:=by
 intro hk hok hlt off ds ho hd hs hX;obtain⟨k,tx,ch⟩:=t;have htx:tx= []:=Classical.byContradiction λh=>by
  have:=hk ⟨k,tx⟩ (by rw[wI,if_neg h];simp);have h2:k<100:=hlt;simp only at this;omega
 subst htx;have hlv:wI ⟨k,[],ch⟩=tH ch:=by rw[wI,if_pos rfl]
 rw[hlv]at hk ho hd⊢;have hsz:(St.mk k [] ch).size=1+bE ch:=by simp only[St.size]
 rw[hsz]at hd⊢;simp only[wO,okN,CM,aSe,aTr]at hok;obtain⟨⟨⟨⟨_,h60⟩,_⟩,_⟩,hall⟩:=hok;have hlen:∀l:List St,l.length<=bE l:=λl=>by
  induction l with
  |nil=>exact aTn _
  |cons x xs ihx=>
   have:1<=x.size:=by cases x;simp only[St.size];omega
   simp only[bE,aS2];omega
 have hl:=hlen ch;rw[LB];show ∃off' m ds',(if ch.length<iB then _ else none)=_/\_;rw[if_pos z8];obtain⟨o',m,ds',e1,e2,e3,e4,e5,e6,e7,e8,e9⟩:=QN ch ih hk hall off off ⟨k,0,[],off, -1, -1,[]⟩ ds (aSl _) (.inl ⟨by show(-1:Int)<0;decide,rfl⟩) ho z8 (by show 0+bE ch<iB;omega) hs hX;have e1':oK src (St.mk k [] ch).ch off ⟨(St.mk k [] ch).kind,0,[],off, -1, -1,[]⟩ ds=some (o',m,ds'):=e1;rw[e1'];dsimp only[aSy];obtain⟨mk,mv,mt,ms,me,mn,mks⟩:=m;have e5:mk=k:=e5;have e4:(me<0/\ms=(off:Int))\/((off:Int)<=ms/\ms<=me/\me<=(o':Int)):=e4;have b1:(off:Int)<=ms/\ms<=max me ms/\max me ms<=(o':Int):=z8
 obtain⟨b1,b2,b3⟩:=b1;unfold NW;show ∃off' m ds'',((if decide (mk=60)=true then(match mks with|c::_=>some (fC c ms (max me ms),ds')| []=>none)else if decide (mk=46)=true then(if 0<=ms/\ms<=max me ms/\max me ms<=src.length/\ds'.length<iB then _ else none)else _).bind _)=_/\_
 split
 ·rename_i q;have q:=of_decide_eq_true q;have hex:∃c∈ch,c.kind<100:=by
   rw[<-e5,q]at h60;simp only[decide_true,aTt,Bool.false_or,List.any_eq_true]at h60;obtain⟨c,c1,c2⟩:=h60;exact⟨c,c1,of_decide_eq_true c2⟩
  have:=e7 hex
  match mks,this with
  |c::r,_=>exact⟨o',_,ds',rfl,e2,e3,b1,b2,b3,z8,e9⟩
 ·split
  ·rw[if_pos ⟨z8,z8,z8,z8⟩];exact⟨o',_,_,rfl,e2,e3,b1,b2,b3,by simp;omega,LM e9 _ _ _⟩
  ·exact⟨o',_,ds',rfl,e2,e3,b1,b2,b3,z8,e9⟩
theorem ST(src:List UInt8):∀(k:Nat) (t:St),SizeOf.sizeOf t<k->NT src t
 |0,t,h=>z8
 |k+1,t,h=>aHe λc hc=>ST src k c (by
  cases t with
  |mk kk tx ch=>
   have:=List.sizeOf_lt_of_mem (show c∈ch from hc);simp at h;omega)
theorem OK(src:List UInt8)(t:St):NT src t:=ST src _ t (aT9 _)
def GP(c:UInt8):Bool:=decide (48<=c.toNat)&&decide (c.toNat<=57)
def TkQ(t:Tk):Prop:=(101<=t.kind/\t.kind<=108)/\(t.kind=105->t.text.all GP=true)/\(t.kind=106->∃b,t.text=34::b/\lA false b=some b.length)/\(t.kind=104->sgn [t.text]=false)/\(t.kind=107->sgn [t.text]=true)/\(t.text= [42]->t.kind=107)/\(t.text= [116,114,117,101]->t.kind=104)
theorem TkQ.oth{k:Int}{c:UInt8}{r:List UInt8}(h1:k=101\/k=102\/k=108)(h2:c::r≠ [42])(h3:c::r≠ [116,114,117,101]):TkQ ⟨k,c::r⟩:=
 ⟨by simp only;omega,λh=>by simp only at h;omega,λh=>by simp only at h;omega,λh=>by simp only at h;omega,λh=>by simp only at h;omega,λh=>absurd h h2,λh=>absurd h h3⟩
theorem NA(p:UInt8->Bool):∀s:List UInt8,(s.take (dI p s)).all p=true
 | []=>rfl
 |c::r=>by
  rw[dI]
  split
  ·rename_i h;rw[List.take_succ_cons,aSd,h,NA p r];rfl
  ·rfl
theorem GX:∀(r:List UInt8) (e:Bool) (k:Nat),lA e r=some k->lA e (r.take k)=some k
 | [],e,k,h=>by cases h
 |c::r,e,k,h=>by
  rw[lA]at h
  split at h
  ·cases h
  rename_i h1
  split at h
  ·rename_i h2;injection h with h;subst h;rw[List.take_succ_cons,List.take_zero,lA,if_neg h1,if_pos h2]
  ·rename_i h2;obtain⟨m,hm,h⟩:=Option.map_eq_some_iff.1 h;subst h;rw[List.take_succ_cons,lA,if_neg h1,if_neg h2,GX r _ m hm];rfl
theorem aCw{s:List UInt8}(hs:s≠ []):TkQ ⟨(bZ s).2,s.take (bZ s).1⟩:=by
 cases s with
 |nil=>exact absurd rfl hs
 |cons c r=>
  have htk:∀n,0<n->(c::r).take n=c::r.take (n-1):=λn hn=>by
   cases n with
   |zero=>omega
   |succ n=>rfl
  have pos:∀ {p:UInt8->Bool},p c=true->0<dI p (c::r):=λh=>DM.2 h;unfold bZ;simp only
  split
  ·rename_i h;have hn:=pos h;simp only;rw[htk _ hn];refine .oth (.inl rfl) (λe=> ?_) (λe=> ?_)
   ·injection e with e _;subst e;cases h
   ·injection e with e _;subst e;cases h
  split
  ·rename_i h;have hc:c=47:=by
    cases r with
    |nil=>cases h
    |cons d r=>simp only[List.take_succ_cons]at h;injection h
   subst hc;have hn:=pos (p:=gH) rfl;simp only;rw[htk _ hn];refine .oth (.inr (.inl rfl)) (λe=> ?_) (λe=> ?_)
   ·injection e with e _;cases e
   ·injection e with e _;cases e
  split
  ·rename_i h;have hw:iG c=true:=by unfold iG;rw[h];rfl
   have hn:=pos hw
   split
   ·rename_i hk;simp only;generalize (c::r).take (dI iG (c::r))=t at hk;rw[aTz]at hk;refine⟨by simp only;omega,λh=>(by cases h),λh=>(by cases h),λ_=> ?_,λh=>(by cases h),λe=> ?_,λ_=>rfl⟩
    ·revert t;decide
    ·simp only at e;subst e;exact absurd hk z7
   ·rename_i hk;simp only;refine⟨by simp only;omega,λh=>(by cases h),λh=>(by cases h),λh=>(by cases h),λh=>(by cases h),λe=> ?_,λe=> ?_⟩
    ·simp only at e;rw[htk _ hn]at e;injection e with e _;subst e;cases h
    ·simp only at e;rw[e]at hk;exact absurd z7 hk
  split
  ·rename_i h;have hn:=pos h;simp only;have hall:=NA iU (c::r);refine⟨by simp only;omega,λ_=> ?_,λh=>(by cases h),λh=>(by cases h),λh=>(by cases h),λe=> ?_,λe=> ?_⟩
   ·simp only;rw[aTr]at hall⊢;intro x hx;have:=hall x hx;simp only[iU,aSe,decide_eq_true_eq]at this;simp only[GP,aSe,decide_eq_true_eq];exact⟨UInt8.le_iff_toNat_le.1 this.1,UInt8.le_iff_toNat_le.1 this.2⟩
   ·simp only at e;rw[htk _ hn]at e;injection e with e _;subst e;cases h
   ·simp only at e;rw[htk _ hn]at e;injection e with e _;subst e;cases h
  split
  ·rename_i h34;subst h34;cases hl:lA false r with
   |some k=>
    simp only;have hle:=KJ r _ k hl;rw[List.take_succ_cons];refine⟨by simp only;omega,λh=>(by cases h),λ_=>⟨r.take k,rfl, ?_⟩,λh=>(by cases h),λh=>(by cases h),λe=> ?_,λe=> ?_⟩
    ·rw[GX r _ k hl,aS9,Nat.min_eq_left hle.2]
    ·injection e with e _;cases e
    ·injection e with e _;cases e
   |none=>
    simp only;rw[htk _ (pos (p:=gH) rfl)];refine .oth (.inr (.inr rfl)) (λe=> ?_) (λe=> ?_)
    ·injection e with e _;cases e
    ·injection e with e _;cases e
  split
  ·rename_i h;simp only;have hk:=h.2;generalize (c::r).take 2=t at hk;rw[aTz]at hk;refine⟨by simp only;omega,λh=>(by cases h),λh=>(by cases h),λh=>(by cases h),λ_=> ?_,λ_=>rfl,λe=> ?_⟩
   ·revert t;decide
   ·simp only at e;subst e;exact absurd hk z7
  split
  ·rename_i h;simp only;rw[aTz]at h;refine⟨by simp only;omega,λh=>(by cases h),λh=>(by cases h),λh=>(by cases h),λ_=> ?_,λ_=>rfl,λe=> ?_⟩
   ·show sgn [[c]]=true;have hh:∀c∈PX,sgn [[c]]=true:=z7
    exact hh c h
   ·cases e
  ·rename_i h;simp only;refine .oth (.inr (.inr rfl)) (λe=> ?_) (λe=> ?_)
   ·injection e with e _;subst e;exact h z7
   ·cases e
theorem PF:∀(k:Nat) (s:List UInt8),s.length<=k->∀x∈toks s,TkQ x
 |0,s,h,x,hx=>by
  have:s= []:=aTx.1 z8;subst this;cases hx
 |k+1,s,h,x,hx=>by
  by_cases hs:s= []
  ·subst hs;cases hx
  ·rw[vZ hs]at hx;have hb:=lP hs;rcases aTv.1 hx with rfl|hx
   ·exact aCw hs
   ·exact PF k _ (by rw[aS8];omega) x hx
theorem aDw(s:List UInt8):RE (toks s):=λt ht h=>(PF _ s (aSl _) t ht).2.2.2.1 h
theorem OC{s:List UInt8}(h:s≠ []):100<(bZ s).2:=by
 cases s with
 |nil=>exact absurd rfl h
 |cons c r=>
  unfold bZ;simp only
  repeat' split
  all_goals simp
theorem sJ:∀(k:Nat) (s:List UInt8),s.length<=k->CN (toks s)/\Lt (toks s)=s.length/\(toks s).length<=s.length/\(toks s).flatMap Tk.text=s
 |0,s,h=>by
  have:s= []:=aTx.1 z8;subst this;rw[yW];exact⟨(λt h=>by cases h),rfl,aSl _,rfl⟩
 |k+1,s,h=>by
  by_cases hs:s= []
  ·subst hs;rw[yW];exact⟨(λt h=>by cases h),rfl,aSl _,rfl⟩
  ·have hb:=lP hs;have hk:=OC hs;obtain⟨h1,h2,h3,h4⟩:=sJ k (s.drop (bZ s).1) (by rw[aS8];omega);rw[aS8]at h2 h3;rw[vZ hs];refine⟨λt ht=> ?_, ?_,by rw[aS2];omega, ?_⟩
   ·rcases aTv.1 ht with rfl|ht
    ·refine⟨λe=> ?_,hk⟩;have:(s.take (bZ s).1).length=0:=by rw[show s.take (bZ s).1= []from e];rfl
     rw[aS9]at this;omega
    ·exact h1 t ht
   ·show(s.take (bZ s).1).length+Lt (toks (s.drop (bZ s).1))=_;rw[h2,aS9];omega
   ·rw[List.flatMap_cons,h4];exact aT3 _ _
def kP:Nat:=64100
def nP:Nat:=2001
def lF(s:List UInt8):St:=(uR (toks s) kP nP).getD ⟨1,[],[]⟩
def FZ(s:List UInt8):Nat×Nd×List Dg:=(uG s (lF s) 0 []).getD (0,⟨0,0,[],0,0,0,[]⟩,[])
def FL(s:List UInt8):Nd:=fC (FZ s).2.1 0 (s.length:Int)
theorem SR{s:List UInt8}(h:s.length<=2000):∃ch,uR (toks s) kP nP=some ⟨1,[],ch⟩/\lF s=⟨1,[],ch⟩/\tH ch=toks s/\wO ⟨1,[],ch⟩=true/\bE ch<=1+300*s.length:=by
 obtain⟨h1,h2,h3,h4⟩:=sJ _ s (aSl _);obtain⟨ch,e1,e2,e3,e4⟩:=aFv (k:=kP) (n:=nP) h1 (aDw s) (by unfold nP;omega) (by unfold kP;omega) (by unfold kP iB;omega);exact⟨ch,e1,by unfold lF;rw[e1];rfl,e2,e3,z8⟩
theorem aJ9{s:List UInt8}(h:s.length<=2000):uG s (lF s) 0 []=some (FZ s)/\(FZ s).2.2.length<=603000/\∀d∈(FZ s).2.2,zU d:=by
 obtain⟨h1,h2,h3,h4⟩:=sJ _ s (aSl _);obtain⟨ch,e1,e2,e3,e4,e5⟩:=SR h;have hlv:wI (lF s)=toks s:=by rw[e2,wI,if_pos rfl,e3]
 have hsz:(lF s).size=1+bE ch:=by rw[e2];simp only[St.size]
 obtain⟨o,m,ds,f1,f2,f3,f4,f5,f6,f7,f8⟩:=OK s (lF s) (by rw[hlv];exact λx hx=>(h1 x hx).2) (by rw[e2];exact e4) (by rw[e2];show(1:Int)<100;decide) 0 [] (by rw[hlv,h2];omega) (by rw[hlv,h2,hsz];simp only[aT5,iB];omega) (by simp only[iB];omega) (λd hd=>by cases hd);have:FZ s=(o,m,ds):=by unfold FZ;rw[f1];rfl
 rw[this];rw[hlv,h2,hsz]at f7;simp only[aT5]at f7;exact⟨f1,by show ds.length<=_;omega,f8⟩
end Go.Abs
