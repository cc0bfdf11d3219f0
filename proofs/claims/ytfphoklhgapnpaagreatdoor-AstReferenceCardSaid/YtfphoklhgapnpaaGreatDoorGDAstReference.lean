/- Part 9 of a proof of the law AstReference: Go data as trees, the walks of the functions that the law reaches, the plain laws. -/
import Derived.Test.YtfphoklhgapnpaaGreatDoorGCAstReference
import Derived.Laws.StructEq
import Derived.Laws.Cover3
import Derived.Laws.Entries
import Derived.Lib.Overlaps
open Option renaming getD_some->aSu,isSome_none->aTm,map_none->aTl,map_some->aS1
open List renaming append_assoc->aUa,append_nil->aT4,drop_eq_getElem_cons->aUc,drop_zero->aUh,getD_eq_getElem?_getD->aTe,getElem?_append_left->aSv,getElem?_append_right->aSw,getElem?_cons_succ->aS3,getElem?_cons_zero->aTo,getElem?_eq_getElem->aTd,getElem?_map->aTb,getElem?_set_ne->aS0,getElem?_set_self->aSz,getElem?_toArray->aTa,getElem_cons_zero->aSj,getElem_mem->aTk,length_append->aTi,length_cons->aS2,length_drop->aS8,length_eq_zero_iff->aTx,length_map->aSr,length_nil->aT5,length_singleton->aSi,length_take->aS9,mem_append->aTs,mem_append_left->aUg,mem_cons->aTv,mem_map->aTq,mem_singleton->aT2,nil_append->aT1,replicate->aS6,set_append_right->aTw,set_set->aUe,take_append_drop->aT3,take_length->aUd,take_of_length_le->aUf
open Nat renaming le_refl->aSl,le_trans->aSm,lt_or_ge->aSk,lt_succ_self->aT9,mul_le_mul_right->aTj,succ_ne_self->aUb,zero_add->aTh,zero_le->aTn
open Go.Sem renaming run_bind->aS4,run_pure->aS7
open Bool renaming eq_iff_iff->aTu,false_eq_true->aTc,not_eq_true'->aSf,not_true->aTt
open Array renaming getD_eq_getD_getElem?->aSo,getElem?_eq_getElem->aSt,getElem?_toList->aTf,length_toList->aSs
open Go.Result renaming andThen_ok->aS5
set_option linter.unusedVariables false
set_option linter.unusedSimpArgs false
set_option maxRecDepth 4000
namespace Go.Abs
open Go.Proofs
def aMp(toks:List Tk)(n:Nat)(R:dP)(s0:PS):Option PS:=((cJ toks) s0).bind λs1=>((cH toks [[58]]) s1).bind λs2=>if eI (aG toks s1.pos) [[58]]=true then(((R (.path true)) s2).bind λs3=>(lO (λs4=>eI (aG toks s4.pos) [[43]]) (cH toks [[43]]) (λs5=>((R (.path true)) s5).bind λs6=>some s6) n s3).bind λs5=>some s5)else(some s2)
theorem aH9{toks:List Tk}{ip n:Nat}{R:dP}(IH:lD toks ip R)(b0:Nat):FC Tryz.prog toks ip 291 [.optr b0 0] (aMp toks n R) cM (eW [(0,gO),(b0, .row [.optr ip 0])]):=by
 refine eN λs0 s' F0 H0 hm p0 i0=> ?_;obtain⟨⟨k0a,n0a⟩,⟨k0b,n0b⟩,_⟩:=i0;obtain⟨st0,r0⟩:=p0.row;have hl:=aV p0.len;have f0:=Fr.refl F0 H0;unfold aMp at hm;refine aF (N:=13) Tryz.func291 rfl rfl z6 λhb'=> ?_;refine qT 1 (a2 aJ (w3 r0 k0a k0b)) ?_;obtain⟨s1,e1,hm⟩:=oB hm;refine qN (w3 r0 k0a k0b) (FN.apX (cC toks ip) e1 p0) ?_;rintro _ H1 ⟨rfl,F1,p1,g1⟩;obtain⟨f1,⟨st1,r1⟩,⟨k1a,n1a⟩,⟨k1b,n1b⟩⟩:=iN f0 p1 g1 k0a n0a k0b n0b;refine qT 2 (a4 y9 aJ fQ (w3 r1 k1a k1b)) ?_;obtain⟨s2,e2,hm⟩:=oB hm;refine qN (w3 r1 k1a k1b) (FN.apX (eG toks ip [[58]] z7) e2 p1) ?_;rintro _ H2 ⟨rfl,F2,p2,g2⟩;obtain⟨f2,⟨st2,r2⟩,⟨k2a,n2a⟩,⟨k2b,n2b⟩⟩:=iN f1 p2 g2 k1a n1a k1b n1b;refine qI (w3 r2 k2a k2b) (λbt5=> ?_) (λbt5=> ?_)
 ·
  rw[fZ bt5]at hm;refine qT 1 (a2 aJ (w3 r2 k2a k2b)) ?_;obtain⟨s3,e3,hm⟩:=oB hm;refine qN (w3 r2 k2a k2b) (FG.apX (IH (.path true)) e3 p2 ⟨k2a,n2a⟩) ?_;rintro _ H3 ⟨rfl,F3,p3,g3⟩;obtain⟨f3,⟨st3,r3⟩,⟨k3a,n3a⟩,⟨k3b,n3b⟩⟩:=iN f2 p3 g3 k2a n2a k2b n2b;have q3:=aA r3;have b3a:=aA k3a;have b3b:=aA k3b;refine wQ ?_;obtain⟨sL4,eL4,hm⟩:=oB hm;have hmo4:=hm;clear hm;refine fB ?_;have x1:=a5 r3 q3 k3a b3a (a2 k3b b3b);refine eC (σ:=Nat×PS×List Nat) (λ(z:Nat×PS×List Nat)=> [(0, .optr (b0) 0),(1, .optr ip 0),(3, .optr ip 0),(6, .optr ip 0)]) (λ(z:Nat×PS×List Nat)=>λH4=>lO (λs4=>eI (aG toks s4.pos) [[43]]) (cH toks [[43]]) (λs5=>((R (.path true)) s5).bind λs6=>some s6) z.1 z.2.1=some sL4/\eJ toks ip z.2.1 z.2.2 H4/\Fr F0 z.2.2 H0 H4/\(H4[0]? =some (gO)/\(0)∉z.2.2)/\(H4[b0]? =some (.row [.optr ip 0])/\(b0)∉z.2.2)) (λ(z:Nat×PS×List Nat)=>z.1) ((n,s3,F3)) ⟨(Zf x1),(Zf x1),(Zf x1),(Zf x1),trivial⟩ (⟨eL4,(by first|exact p3|exact p3.app _|exact p3.flg false),(by first|exact f3|exact f3.app _),⟨(by first|exact k3a|exact b3a _),n3a⟩,⟨(by first|exact k3b|exact b3b _),n3b⟩⟩) ?_;intro z H4 hg;obtain⟨k4,s4,F4⟩:=z;obtain⟨hk4,p4,f4,⟨k4a,n4a⟩,⟨k4b,n4b⟩⟩:=hg;simp only at hk4 p4 f4 k4a n4a k4b n4b;obtain⟨st4,r4⟩:=p4.row;cases k4 with
  |zero=>cases hk4
  |succ k4=> ?_
  rcases Bool.eq_false_or_eq_true (eI (aG toks s4.pos) [[43]])with hd3|hd3
  ·
   unfold lO at hk4;rw[fZ hd3]at hk4;obtain⟨sB4,hm,hk4⟩:=oB hk4;refine qT 2 (a5 y9 aJ fQ hd3 (w3 r4 k4a k4b)) ?_;obtain⟨s5,e5,hm⟩:=oB hm;refine qN (a2 hd3 (w3 r4 k4a k4b)) (FN.apX (eG toks ip [[43]] z7) e5 p4) ?_;rintro _ H5 ⟨rfl,F5,p5,g5⟩;obtain⟨f5,⟨st5,r5⟩,⟨k5a,n5a⟩,⟨k5b,n5b⟩⟩:=iN f4 p5 g5 k4a n4a k4b n4b;have q5:=aA r5;have b5a:=aA k5a;have b5b:=aA k5b;refine ZG (a5 hd3 r5 q5 k5a (a3 b5a k5b b5b)) ?_;refine qK ?_;refine qB ?_;refine qT 1 (a3 aJ hd3 (w3 r5 k5a k5b)) ?_;obtain⟨s6,e6,hm⟩:=oB hm;refine qN (a2 hd3 (w3 r5 k5a k5b)) (FG.apX (IH (.path true)) e6 p5 ⟨k5a,n5a⟩) ?_;rintro _ H6 ⟨rfl,F6,p6,g6⟩;obtain⟨f6,⟨st6,r6⟩,⟨k6a,n6a⟩,⟨k6b,n6b⟩⟩:=iN f5 p6 g6 k5a n5a k5b n5b
   try simp only[aW,aO]
   injection hm with hm;subst hm;exact⟨(k4,_,F6),aT9 _,⟨rfl,rfl,rfl,rfl,trivial⟩,hk4,p6,f6,⟨k6a,n6a⟩,⟨k6b,n6b⟩⟩
  ·
   unfold lO at hk4;rw[gI hd3]at hk4;have hm:=JD hk4;refine qT 2 (a5 y9 aJ fQ hd3 (w3 r4 k4a k4b)) ?_;obtain⟨s5,e5,hm⟩:=oB hm;refine qA (a2 hd3 (w3 r4 k4a k4b)) wV (FN.apX (eG toks ip [[43]] z7) e5 p4) ?_;rintro _ H5 ⟨rfl,F5,p5,g5⟩;obtain⟨f5,⟨st5,r5⟩,⟨k5a,n5a⟩,⟨k5b,n5b⟩⟩:=iN f4 p5 g5 k4a n4a k4b n4b;have q5:=aA r5;have b5a:=aA k5a;have b5b:=aA k5b;injection hm with hm;subst hm;have hm:=hmo4;refine oN ?_;refine qF (a2 hd3 (w3 r5 k5a k5b)) ?_;refine wQ ?_;refine bD ?_;simp only[aW,aO,reduceIte,Nat.reduceEqDiff,aUb,if_true,if_false];refine dL ?_;injection hm with hm;subst hm;exact bJ p5 f5
 ·
  rw[gI bt5]at hm;refine qK ?_;refine dL ?_;injection hm with hm;subst hm;exact bJ p2 f2
def aL2(toks:List Tk)(n:Nat)(R:dP)(s0:PS):Option PS:=if(!decide ((aG toks s0.pos).kind=103))=true then(some s0)else(((cF 11 (aMp toks n R)) s0).bind λs1=>some s1)
theorem aJp{toks:List Tk}{ip n:Nat}{R:dP}(IH:lD toks ip R):FG toks ip 265 [.optr ip 0] (aL2 toks n R) cM:=by
 intro s0 s' F0 H0 hm p0 i0;obtain⟨⟨hg,n0a⟩,_⟩:=i0;obtain⟨st0,r0⟩:=p0.row;have q0:=aA r0;have hl:=aV p0.len;have f0:=Fr.refl F0 H0;have k0a:=aA hg [.row [.optr ip 0]];have b0a:=aA k0a;have k0b:(H0++ [.row [.optr ip 0]])[H0.length]? =some (.row [.optr ip 0]):=z6
 have n0b:=p0.new0;have b0b:=aA k0b;unfold aL2 at hm;refine aF (N:=8) Tryz.func265 rfl rfl z6 λhb'=> ?_;have x1:=a3 r0 q0 hg;refine qE (a2 aJ x1) ?_;refine qT 1 (a2 aJ x1) ?_;refine qP x1 mK (fA (mB r0) hl p0.pos) ?_;refine qX x1 ?_;refine qI x1 (λbt4=> ?_) (λbt4=> ?_)
 ·
  rw[fZ bt4]at hm;refine wQ ?_;refine wT ⟨.inr rfl,_,rfl, ?_⟩;injection hm with hm;subst hm;exact bJ p0 f0
 ·
  rw[gI bt4]at hm;refine qK ?_;refine qT 2 (a2 aJ x1) ?_;obtain⟨s1,e1,hm⟩:=oB hm;refine qN (a2 hg (w1 r0)) (FC.apX (cP toks ip 11 291 [] [.optr (H0.length) 0] aJz (dS [(0,gO),(H0.length, .row [.optr ip 0])]) (aH9 (n:=n) IH (H0.length))) e1 p0 ⟨⟨k0a,n0a⟩,⟨k0b,n0b⟩,trivial⟩) ?_;rintro _ H1 ⟨rfl,F1,p1,g1⟩;have f1:=f0.stX g1;obtain⟨st1,r1⟩:=p1.row;have q1:=aA r1;obtain⟨k1a,n1a⟩:=g1.gtX k0a n0a;have b1a:=aA k1a;obtain⟨k1b,n1b⟩:=g1.gtX k0b n0b;have b1b:=aA k1b;refine dL ?_;injection hm with hm;subst hm;exact bJ p1 f1
def aNp(toks:List Tk)(n:Nat)(R:dP)(s0:PS):Option PS:=((cH toks [[60]]) s0).bind λs1=>if eI (aG toks s0.pos) [[60]]=true then(((pM toks n ([62]) (aL2 toks n R)) s1).bind λs2=>some s2)else(some s1)
theorem aLt{toks:List Tk}{ip n:Nat}{R:dP}(IH:lD toks ip R)(b0:Nat):FC Tryz.prog toks ip 264 [.optr b0 0] (aNp toks n R) cM (eW [(0,gO),(b0, .row [.optr ip 0])]):=by
 refine eN λs0 s' F0 H0 hm p0 i0=> ?_;obtain⟨⟨k0a,n0a⟩,⟨k0b,n0b⟩,_⟩:=i0;obtain⟨st0,r0⟩:=p0.row;have hl:=aV p0.len;have f0:=Fr.refl F0 H0;unfold aNp at hm;refine aF (N:=8) Tryz.func264 rfl rfl z6 λhb'=> ?_;refine qT 2 (a4 y9 aJ fQ (w3 r0 k0a k0b)) ?_;obtain⟨s1,e1,hm⟩:=oB hm;refine qN (w3 r0 k0a k0b) (FN.apX (eG toks ip [[60]] z7) e1 p0) ?_;rintro _ H1 ⟨rfl,F1,p1,g1⟩;obtain⟨f1,⟨st1,r1⟩,⟨k1a,n1a⟩,⟨k1b,n1b⟩⟩:=iN f0 p1 g1 k0a n0a k0b n0b;have q1:=aA r1;have b1a:=aA k1a;have b1b:=aA k1b;refine qI (w3 r1 k1a k1b) (λbt3=> ?_) (λbt3=> ?_)
 ·
  rw[fZ bt3]at hm;refine qT 3 (a2 aJ (w3 r1 k1a k1b)) ?_;obtain⟨s2,e2,hm⟩:=oB hm;refine qN (w3 r1 k1a k1b) (FC.apX (rJ toks ip n ([62]) 265 [.optr ip 0] [] aMh (dS [(0,gO)]) (λ_ _ _=>nF) (FG.fc (aJp (n:=n) IH))) e2 p1 ⟨⟨k1a,n1a⟩,trivial⟩) ?_;rintro _ H2 ⟨rfl,F2,p2,g2⟩;obtain⟨f2,⟨st2,r2⟩,⟨k2a,n2a⟩,⟨k2b,n2b⟩⟩:=iN f1 p2 g2 k1a n1a k1b n1b;refine dL ?_;injection hm with hm;subst hm;exact bJ p2 f2
 ·
  rw[gI bt3]at hm;refine qK ?_;refine dL ?_;injection hm with hm;subst hm;exact bJ p1 f1
def aJy(toks:List Tk)(n:Nat)(R:dP)(s0:PS):Option PS:=((cF 10 (aNp toks n R)) s0).bind λs1=>some s1
theorem aHl{toks:List Tk}{ip n:Nat}{R:dP}(IH:lD toks ip R):FG toks ip 220 [.optr ip 0] (aJy toks n R) (CD .typeParams):=by
 intro s0 s' F0 H0 hm p0 i0;obtain⟨⟨hg,n0a⟩,_⟩:=i0;obtain⟨st0,r0⟩:=p0.row;have q0:=aA r0;have hl:=aV p0.len;have f0:=Fr.refl F0 H0;have k0a:=aA hg [.row [.optr ip 0]];have b0a:=aA k0a;have k0b:(H0++ [.row [.optr ip 0]])[H0.length]? =some (.row [.optr ip 0]):=z6
 have n0b:=p0.new0;have b0b:=aA k0b;unfold aJy at hm;refine aF (N:=5) Tryz.func220 rfl rfl z6 λhb'=> ?_;refine qE (a4 aJ r0 q0 hg) ?_;refine qT 2 (a4 aJ r0 q0 hg) ?_;obtain⟨s1,e1,hm⟩:=oB hm;refine qN (a2 hg (w1 r0)) (FC.apX (cP toks ip 10 264 [] [.optr (H0.length) 0] aLq (dS [(0,gO),(H0.length, .row [.optr ip 0])]) (aLt (n:=n) IH (H0.length))) e1 p0 ⟨⟨k0a,n0a⟩,⟨k0b,n0b⟩,trivial⟩) ?_;rintro _ H1 ⟨rfl,F1,p1,g1⟩;have f1:=f0.stX g1;obtain⟨st1,r1⟩:=p1.row;have q1:=aA r1;obtain⟨k1a,n1a⟩:=g1.gtX k0a n0a;have b1a:=aA k1a;obtain⟨k1b,n1b⟩:=g1.gtX k0b n0b;have b1b:=aA k1b;refine dL ?_;injection hm with hm;subst hm;exact bJ p1 f1
def aE5(toks:List Tk)(n:Nat)(R:dP)(s0:PS):Option PS:=((cJ toks) s0).bind λs1=>((R (.function false)) s1).bind λs2=>some s2
theorem aLz{toks:List Tk}{ip n:Nat}{R:dP}(IH:lD toks ip R)(b0:Nat):FC Tryz.prog toks ip 230 [.optr b0 0] (aE5 toks n R) cM (eW [(0,gO),(b0, .row [.optr ip 0])]):=by
 refine eN λs0 s' F0 H0 hm p0 i0=> ?_;obtain⟨⟨k0a,n0a⟩,⟨k0b,n0b⟩,_⟩:=i0;obtain⟨st0,r0⟩:=p0.row;have hl:=aV p0.len;have f0:=Fr.refl F0 H0;unfold aE5 at hm;refine aF (N:=5) Tryz.func230 rfl rfl z6 λhb'=> ?_;refine qT 1 (a2 aJ (w3 r0 k0a k0b)) ?_;obtain⟨s1,e1,hm⟩:=oB hm;refine qN (w3 r0 k0a k0b) (FN.apX (cC toks ip) e1 p0) ?_;rintro _ H1 ⟨rfl,F1,p1,g1⟩;obtain⟨f1,⟨st1,r1⟩,⟨k1a,n1a⟩,⟨k1b,n1b⟩⟩:=iN f0 p1 g1 k0a n0a k0b n0b;refine qT 1 (a2 aJ (w3 r1 k1a k1b)) ?_;obtain⟨s2,e2,hm⟩:=oB hm;refine qN (w3 r1 k1a k1b) (FG.apX (IH (.function false)) e2 p1 ⟨k1a,n1a⟩) ?_;rintro _ H2 ⟨rfl,F2,p2,g2⟩;obtain⟨f2,⟨st2,r2⟩,⟨k2a,n2a⟩,⟨k2b,n2b⟩⟩:=iN f1 p2 g2 k1a n1a k1b n1b;refine dL ?_;injection hm with hm;subst hm;exact bJ p2 f2
def aEj(toks:List Tk)(n:Nat)(R:dP)(s0:PS):Option PS:=((cJ toks) s0).bind λs1=>((bK toks) s1).bind λs2=>((jI toks ([61]) (R .typeExpr)) s2).bind λs3=>((bP toks [59]) s3).bind λs4=>some s4
theorem aHq{toks:List Tk}{ip n:Nat}{R:dP}(IH:lD toks ip R)(b0:Nat):FC Tryz.prog toks ip 231 [.optr b0 0] (aEj toks n R) cM (eW [(0,gO),(b0, .row [.optr ip 0])]):=by
 refine eN λs0 s' F0 H0 hm p0 i0=> ?_;obtain⟨⟨k0a,n0a⟩,⟨k0b,n0b⟩,_⟩:=i0;obtain⟨st0,r0⟩:=p0.row;have hl:=aV p0.len;have f0:=Fr.refl F0 H0;unfold aEj at hm;refine aF (N:=11) Tryz.func231 rfl rfl z6 λhb'=> ?_;refine qT 1 (a2 aJ (w3 r0 k0a k0b)) ?_;obtain⟨s1,e1,hm⟩:=oB hm;refine qN (w3 r0 k0a k0b) (FN.apX (cC toks ip) e1 p0) ?_;rintro _ H1 ⟨rfl,F1,p1,g1⟩;obtain⟨f1,⟨st1,r1⟩,⟨k1a,n1a⟩,⟨k1b,n1b⟩⟩:=iN f0 p1 g1 k0a n0a k0b n0b;refine qT 1 (a2 aJ (w3 r1 k1a k1b)) ?_;obtain⟨s2,e2,hm⟩:=oB hm;refine qN (w3 r1 k1a k1b) (FN.apX (cI toks ip) e2 p1) ?_;rintro _ H2 ⟨rfl,F2,p2,g2⟩;obtain⟨f2,⟨st2,r2⟩,⟨k2a,n2a⟩,⟨k2b,n2b⟩⟩:=iN f1 p2 g2 k1a n1a k1b n1b;have q2:=aA r2;have b2a:=aA k2a;have b2b:=aA k2b;refine qT 3 (a2 aJ (w3 r2 k2a k2b)) ?_;obtain⟨s3,e3,hm⟩:=oB hm;refine qN (w3 r2 k2a k2b) (FC.apX (mR toks ip ([61]) 163 [.optr ip 0] [] uO (dS [(0,gO)]) (FG.fc (IH .typeExpr))) e3 p2 ⟨⟨k2a,n2a⟩,trivial⟩) ?_;rintro _ H3 ⟨rfl,F3,p3,g3⟩;obtain⟨f3,⟨st3,r3⟩,⟨k3a,n3a⟩,⟨k3b,n3b⟩⟩:=iN f2 p3 g3 k2a n2a k2b n2b;refine qT 1 (a2 aJ (w3 r3 k3a k3b)) ?_;obtain⟨s4,e4,hm⟩:=oB hm;refine qN (w3 r3 k3a k3b) (FN.apX (bL toks ip [59]) e4 p3) ?_;rintro _ H4 ⟨rfl,F4,p4,g4⟩;obtain⟨f4,⟨st4,r4⟩,⟨k4a,n4a⟩,⟨k4b,n4b⟩⟩:=iN f3 p4 g4 k3a n3a k3b n3b;refine dL ?_;injection hm with hm;subst hm;exact bJ p4 f4
def WA(toks:List Tk)(n:Nat)(R:dP)(s0:PS):Option PS:=((bP toks [123]) s0).bind λs1=>(dO (λs2=>eI (aG toks s2.pos) [[116,121,112,101],[102,110]]) (λs2=>if eI (aG toks s2.pos) [[102,110]]=true then(((cF 3 (aE5 toks n R)) s2).bind λs3=>some s3)else(((cF 16 (aEj toks n R)) s2).bind λs3=>some s3)) n s1).bind λs2=>((bP toks [125]) s2).bind λs3=>some s3
theorem IV{toks:List Tk}{ip n:Nat}{R:dP}(IH:lD toks ip R):FG toks ip 160 [.optr ip 0] (WA toks n R) cM:=by
 intro s0 s' F0 H0 hm p0 i0;obtain⟨⟨hg,n0a⟩,_⟩:=i0;obtain⟨st0,r0⟩:=p0.row;have q0:=aA r0;have hl:=aV p0.len;have f0:=Fr.refl F0 H0;have k0a:=aA hg [.row [.optr ip 0]];have b0a:=aA k0a;have k0b:(H0++ [.row [.optr ip 0]])[H0.length]? =some (.row [.optr ip 0]):=z6
 have n0b:=p0.new0;have b0b:=aA k0b;unfold WA at hm;refine aF (N:=18) Tryz.func160 rfl rfl z6 λhb'=> ?_;refine qE (a4 aJ r0 q0 hg) ?_;refine qT 1 (a4 aJ r0 q0 hg) ?_;obtain⟨s1,e1,hm⟩:=oB hm;refine qN (a3 r0 q0 hg) (FN.apX (bL toks ip [123]) e1 p0) ?_;rintro _ H1 ⟨rfl,F1,p1,g1⟩;have f1:=f0.stX g1;obtain⟨st1,r1⟩:=p1.row;have q1:=aA r1;obtain⟨k1a,n1a⟩:=g1.gtX k0a n0a;have b1a:=aA k1a;obtain⟨k1b,n1b⟩:=g1.gtX k0b n0b;have b1b:=aA k1b;refine wQ ?_;obtain⟨sL2,eL2,hm⟩:=oB hm;have hmo2:=hm;clear hm;refine fB ?_;have x2:=a5 hg r1 q1 k1a (a3 b1a k1b b1b);refine eC (σ:=Nat×PS×List Nat) (λ(z:Nat×PS×List Nat)=> [(0, .optr ip 0),(1, .optr (H0.length) 0),(2, .optr ip 0)]) (λ(z:Nat×PS×List Nat)=>λH2=>dO (λs2=>eI (aG toks s2.pos) [[116,121,112,101],[102,110]]) (λs2=>if eI (aG toks s2.pos) [[102,110]]=true then(((cF 3 (aE5 toks n R)) s2).bind λs3=>some s3)else(((cF 16 (aEj toks n R)) s2).bind λs3=>some s3)) z.1 z.2.1=some sL2/\eJ toks ip z.2.1 z.2.2 H2/\Fr F0 z.2.2 H0 H2/\(H2[0]? =some (gO)/\(0)∉z.2.2)/\(H2[H0.length]? =some (.row [.optr ip 0])/\(H0.length)∉z.2.2)) (λ(z:Nat×PS×List Nat)=>z.1) ((n,s1,F1)) ⟨(Zf x2),(Zf x2),(Zf x2),trivial⟩ (⟨eL2,(by first|exact p1|exact p1.app _|exact p1.flg false),(by first|exact f1|exact f1.app _),⟨(by first|exact k1a|exact b1a _),n1a⟩,⟨(by first|exact k1b|exact b1b _),n1b⟩⟩) ?_;intro z H2 hg;obtain⟨k2,s2,F2⟩:=z;obtain⟨hk2,p2,f2,⟨k2a,n2a⟩,⟨k2b,n2b⟩⟩:=hg;simp only at hk2 p2 f2 k2a n2a k2b n2b;obtain⟨st2,r2⟩:=p2.row;have q2:=aA r2;have b2a:=aA k2a;have b2b:=aA k2b;cases k2 with
 |zero=>cases hk2
 |succ k2=> ?_
 have x1:=a5 hg r2 q2 k2a (a3 b2a k2b b2b);refine qT 2 (a4 y9 aJ fQ x1) ?_;refine qP x1 dJ (fM (mB r2) hl p2.pos [[116,121,112,101],[102,110]] z7) ?_;refine oN ?_;refine qI x1 (λbt6=> ?_) (λbt6=> ?_)
 ·
  unfold dO at hk2;rw[fZ bt6]at hk2;obtain⟨sB2,hm,hk2⟩:=oB hk2;refine qK ?_;refine qB ?_;refine qT 2 (a4 y9 aJ fQ x1) ?_;refine qP x1 dJ (fM (mB r2) hl p2.pos [[102,110]] z7) ?_;refine oN ?_;refine qI x1 (λbt9=> ?_) (λbt9=> ?_)
  ·
   rw[fZ bt9]at hm;refine qT 2 (a2 aJ x1) ?_;obtain⟨s3,e3,hm⟩:=oB hm;refine qN (a2 hg (w3 r2 k2a k2b)) (FC.apX (cP toks ip 3 230 [] [.optr (H0.length) 0] aIu (dS [(0,gO),(H0.length, .row [.optr ip 0])]) (aLz (n:=n) IH (H0.length))) e3 p2 ⟨⟨k2a,n2a⟩,⟨k2b,n2b⟩,trivial⟩) ?_;rintro _ H3 ⟨rfl,F3,p3,g3⟩;have f3:=f2.stX g3;obtain⟨st3,r3⟩:=p3.row;have q3:=aA r3;obtain⟨k3a,n3a⟩:=g3.gtX k2a n2a;have b3a:=aA k3a;obtain⟨k3b,n3b⟩:=g3.gtX k2b n2b;have b3b:=aA k3b;refine wQ ?_;refine bD ?_;simp only[aW,aO,reduceIte,Nat.reduceEqDiff,aUb,if_true,if_false]
   try simp only[aW,aO]
   injection hm with hm;subst hm;exact⟨(k2,_,F3),aT9 _,⟨rfl,rfl,rfl,trivial⟩,hk2,p3,f3,⟨k3a,n3a⟩,⟨k3b,n3b⟩⟩
  ·
   rw[gI bt9]at hm;refine qK ?_;refine qT 2 (a2 aJ x1) ?_;obtain⟨s3,e3,hm⟩:=oB hm;refine qN (a2 hg (w3 r2 k2a k2b)) (FC.apX (cP toks ip 16 231 [] [.optr (H0.length) 0] aIr (dS [(0,gO),(H0.length, .row [.optr ip 0])]) (aHq (n:=n) IH (H0.length))) e3 p2 ⟨⟨k2a,n2a⟩,⟨k2b,n2b⟩,trivial⟩) ?_;rintro _ H3 ⟨rfl,F3,p3,g3⟩;have f3:=f2.stX g3;obtain⟨st3,r3⟩:=p3.row;have q3:=aA r3;obtain⟨k3a,n3a⟩:=g3.gtX k2a n2a;have b3a:=aA k3a;obtain⟨k3b,n3b⟩:=g3.gtX k2b n2b;have b3b:=aA k3b
   try simp only[aW,aO]
   injection hm with hm;subst hm;exact⟨(k2,_,F3),aT9 _,⟨rfl,rfl,rfl,trivial⟩,hk2,p3,f3,⟨k3a,n3a⟩,⟨k3b,n3b⟩⟩
 ·
  unfold dO at hk2;rw[gI bt6]at hk2;injection hk2 with hk2;subst hk2;have hm:=hmo2;refine wQ ?_;refine bD ?_;simp only[aW,aO,reduceIte,Nat.reduceEqDiff,aUb,if_true,if_false];refine qT 1 (a2 aJ x1) ?_;obtain⟨s3,e3,hm⟩:=oB hm;refine qN x1 (FN.apX (bL toks ip [125]) e3 p2) ?_;rintro _ H3 ⟨rfl,F3,p3,g3⟩;have f3:=f2.stX g3;obtain⟨st3,r3⟩:=p3.row;have q3:=aA r3;obtain⟨k3a,n3a⟩:=g3.gtX k2a n2a;have b3a:=aA k3a;obtain⟨k3b,n3b⟩:=g3.gtX k2b n2b;have b3b:=aA k3b;refine dL ?_;injection hm with hm;subst hm;exact bJ p3 f3
def EY(toks:List Tk)(n:Nat)(R:dP)(b:Bool)(s0:PS):Option PS:=((bK toks) s0).bind λs1=>if b=true then(((cH toks [[60]]) s1).bind λs2=>if eI (aG toks s1.pos) [[60]]=true then(((pM toks n ([62]) (R .typeExpr)) s2).bind λs3=>some s3)else(some s2))else(some s1)
theorem aA2{toks:List Tk}{ip n:Nat}{R:dP}(IH:lD toks ip R)(b0 b1:Nat)(b:Bool):FC Tryz.prog toks ip 273 [.optr b0 0, .optr b1 0] (EY toks n R b) cM (eW [(0,gO),(b0, .row [.optr ip 0]),(b1, .row [.bool b])]):=by
 refine eN λs0 s' F0 H0 hm p0 i0=> ?_;obtain⟨⟨k0a,n0a⟩,⟨k0b,n0b⟩,⟨k0c,n0c⟩,_⟩:=i0;obtain⟨st0,r0⟩:=p0.row;have hl:=aV p0.len;have f0:=Fr.refl F0 H0;unfold EY at hm;refine aF (N:=14) Tryz.func273 rfl rfl z6 λhb'=> ?_;refine qT 1 (a2 aJ (w4 r0 k0a k0b k0c)) ?_;obtain⟨s1,e1,hm⟩:=oB hm;refine qN (w4 r0 k0a k0b k0c) (FN.apX (cI toks ip) e1 p0) ?_;rintro _ H1 ⟨rfl,F1,p1,g1⟩;obtain⟨f1,⟨st1,r1⟩,⟨k1a,n1a⟩,⟨k1b,n1b⟩,⟨k1c,n1c⟩⟩:=KV f0 p1 g1 k0a n0a k0b n0b k0c n0c;rcases Bool.eq_false_or_eq_true (b)with hd1|hd1
 ·
  rw[fZ hd1]at hm;refine qT 4 (a5 y4 y9 aJ fQ (a2 hd1 (w4 r1 k1a k1b k1c))) ?_;obtain⟨s2,e2,hm⟩:=oB hm;refine qA (a2 hd1 (w4 r1 k1a k1b k1c)) wV (FN.apX (eG toks ip [[60]] z7) e2 p1) ?_;rintro _ H2 ⟨rfl,F2,p2,g2⟩;obtain⟨f2,⟨st2,r2⟩,⟨k2a,n2a⟩,⟨k2b,n2b⟩,⟨k2c,n2c⟩⟩:=KV f1 p2 g2 k1a n1a k1b n1b k1c n1c;have q2:=aA r2;have b2a:=aA k2a;have b2b:=aA k2b;have b2c:=aA k2c;refine qX (a2 hd1 (w4 r2 k2a k2b k2c)) ?_;refine qI (a2 hd1 (w4 r2 k2a k2b k2c)) (λbt9=> ?_) (λbt9=> ?_)
  ·
   rw[fZ bt9]at hm;refine qT 3 (a3 aJ hd1 (w4 r2 k2a k2b k2c)) ?_;obtain⟨s3,e3,hm⟩:=oB hm;refine qN (a2 hd1 (w4 r2 k2a k2b k2c)) (FC.apX (rJ toks ip n ([62]) 163 [.optr ip 0] [] uO (dS [(0,gO)]) (λ_ _ _=>nF) (FG.fc (IH .typeExpr))) e3 p2 ⟨⟨k2a,n2a⟩,trivial⟩) ?_;rintro _ H3 ⟨rfl,F3,p3,g3⟩;obtain⟨f3,⟨st3,r3⟩,⟨k3a,n3a⟩,⟨k3b,n3b⟩,⟨k3c,n3c⟩⟩:=KV f2 p3 g3 k2a n2a k2b n2b k2c n2c;refine dL ?_;injection hm with hm;subst hm;exact bJ p3 f3
  ·
   rw[gI bt9]at hm;refine qK ?_;refine dL ?_;injection hm with hm;subst hm;exact bJ p2 f2
 ·
  rw[gI hd1]at hm;refine qE (a5 y4 y9 aJ fQ (a2 hd1 (w4 r1 k1a k1b k1c))) ?_;refine qF (a2 hd1 (w4 r1 k1a k1b k1c)) ?_;refine qK ?_;refine dL ?_;injection hm with hm;subst hm;exact bJ p1 f1
def aM6(toks:List Tk)(n:Nat)(R:dP)(b:Bool)(s0:PS):Option PS:=((cF 18 (EY toks n R b)) s0).bind (lO (λs=>eI (aG toks s.pos) [[58,58]]) (cH toks [[58,58]]) (cF 18 (EY toks n R b)) n)
theorem QH{c:PS->Bool}{a b:PS->Option PS}{fst:Bool}{k1:Nat}{s1 s':PS}(h:(fst=true/\∃k,k1=k+1/\(b s1).bind (lO c a b k)=some s')\/(fst=false/\lO c a b k1 s1=some s')):
  (fst=true/\∃k,k1=k+1/\(b s1).bind (lO c a b k)=some s')\/(fst=false/\∃k,k1=k+1/\c s1=true/\∃sB,((a s1).bind λs=>(b s).bind λs=>some s)=some sB/\lO c a b k sB=some s')\/(fst=false/\c s1=false/\((a s1).bind λs=>some s)=some s'):=by
 rcases h with h| ⟨h1,h2⟩
 ·exact .inl h
 ·cases k1 with
  |zero=>cases h2
  |succ k=>
   unfold lO at h2
   split at h2
   ·rename_i hc;obtain⟨sB,h3,h4⟩:=oB h2;refine .inr (.inl ⟨h1,k,rfl,hc,sB, ?_,h4⟩);obtain⟨s2,h5,h6⟩:=oB h3;rw[h5];exact JD h6
   ·rename_i hc;exact .inr (.inr ⟨h1,by simpa using hc,JD h2⟩)
theorem aMj{toks:List Tk}{ip n:Nat}{R:dP}(IH:lD toks ip R)(b0 b1:Nat)(b:Bool):FC Tryz.prog toks ip 272 [.optr b0 0, .optr b1 0] (aM6 toks n R b) cM (eW [(0,gO),(b0, .row [.optr ip 0]),(b1, .row [.bool b])]):=by
 refine eN λs0 s' F0 H0 hm p0 i0=> ?_;obtain⟨⟨k0a,n0a⟩,⟨k0b,n0b⟩,⟨k0c,n0c⟩,_⟩:=i0;have b0a:=aA k0a;have b0b:=aA k0b;have b0c:=aA k0c;obtain⟨st0,r0⟩:=p0.row;have q0:=aA r0;have hl:=aV p0.len;have f0:=Fr.refl F0 H0;unfold aM6 at hm;refine aF (N:=12) Tryz.func272 rfl rfl z6 λhb'=> ?_;refine qE (w4 r0 k0a k0b k0c) ?_;refine qB ?_;refine eC (σ:=Nat×PS×List Nat×Bool) (λ(z:Nat×PS×List Nat×Bool)=> [(0, .optr b0 0),(1, .optr b1 0),(2, .bool z.2.2.2)]) (λ(z:Nat×PS×List Nat×Bool)=>λH1=>((z.2.2.2=true/\∃k,z.1=k+1/\((cF 18 (EY toks n R b)) z.2.1).bind (lO (λs=>eI (aG toks s.pos) [[58,58]]) (cH toks [[58,58]]) (cF 18 (EY toks n R b)) k)=some s')\/(z.2.2.2=false/\lO (λs=>eI (aG toks s.pos) [[58,58]]) (cH toks [[58,58]]) (cF 18 (EY toks n R b)) z.1 z.2.1=some s'))/\eJ toks ip z.2.1 z.2.2.1 H1/\Fr F0 z.2.2.1 H0 H1/\(H1[0]? =some (gO)/\(0)∉z.2.2.1)/\(H1[b0]? =some (.row [.optr ip 0])/\(b0)∉z.2.2.1)/\(H1[b1]? =some (.row [.bool b])/\(b1)∉z.2.2.1)) (λ(z:Nat×PS×List Nat×Bool)=>z.1) ((n+1,s0,F0,true)) ⟨(Zf (a5 r0 q0 k0a b0a (a4 k0b b0b k0c b0c))),(Zf (a5 r0 q0 k0a b0a (a4 k0b b0b k0c b0c))),(Zf (a5 r0 q0 k0a b0a (a4 k0b b0b k0c b0c))),trivial⟩ (⟨.inl ⟨rfl,n,rfl,hm⟩,(by first|exact p0|exact p0.app _),(by first|exact f0|exact f0.app _),⟨(by first|exact k0a|exact b0a _),n0a⟩,⟨(by first|exact k0b|exact b0b _),n0b⟩,⟨(by first|exact k0c|exact b0c _),n0c⟩⟩) ?_;intro z H1 hg;obtain⟨k1,s1,F1,fst⟩:=z;obtain⟨hk1,p1,f1,⟨k1a,n1a⟩,⟨k1b,n1b⟩,⟨k1c,n1c⟩⟩:=hg;simp only at hk1 p1 f1 k1a n1a k1b n1b k1c n1c;obtain⟨st1,r1⟩:=p1.row;have q1:=aA r1;have b1a:=aA k1a;have b1b:=aA k1b;have b1c:=aA k1c;obtain⟨rfl,k1,rfl,hm⟩| ⟨rfl,k1,rfl,hd1,sB,hm,hk⟩| ⟨rfl,hd1,hm⟩:(fst=true/\∃k,k1=k+1/\((cF 18 (EY toks n R b)) s1).bind (lO (λs=>eI (aG toks s.pos) [[58,58]]) (cH toks [[58,58]]) (cF 18 (EY toks n R b)) k)=some s')\/(fst=false/\∃k,k1=k+1/\(eI (aG toks s1.pos) [[58,58]])=true/\∃sB,((cH toks [[58,58]] s1).bind λs=>((cF 18 (EY toks n R b)) s).bind λs=>some s)=some sB/\lO (λs=>eI (aG toks s.pos) [[58,58]]) (cH toks [[58,58]]) (cF 18 (EY toks n R b)) k sB=some s')\/(fst=false/\(eI (aG toks s1.pos) [[58,58]])=false/\((cH toks [[58,58]] s1).bind λs=>some s)=some s'):=QH hk1
 ·
  refine qE (a4 y9 aJ fQ (w4 r1 k1a k1b k1c)) ?_;refine ZG (a5 r1 q1 k1a b1a (a4 k1b b1b k1c b1c)) ?_;refine qK ?_;refine qB ?_;refine qT 2 (a2 aJ (w4 r1 k1a k1b k1c)) ?_;obtain⟨s2,e2,hm⟩:=oB hm;refine qN (w4 r1 k1a k1b k1c) (FC.apX (cP toks ip 18 273 [] [.optr (b0) 0, .optr (b1) 0] XS (dS [(0,gO),(b0, .row [.optr ip 0]),(b1, .row [.bool b])]) (aA2 (n:=n) IH (b0) (b1) (b))) e2 p1 ⟨⟨k1a,n1a⟩,⟨k1b,n1b⟩,⟨k1c,n1c⟩,trivial⟩) ?_;rintro _ H2 ⟨rfl,F2,p2,g2⟩;obtain⟨f2,⟨st2,r2⟩,⟨k2a,n2a⟩,⟨k2b,n2b⟩,⟨k2c,n2c⟩⟩:=KV f1 p2 g2 k1a n1a k1b n1b k1c n1c;have q2:=aA r2;have b2a:=aA k2a;have b2b:=aA k2b;have b2c:=aA k2c;refine qE (w4 r2 k2a k2b k2c) ?_
  try simp only[aW,aO]
  exact⟨(k1,s2,F2,false),aT9 _,⟨rfl,rfl,rfl,trivial⟩, .inr ⟨rfl,hm⟩,p2,f2,⟨k2a,n2a⟩,⟨k2b,n2b⟩,⟨k2c,n2c⟩⟩
 ·
  refine qT 4 (a5 y9 aJ fQ hd1 (w4 r1 k1a k1b k1c)) ?_;obtain⟨s2,e2,hm⟩:=oB hm;refine qA (a2 hd1 (w4 r1 k1a k1b k1c)) wV (FN.apX (eG toks ip [[58,58]] z7) e2 p1) ?_;rintro _ H2 ⟨rfl,F2,p2,g2⟩;obtain⟨f2,⟨st2,r2⟩,⟨k2a,n2a⟩,⟨k2b,n2b⟩,⟨k2c,n2c⟩⟩:=KV f1 p2 g2 k1a n1a k1b n1b k1c n1c;have q2:=aA r2;have b2a:=aA k2a;have b2b:=aA k2b;have b2c:=aA k2c;refine qX (a2 hd1 (w4 r2 k2a k2b k2c)) ?_;refine ZG (a5 hd1 r2 q2 k2a (a5 b2a k2b b2b k2c b2c)) ?_;refine qK ?_;refine qB ?_;refine qT 2 (a3 aJ hd1 (w4 r2 k2a k2b k2c)) ?_;obtain⟨s3,e3,hm⟩:=oB hm;refine qN (a2 hd1 (w4 r2 k2a k2b k2c)) (FC.apX (cP toks ip 18 273 [] [.optr (b0) 0, .optr (b1) 0] XS (dS [(0,gO),(b0, .row [.optr ip 0]),(b1, .row [.bool b])]) (aA2 (n:=n) IH (b0) (b1) (b))) e3 p2 ⟨⟨k2a,n2a⟩,⟨k2b,n2b⟩,⟨k2c,n2c⟩,trivial⟩) ?_;rintro _ H3 ⟨rfl,F3,p3,g3⟩;obtain⟨f3,⟨st3,r3⟩,⟨k3a,n3a⟩,⟨k3b,n3b⟩,⟨k3c,n3c⟩⟩:=KV f2 p3 g3 k2a n2a k2b n2b k2c n2c;refine qE (a2 hd1 (w4 r3 k3a k3b k3c)) ?_
  try simp only[aW,aO]
  injection hm with hm;subst hm;exact⟨(k1,s3,F3,false),aT9 _,⟨rfl,rfl,rfl,trivial⟩, .inr ⟨rfl,hk⟩,p3,f3,⟨k3a,n3a⟩,⟨k3b,n3b⟩,⟨k3c,n3c⟩⟩
 ·
  refine qT 4 (a5 y9 aJ fQ hd1 (w4 r1 k1a k1b k1c)) ?_;obtain⟨s2,e2,hm⟩:=oB hm;refine qA (a2 hd1 (w4 r1 k1a k1b k1c)) wV (FN.apX (eG toks ip [[58,58]] z7) e2 p1) ?_;rintro _ H2 ⟨rfl,F2,p2,g2⟩;obtain⟨f2,⟨st2,r2⟩,⟨k2a,n2a⟩,⟨k2b,n2b⟩,⟨k2c,n2c⟩⟩:=KV f1 p2 g2 k1a n1a k1b n1b k1c n1c;have q2:=aA r2;have b2a:=aA k2a;have b2b:=aA k2b;have b2c:=aA k2c;refine qX (a2 hd1 (w4 r2 k2a k2b k2c)) ?_;refine qF (a2 hd1 (w4 r2 k2a k2b k2c)) ?_;refine wQ ?_;refine bD ?_;simp only[aW,aO,reduceIte,Nat.reduceEqDiff,aUb,if_true,if_false];refine dL ?_;injection hm with hm;subst hm;exact bJ p2 f2
def aJk(toks:List Tk)(n:Nat)(R:dP)(b:Bool)(s0:PS):Option PS:=((cF 17 (aM6 toks n R (b))) s0).bind λs1=>some s1
theorem aKd{toks:List Tk}{ip n:Nat}{R:dP}(IH:lD toks ip R)(b:Bool):FG toks ip 235 [.optr ip 0, .bool b] (aJk toks n R b) (CD (.path b)):=by
 intro s0 s' F0 H0 hm p0 i0;obtain⟨⟨hg,n0a⟩,_⟩:=i0;obtain⟨st0,r0⟩:=p0.row;have q0:=aA r0;have hl:=aV p0.len;have f0:=Fr.refl F0 H0;have k0a:=aA hg [.row [.optr ip 0], .row [.bool b]];have b0a:=aA k0a;have k0b:(H0++ [.row [.optr ip 0], .row [.bool b]])[H0.length]? =some (.row [.optr ip 0]):=z6
 have n0b:=p0.new0;have b0b:=aA k0b;have k0c:(H0++ [.row [.optr ip 0], .row [.bool b]])[H0.length+1]? =some (.row [.bool b]):=z6
 have n0c:=p0.new 1;have b0c:=aA k0c;unfold aJk at hm;refine aF (N:=7) Tryz.func235 rfl rfl z6 λhb'=> ?_;refine qE (a5 y4 aJ r0 q0 hg) ?_;refine qT 2 (a4 aJ r0 q0 hg) ?_;obtain⟨s1,e1,hm⟩:=oB hm;refine qN (a2 hg (w1 r0)) (FC.apX (cP toks ip 17 272 [] [.optr (H0.length) 0, .optr (H0.length+1) 0] aIj (dS [(0,gO),(H0.length, .row [.optr ip 0]),(H0.length+1, .row [.bool b])]) (aMj (n:=n) IH (H0.length) (H0.length+1) (b))) e1 p0 ⟨⟨k0a,n0a⟩,⟨k0b,n0b⟩,⟨k0c,n0c⟩,trivial⟩) ?_;rintro _ H1 ⟨rfl,F1,p1,g1⟩;have f1:=f0.stX g1;obtain⟨st1,r1⟩:=p1.row;have q1:=aA r1;obtain⟨k1a,n1a⟩:=g1.gtX k0a n0a;have b1a:=aA k1a;obtain⟨k1b,n1b⟩:=g1.gtX k0b n0b;have b1b:=aA k1b;obtain⟨k1c,n1c⟩:=g1.gtX k0c n0c;have b1c:=aA k1c;refine dL ?_;injection hm with hm;subst hm;exact bJ p1 f1
def aMt(toks:List Tk)(n:Nat)(R:dP)(b:Bool)(s0:PS):Option PS:=((bK toks) s0).bind λs1=>((R .typeParams) s1).bind λs2=>((bP toks [40]) s2).bind λs3=>((R (.params ([41]))) s3).bind λs4=>((jI toks ([45,62]) (R .typeExpr)) s4).bind λs5=>if b=true then(((R .block) s5).bind λs6=>some s6)else(((cH toks [[59]]) s5).bind λs6=>if eI (aG toks s5.pos) [[59]]=true then(((oH 0) s6).bind λs7=>some s7)else(((R .block) s6).bind λs7=>some s7))
theorem aJh{toks:List Tk}{ip n:Nat}{R:dP}(IH:lD toks ip R)(b:Bool):FG toks ip 157 [.optr ip 0, .bool b] (aMt toks n R b) (CD (.function b)):=by
 intro s0 s' F0 H0 hm p0 i0;obtain⟨⟨hg,n0a⟩,_⟩:=i0;obtain⟨st0,r0⟩:=p0.row;have hl:=aV p0.len;have f0:=Fr.refl F0 H0;have k0a:=hg;unfold aMt at hm;refine aF (N:=27) Tryz.func157 rfl rfl z6 λhb'=> ?_;obtain⟨s1,e1,hm⟩:=oB hm;refine qW 1 (w2 r0 k0a) (FN.apX (cI toks ip) e1 p0) ?_;rintro _ H1 ⟨rfl,F1,p1,g1⟩;obtain⟨f1,⟨st1,r1⟩,⟨k1a,n1a⟩⟩:=kH f0 p1 g1 k0a n0a;obtain⟨s2,e2,hm⟩:=oB hm;refine qW 1 (w2 r1 k1a) (FG.apX (IH .typeParams) e2 p1 ⟨k1a,n1a⟩) ?_;rintro _ H2 ⟨rfl,F2,p2,g2⟩;obtain⟨f2,⟨st2,r2⟩,⟨k2a,n2a⟩⟩:=kH f1 p2 g2 k1a n1a;obtain⟨s3,e3,hm⟩:=oB hm;refine qW 1 (w2 r2 k2a) (FN.apX (bL toks ip [40]) e3 p2) ?_;rintro _ H3 ⟨rfl,F3,p3,g3⟩;obtain⟨f3,⟨st3,r3⟩,⟨k3a,n3a⟩⟩:=kH f2 p3 g3 k2a n2a;obtain⟨s4,e4,hm⟩:=oB hm;refine qW 1 (w2 r3 k3a) (FG.apX (IH (.params ([41]))) e4 p3 ⟨k3a,n3a⟩) ?_;rintro _ H4 ⟨rfl,F4,p4,g4⟩;obtain⟨f4,⟨st4,r4⟩,⟨k4a,n4a⟩⟩:=kH f3 p4 g4 k3a n3a;have q4:=aA r4;have b4a:=aA k4a;obtain⟨s5,e5,hm⟩:=oB hm;refine qW 3 (w2 r4 k4a) (FC.apX (mR toks ip ([45,62]) 163 [.optr ip 0] [] uO (dS [(0,gO)]) (FG.fc (IH .typeExpr))) e5 p4 ⟨⟨k4a,n4a⟩,trivial⟩) ?_;rintro _ H5 ⟨rfl,F5,p5,g5⟩;obtain⟨f5,⟨st5,r5⟩,⟨k5a,n5a⟩⟩:=kH f4 p5 g5 k4a n4a;rcases Bool.eq_false_or_eq_true (b)with hd5|hd5
 ·
  rw[fZ hd5]at hm;refine qE (a4 y9 fQ hd5 (w2 r5 k5a)) ?_;refine qF (a2 hd5 (w2 r5 k5a)) ?_;refine qK ?_;refine qL [0] (a2 hd5 (w2 r5 k5a)) ?_;obtain⟨s6,e6,hm⟩:=oB hm;refine qW 1 (a2 hd5 (w2 r5 k5a)) (FG.apX (IH .block) e6 p5 ⟨k5a,n5a⟩) ?_;rintro _ H6 ⟨rfl,F6,p6,g6⟩;obtain⟨f6,⟨st6,r6⟩,⟨k6a,n6a⟩⟩:=kH f5 p6 g6 k5a n5a;refine dL ?_;injection hm with hm;subst hm;exact bJ p6 f6
 ·
  rw[gI hd5]at hm;refine qT 5 (a4 y9 fQ hd5 (w2 r5 k5a)) ?_;obtain⟨s6,e6,hm⟩:=oB hm;refine qA (a2 hd5 (w2 r5 k5a)) wV (FN.apX (eG toks ip [[59]] z7) e6 p5) ?_;rintro _ H6 ⟨rfl,F6,p6,g6⟩;obtain⟨f6,⟨st6,r6⟩,⟨k6a,n6a⟩⟩:=kH f5 p6 g6 k5a n5a;refine qX (a2 hd5 (w2 r6 k6a)) ?_;refine qI (a2 hd5 (w2 r6 k6a)) (λbt22=> ?_) (λbt22=> ?_)
  ·
   rw[fZ bt22]at hm;refine qL [0] (a2 hd5 (w2 r6 k6a)) ?_;obtain⟨s7,e7,hm⟩:=oB hm;refine qW 1 (a2 hd5 (w2 r6 k6a)) (FN.apX (yK toks ip) e7 p6) ?_;rintro _ H7 ⟨rfl,F7,p7,g7⟩;obtain⟨f7,⟨st7,r7⟩,⟨k7a,n7a⟩⟩:=kH f6 p7 g7 k6a n6a;refine wQ ?_;refine wT ⟨.inr rfl,_,rfl, ?_⟩;injection hm with hm;subst hm;exact bJ p7 f7
  ·
   rw[gI bt22]at hm;refine qK ?_;refine qL [0] (a2 hd5 (w2 r6 k6a)) ?_;obtain⟨s7,e7,hm⟩:=oB hm;refine qW 1 (a2 hd5 (w2 r6 k6a)) (FG.apX (IH .block) e7 p6 ⟨k6a,n6a⟩) ?_;rintro _ H7 ⟨rfl,F7,p7,g7⟩;obtain⟨f7,⟨st7,r7⟩,⟨k7a,n7a⟩⟩:=kH f6 p7 g7 k6a n6a;refine dL ?_;injection hm with hm;subst hm;exact bJ p7 f7
def aEv(toks:List Tk)(n:Nat)(R:dP)(k:Int)(s0:PS):Option PS:=((bK toks) s0).bind λs1=>((R .typeParams) s1).bind λs2=>((bP toks [123]) s2).bind λs3=>((pM toks n ([125]) (aLf toks n R (k))) s3).bind λs4=>some s4
theorem aBf{toks:List Tk}{ip n:Nat}{R:dP}(IH:lD toks ip R)(k:Int):FG toks ip 158 [.optr ip 0, .int .i64 k] (aEv toks n R k) cM:=by
 intro s0 s' F0 H0 hm p0 i0;obtain⟨⟨hg,n0a⟩,_⟩:=i0;obtain⟨st0,r0⟩:=p0.row;have q0:=aA r0;have hl:=aV p0.len;have f0:=Fr.refl F0 H0;have k0a:=aA hg [.row [.optr ip 0], .row [.int .i64 k]];have b0a:=aA k0a;have k0b:(H0++ [.row [.optr ip 0], .row [.int .i64 k]])[H0.length]? =some (.row [.optr ip 0]):=z6
 have n0b:=p0.new0;have b0b:=aA k0b;have k0c:(H0++ [.row [.optr ip 0], .row [.int .i64 k]])[H0.length+1]? =some (.row [.int .i64 k]):=z6
 have n0c:=p0.new 1;have b0c:=aA k0c;unfold aEv at hm;refine aF (N:=13) Tryz.func158 rfl rfl z6 λhb'=> ?_;refine qE (a5 y3 aJ r0 q0 hg) ?_;refine qT 1 (a4 aJ r0 q0 hg) ?_;obtain⟨s1,e1,hm⟩:=oB hm;refine qN (a3 r0 q0 hg) (FN.apX (cI toks ip) e1 p0) ?_;rintro _ H1 ⟨rfl,F1,p1,g1⟩;have f1:=f0.stX g1;obtain⟨st1,r1⟩:=p1.row;have q1:=aA r1;obtain⟨k1a,n1a⟩:=g1.gtX k0a n0a;have b1a:=aA k1a;obtain⟨k1b,n1b⟩:=g1.gtX k0b n0b;have b1b:=aA k1b;obtain⟨k1c,n1c⟩:=g1.gtX k0c n0c;have b1c:=aA k1c;have x1:=a5 hg r1 q1 k1a (a5 b1a k1b b1b k1c b1c);refine qT 1 (a2 aJ x1) ?_;obtain⟨s2,e2,hm⟩:=oB hm;refine qN x1 (FG.apX (IH .typeParams) e2 p1 ⟨k1a,n1a⟩) ?_;rintro _ H2 ⟨rfl,F2,p2,g2⟩;have f2:=f1.stX g2;obtain⟨st2,r2⟩:=p2.row;have q2:=aA r2;obtain⟨k2a,n2a⟩:=g2.gtX k1a n1a;have b2a:=aA k2a;obtain⟨k2b,n2b⟩:=g2.gtX k1b n1b;have b2b:=aA k2b;obtain⟨k2c,n2c⟩:=g2.gtX k1c n1c;have b2c:=aA k2c;have x2:=a5 hg r2 q2 k2a (a5 b2a k2b b2b k2c b2c);refine qT 1 (a2 aJ x2) ?_;obtain⟨s3,e3,hm⟩:=oB hm;refine qN x2 (FN.apX (bL toks ip [123]) e3 p2) ?_;rintro _ H3 ⟨rfl,F3,p3,g3⟩;have f3:=f2.stX g3;obtain⟨st3,r3⟩:=p3.row;have q3:=aA r3;obtain⟨k3a,n3a⟩:=g3.gtX k2a n2a;have b3a:=aA k3a;obtain⟨k3b,n3b⟩:=g3.gtX k2b n2b;have b3b:=aA k3b;obtain⟨k3c,n3c⟩:=g3.gtX k2c n2c;have b3c:=aA k3c;refine qT 2 (a5 aJ hg r3 q3 (a5 k3a b3a k3b b3b (a2 k3c b3c))) ?_;obtain⟨s4,e4,hm⟩:=oB hm;refine qN (a2 hg (w4 r3 k3a k3b k3c)) (FC.apX (rJ toks ip n ([125]) 225 [] [.optr (H0.length) 0, .optr (H0.length+1) 0] aLv (dS [(0,gO),(H0.length, .row [.optr ip 0]),(H0.length+1, .row [.int .i64 k])]) (λ_ _ _=>nF) (aM8 (n:=n) IH (H0.length) (H0.length+1) (k))) e4 p3 ⟨⟨k3a,n3a⟩,⟨k3b,n3b⟩,⟨k3c,n3c⟩,trivial⟩) ?_;rintro _ H4 ⟨rfl,F4,p4,g4⟩;have f4:=f3.stX g4;obtain⟨st4,r4⟩:=p4.row;have q4:=aA r4;obtain⟨k4a,n4a⟩:=g4.gtX k3a n3a;have b4a:=aA k4a;obtain⟨k4b,n4b⟩:=g4.gtX k3b n3b;have b4b:=aA k4b;obtain⟨k4c,n4c⟩:=g4.gtX k3c n3c;have b4c:=aA k4c;refine dL ?_;injection hm with hm;subst hm;exact bJ p4 f4
def aNv(toks:List Tk)(n:Nat)(R:dP)(s0:PS):Option PS:=((R (.path false)) s0).bind λs1=>((cH toks [[40]]) s1).bind λs2=>if eI (aG toks s1.pos) [[40]]=true then(((pM toks n ([41]) (R .pattern)) s2).bind λs3=>some s3)else(some s2)
theorem aLu{toks:List Tk}{ip n:Nat}{R:dP}(IH:lD toks ip R)(b0:Nat):FC Tryz.prog toks ip 341 [.optr b0 0] (aNv toks n R) cM (eW [(0,gO),(b0, .row [.optr ip 0])]):=by
 refine eN λs0 s' F0 H0 hm p0 i0=> ?_;obtain⟨⟨k0a,n0a⟩,⟨k0b,n0b⟩,_⟩:=i0;obtain⟨st0,r0⟩:=p0.row;have hl:=aV p0.len;have f0:=Fr.refl F0 H0;unfold aNv at hm;refine aF (N:=10) Tryz.func341 rfl rfl z6 λhb'=> ?_;refine qT 1 (a2 aJ (w3 r0 k0a k0b)) ?_;obtain⟨s1,e1,hm⟩:=oB hm;refine qN (w3 r0 k0a k0b) (FG.apX (IH (.path false)) e1 p0 ⟨k0a,n0a⟩) ?_;rintro _ H1 ⟨rfl,F1,p1,g1⟩;obtain⟨f1,⟨st1,r1⟩,⟨k1a,n1a⟩,⟨k1b,n1b⟩⟩:=iN f0 p1 g1 k0a n0a k0b n0b;refine qT 2 (a4 y9 aJ fQ (w3 r1 k1a k1b)) ?_;obtain⟨s2,e2,hm⟩:=oB hm;refine qN (w3 r1 k1a k1b) (FN.apX (eG toks ip [[40]] z7) e2 p1) ?_;rintro _ H2 ⟨rfl,F2,p2,g2⟩;obtain⟨f2,⟨st2,r2⟩,⟨k2a,n2a⟩,⟨k2b,n2b⟩⟩:=iN f1 p2 g2 k1a n1a k1b n1b;have q2:=aA r2;have b2a:=aA k2a;have b2b:=aA k2b;refine qI (w3 r2 k2a k2b) (λbt5=> ?_) (λbt5=> ?_)
 ·
  rw[fZ bt5]at hm;refine qT 3 (a2 aJ (w3 r2 k2a k2b)) ?_;obtain⟨s3,e3,hm⟩:=oB hm;refine qN (w3 r2 k2a k2b) (FC.apX (rJ toks ip n ([41]) 316 [.optr ip 0] [] aIs (dS [(0,gO)]) (λ_ _ _=>nF) (FG.fc (IH .pattern))) e3 p2 ⟨⟨k2a,n2a⟩,trivial⟩) ?_;rintro _ H3 ⟨rfl,F3,p3,g3⟩;obtain⟨f3,⟨st3,r3⟩,⟨k3a,n3a⟩,⟨k3b,n3b⟩⟩:=iN f2 p3 g3 k2a n2a k2b n2b;refine dL ?_;injection hm with hm;subst hm;exact bJ p3 f3
 ·
  rw[gI bt5]at hm;refine qK ?_;refine dL ?_;injection hm with hm;subst hm;exact bJ p2 f2
def aNy(toks:List Tk)(n:Nat)(R:dP)(s0:PS):Option PS:=if eI (aG toks s0.pos) [[109,117,116]]=true then(((cF 44 (aIi toks n R)) s0).bind λs1=>some s1)else(if(decide ((aG toks s0.pos).kind=103)&&decide ((aG toks s0.pos).text= [95]))=true then(((cF 43 (cJ toks)) s0).bind λs1=>some s1)else(if decide ((aG toks s0.pos).kind=103)=true then((oM toks s0).bind λsq1=>if(!eI (aG toks sq1.pos) [[40],[58,58]])=true then(((cF 44 (cJ toks)) s0).bind λs2=>some s2)else(((cF 45 (aNv toks n R)) s0).bind λs2=>some s2))else(if decide ((aG toks s0.pos).kind=105)=true then(((cF 27 (cJ toks)) s0).bind λs1=>some s1)else(if eI (aG toks s0.pos) [[116,114,117,101],[102,97,108,115,101]]=true then(((cF 28 (cJ toks)) s0).bind λs1=>some s1)else(((oH 46) s0).bind λs1=>some s1)))))
theorem aJx{toks:List Tk}{ip n:Nat}{R:dP}(IH:lD toks ip R):FG toks ip 316 [.optr ip 0] (aNy toks n R) (CD .pattern):=by
 intro s0 s' F0 H0 hm p0 i0;obtain⟨⟨hg,n0a⟩,_⟩:=i0;obtain⟨st0,r0⟩:=p0.row;have q0:=aA r0;have hl:=aV p0.len;have f0:=Fr.refl F0 H0;have k0a:=aA hg [.row [.optr ip 0], .row [.int .i64 (aG toks s0.pos).kind, .str (aG toks s0.pos).text]];have b0a:=aA k0a;have k0b:(H0++ [.row [.optr ip 0], .row [.int .i64 (aG toks s0.pos).kind, .str (aG toks s0.pos).text]])[H0.length]? =some (.row [.optr ip 0]):=z6
 have n0b:=p0.new0;have b0b:=aA k0b;have k0c:(H0++ [.row [.optr ip 0], .row [.int .i64 (aG toks s0.pos).kind, .str (aG toks s0.pos).text]])[H0.length+1]? =some (.row [.int .i64 (aG toks s0.pos).kind, .str (aG toks s0.pos).text]):=z6
 have n0c:=p0.new 1;have b0c:=aA k0c;unfold aNy at hm;refine aF (N:=62) Tryz.func316 rfl rfl z6 λhb'=> ?_;have x1:=a3 r0 q0 hg;refine qE (a2 aJ x1) ?_;refine qT 1 (a2 aJ x1) ?_;refine qP x1 AU (xE (mB r0) hl p0.pos) ?_;refine qX (a2 lT x1) ?_;refine qB ?_;refine qT 2 (a4 y9 aJ fQ x1) ?_;refine qP x1 dJ (fM (mB r0) hl p0.pos [[109,117,116]] z7) ?_;refine qX x1 ?_;refine qI x1 (λbt7=> ?_) (λbt7=> ?_)
 ·
  rw[fZ bt7]at hm;refine qT 2 (a2 aJ x1) ?_;obtain⟨s1,e1,hm⟩:=oB hm;refine qN (a2 hg (w1 r0)) (FC.apX (cP toks ip 44 340 [] [.optr (H0.length) 0] aHs (dS [(0,gO),(H0.length, .row [.optr ip 0])]) (aHx (n:=n) IH (H0.length))) e1 p0 ⟨⟨k0a,n0a⟩,⟨k0b,n0b⟩,trivial⟩) ?_;rintro _ H1 ⟨rfl,F1,p1,g1⟩;have f1:=f0.stX g1;obtain⟨st1,r1⟩:=p1.row;have q1:=aA r1;obtain⟨k1a,n1a⟩:=g1.gtX k0a n0a;have b1a:=aA k1a;obtain⟨k1b,n1b⟩:=g1.gtX k0b n0b;have b1b:=aA k1b;obtain⟨k1c,n1c⟩:=g1.gtX k0c n0c;have b1c:=aA k1c;refine dL ?_;injection hm with hm;subst hm;exact bJ p1 f1
 ·
  rw[gI bt7]at hm;refine wQ ?_;refine wR ?_;refine bO ?_;refine gT 1 (a2 aJ x1) ?_;refine gP x1 mK (λhc=>fA (mB r0) hl p0.pos) ?_;refine gX (a3 y9 lT x1) ?_;refine qI x1 (λbt14=> ?_) (λbt14=> ?_)
  ·
   rw[fZ bt14]at hm;refine qL [1] x1 ?_;refine qT 3 (a2 aJ x1) ?_;obtain⟨s1,e1,hm⟩:=oB hm;refine qN (a2 hg (w1 r0)) (FC.apX (cP toks ip 43 100 [.optr ip 0] [] nC (dS [(0,gO)]) (FG.fc (FN.fg (cC toks ip)))) e1 p0 ⟨⟨k0a,n0a⟩,trivial⟩) ?_;rintro _ H1 ⟨rfl,F1,p1,g1⟩;have f1:=f0.stX g1;obtain⟨st1,r1⟩:=p1.row;have q1:=aA r1;obtain⟨k1a,n1a⟩:=g1.gtX k0a n0a;have b1a:=aA k1a;obtain⟨k1b,n1b⟩:=g1.gtX k0b n0b;have b1b:=aA k1b;obtain⟨k1c,n1c⟩:=g1.gtX k0c n0c;have b1c:=aA k1c;refine dL ?_;injection hm with hm;subst hm;exact bJ p1 f1
  ·
   rw[gI bt14]at hm;refine qL [1,2] x1 ?_;rcases Bool.eq_false_or_eq_true (decide ((aG toks s0.pos).kind=103))with hd7|hd7
   ·
    rw[fZ hd7]at hm;refine qT 1 (a3 aJ hd7 x1) ?_;refine qP (a2 hd7 x1) mK (fA (mB r0) hl p0.pos) ?_;refine qU 2 (a3 aJ hd7 x1) ?_;obtain⟨sq1,e1,hm⟩:=oB hm;refine qA (a2 hd7 x1) IN ((by first|exact vO e1 p0|exact DX e1 p0 _)) ?_;rintro _ H1 ⟨iq1,Fq1,rfl,pq1_1,g1⟩;obtain⟨F1,nf1,p1,f1⟩:=(by first|exact mT p0 f0 g1|exact rW p0 f0 g1);obtain⟨st1,r1⟩:=p1.row;have q1:=aA r1;obtain⟨k1a,n1a⟩:=(by first|exact cZ g1 k0a n0a nf1|exact cZ g1 (b0a _) n0a nf1);have b1a:=aA k1a;obtain⟨k1b,n1b⟩:=(by first|exact cZ g1 k0b n0b nf1|exact cZ g1 (b0b _) n0b nf1);have b1b:=aA k1b;obtain⟨k1c,n1c⟩:=(by first|exact cZ g1 k0c n0c nf1|exact cZ g1 (b0c _) n0c nf1);have b1c:=aA k1c;obtain⟨stq1_1,rq1_1⟩:=pq1_1.row;have qq1_1:=aA rq1_1;have x2:=a5 hg hd7 r1 q1 (a5 k1a b1a k1b b1b (a2 k1c b1c));refine qU 1 (a3 y9 fQ x2) ?_;refine qP x2 dJ (fM (by first|exact rq1_1|exact qq1_1 _) hl pq1_1.pos [[40],[58,58]] z7) ?_;refine qX x2 ?_;refine qI x2 (λbt26=> ?_) (λbt26=> ?_)
    ·
     rw[fZ bt26]at hm;refine qT 3 (a2 aJ x2) ?_;obtain⟨s2,e2,hm⟩:=oB hm;refine qN (a3 hg hd7 (w4 r1 k1a k1b k1c)) (FC.apX (cP toks ip 44 100 [.optr ip 0] [] nC (dS [(0,gO)]) (FG.fc (FN.fg (cC toks ip)))) e2 p1 ⟨⟨k1a,n1a⟩,trivial⟩) ?_;rintro _ H2 ⟨rfl,F2,p2,g2⟩;have f2:=f1.stX g2;obtain⟨st2,r2⟩:=p2.row;have q2:=aA r2;obtain⟨k2a,n2a⟩:=g2.gtX k1a n1a;have b2a:=aA k2a;obtain⟨k2b,n2b⟩:=g2.gtX k1b n1b;have b2b:=aA k2b;obtain⟨k2c,n2c⟩:=g2.gtX k1c n1c;have b2c:=aA k2c;refine dL ?_;injection hm with hm;subst hm;exact bJ p2 f2
    ·
     rw[gI bt26]at hm;refine qT 1 (a2 aJ x2) ?_;refine qP x2 mK (fA (mB r1) hl p1.pos) ?_;refine qX x2 ?_;refine ZG (a5 hg hd7 r1 q1 (a5 k1a b1a k1b b1b (a2 k1c b1c))) ?_;refine qT 2 (a2 aJ x2) ?_;obtain⟨s2,e2,hm⟩:=oB hm;refine qN (a3 hg hd7 (w4 r1 k1a k1b k1c)) (FC.apX (cP toks ip 45 341 [] [.optr (H0.length) 0] aHr (dS [(0,gO),(H0.length, .row [.optr ip 0])]) (aLu (n:=n) IH (H0.length))) e2 p1 ⟨⟨k1a,n1a⟩,⟨k1b,n1b⟩,trivial⟩) ?_;rintro _ H2 ⟨rfl,F2,p2,g2⟩;have f2:=f1.stX g2;obtain⟨st2,r2⟩:=p2.row;have q2:=aA r2;obtain⟨k2a,n2a⟩:=g2.gtX k1a n1a;have b2a:=aA k2a;obtain⟨k2b,n2b⟩:=g2.gtX k1b n1b;have b2b:=aA k2b;obtain⟨k2c,n2c⟩:=g2.gtX k1c n1c;have b2c:=aA k2c;refine dL ?_;injection hm with hm;subst hm;exact bJ p2 f2
   ·
    rw[gI hd7]at hm;refine qT 1 (a3 aJ hd7 x1) ?_;refine qP (a2 hd7 x1) mK (fA (mB r0) hl p0.pos) ?_;refine qX (a5 y9 aJ fQ hd7 x1) ?_;refine qF (a2 hd7 x1) ?_;refine qT 1 (a3 aJ hd7 x1) ?_;refine qP (a2 hd7 x1) mK (fA (mB r0) hl p0.pos) ?_;refine qX (a2 hd7 x1) ?_;refine qF (a2 hd7 x1) ?_;refine qE (a4 y3 lT hd7 x1) ?_;refine qI (a2 hd7 x1) (λbt46=> ?_) (λbt46=> ?_)
    ·
     rw[fZ bt46]at hm;refine qL [1] (a2 hd7 x1) ?_;refine qT 3 (a3 aJ hd7 x1) ?_;obtain⟨s1,e1,hm⟩:=oB hm;refine qN (a3 hg hd7 (w1 r0)) (FC.apX (cP toks ip 27 100 [.optr ip 0] [] nC (dS [(0,gO)]) (FG.fc (FN.fg (cC toks ip)))) e1 p0 ⟨⟨k0a,n0a⟩,trivial⟩) ?_;rintro _ H1 ⟨rfl,F1,p1,g1⟩;have f1:=f0.stX g1;obtain⟨st1,r1⟩:=p1.row;have q1:=aA r1;obtain⟨k1a,n1a⟩:=g1.gtX k0a n0a;have b1a:=aA k1a;obtain⟨k1b,n1b⟩:=g1.gtX k0b n0b;have b1b:=aA k1b;obtain⟨k1c,n1c⟩:=g1.gtX k0c n0c;have b1c:=aA k1c;refine dL ?_;injection hm with hm;subst hm;exact bJ p1 f1
    ·
     rw[gI bt46]at hm;refine qL [1] (a2 hd7 x1) ?_;refine qT 2 (a5 y9 aJ fQ hd7 x1) ?_;refine qP (a2 hd7 x1) dJ (fM (mB r0) hl p0.pos [[116,114,117,101],[102,97,108,115,101]] z7) ?_;refine qX (a2 hd7 x1) ?_;refine qI (a2 hd7 x1) (λbt54=> ?_) (λbt54=> ?_)
     ·
      rw[fZ bt54]at hm;refine qT 3 (a3 aJ hd7 x1) ?_;obtain⟨s1,e1,hm⟩:=oB hm;refine qN (a3 hg hd7 (w1 r0)) (FC.apX (cP toks ip 28 100 [.optr ip 0] [] nC (dS [(0,gO)]) (FG.fc (FN.fg (cC toks ip)))) e1 p0 ⟨⟨k0a,n0a⟩,trivial⟩) ?_;rintro _ H1 ⟨rfl,F1,p1,g1⟩;have f1:=f0.stX g1;obtain⟨st1,r1⟩:=p1.row;have q1:=aA r1;obtain⟨k1a,n1a⟩:=g1.gtX k0a n0a;have b1a:=aA k1a;obtain⟨k1b,n1b⟩:=g1.gtX k0b n0b;have b1b:=aA k1b;obtain⟨k1c,n1c⟩:=g1.gtX k0c n0c;have b1c:=aA k1c;refine dL ?_;injection hm with hm;subst hm;exact bJ p1 f1
     ·
      rw[gI bt54]at hm;refine qT 1 (a3 aJ hd7 x1) ?_;obtain⟨s1,e1,hm⟩:=oB hm;refine qN (a2 hd7 x1) (FN.apX (rK toks ip) e1 p0) ?_;rintro _ H1 ⟨rfl,F1,p1,g1⟩;have f1:=f0.stX g1;obtain⟨st1,r1⟩:=p1.row;have q1:=aA r1;obtain⟨k1a,n1a⟩:=g1.gtX k0a n0a;have b1a:=aA k1a;obtain⟨k1b,n1b⟩:=g1.gtX k0b n0b;have b1b:=aA k1b;obtain⟨k1c,n1c⟩:=g1.gtX k0c n0c;have b1c:=aA k1c;refine dL ?_;injection hm with hm;subst hm;exact bJ p1 f1
def aL8(toks:List Tk)(n:Nat)(R:dP)(s0:PS):Option PS:=if decide ((aG toks s0.pos).kind=105)=true then(((cF 27 (cJ toks)) s0).bind λs1=>some s1)else(if decide ((aG toks s0.pos).kind=106)=true then(((cF 29 (cJ toks)) s0).bind λs1=>some s1)else(if eI (aG toks s0.pos) [[116,114,117,101],[102,97,108,115,101]]=true then(((cF 28 (cJ toks)) s0).bind λs1=>some s1)else(if decide ((aG toks s0.pos).kind=103)=true then(((R (.path false)) s0).bind λs1=>if eI (aG toks s1.pos) [[33]]=true then((oM toks s1).bind λsq2=>if eI (aG toks sq2.pos) [[40]]=true then(((iP 42 (aN5 toks n R)) s1).bind λs3=>some s3)else(some s1))else(some s1))else(if eI (aG toks s0.pos) [[40]]=true then(((cF 60 (aJ7 toks n R)) s0).bind λs1=>some s1)else(if eI (aG toks s0.pos) [[123]]=true then(((R .block) s0).bind λs1=>some s1)else(if eI (aG toks s0.pos) [[105,102]]=true then(((R .ifExpr) s0).bind λs1=>some s1)else(if eI (aG toks s0.pos) [[109,97,116,99,104]]=true then(((cF 35 (R .matchE)) s0).bind λs1=>some s1)else(if eI (aG toks s0.pos) [[110,101,119]]=true then(((cF 33 (R .structLit)) s0).bind λs1=>some s1)else(if eI (aG toks s0.pos) [[124],[124,124]]=true then(((cF 38 (R .lambda)) s0).bind λs1=>some s1)else(((oH 46) s0).bind λs1=>some s1))))))))))
theorem aKt{toks:List Tk}{ip n:Nat}{R:dP}(IH:lD toks ip R):FG toks ip 295 [.optr ip 0] (aL8 toks n R) (CD .primary):=by
 intro s0 s' F0 H0 hm p0 i0;obtain⟨⟨hg,n0a⟩,_⟩:=i0;obtain⟨st0,r0⟩:=p0.row;have q0:=aA r0;have hl:=aV p0.len;have f0:=Fr.refl F0 H0;have k0a:=aA hg [.row [.optr ip 0], .row [.int .i64 (aG toks s0.pos).kind, .str (aG toks s0.pos).text]];have b0a:=aA k0a;have k0b:(H0++ [.row [.optr ip 0], .row [.int .i64 (aG toks s0.pos).kind, .str (aG toks s0.pos).text]])[H0.length]? =some (.row [.optr ip 0]):=z6
 have n0b:=p0.new0;have b0b:=aA k0b;have k0c:(H0++ [.row [.optr ip 0], .row [.int .i64 (aG toks s0.pos).kind, .str (aG toks s0.pos).text]])[H0.length+1]? =some (.row [.int .i64 (aG toks s0.pos).kind, .str (aG toks s0.pos).text]):=z6
 have n0c:=p0.new 1;have b0c:=aA k0c;unfold aL8 at hm;refine aF (N:=92) Tryz.func295 rfl rfl z6 λhb'=> ?_;have x1:=a3 r0 q0 hg;refine qE (a2 aJ x1) ?_;refine qT 1 (a2 aJ x1) ?_;refine qP x1 AU (xE (mB r0) hl p0.pos) ?_;refine qX (a2 lT x1) ?_;refine qB ?_;refine qE (a3 y3 lT x1) ?_;refine qI x1 (λbt7=> ?_) (λbt7=> ?_)
 ·
  rw[fZ bt7]at hm;refine qT 3 (a2 aJ x1) ?_;obtain⟨s1,e1,hm⟩:=oB hm;refine qN (a2 hg (w1 r0)) (FC.apX (cP toks ip 27 100 [.optr ip 0] [] nC (dS [(0,gO)]) (FG.fc (FN.fg (cC toks ip)))) e1 p0 ⟨⟨k0a,n0a⟩,trivial⟩) ?_;rintro _ H1 ⟨rfl,F1,p1,g1⟩;have f1:=f0.stX g1;obtain⟨st1,r1⟩:=p1.row;have q1:=aA r1;obtain⟨k1a,n1a⟩:=g1.gtX k0a n0a;have b1a:=aA k1a;obtain⟨k1b,n1b⟩:=g1.gtX k0b n0b;have b1b:=aA k1b;obtain⟨k1c,n1c⟩:=g1.gtX k0c n0c;have b1c:=aA k1c;refine dL ?_;injection hm with hm;subst hm;exact bJ p1 f1
 ·
  rw[gI bt7]at hm;refine qE (a3 y3 lT x1) ?_;refine qI x1 (λbt15=> ?_) (λbt15=> ?_)
  ·
   rw[fZ bt15]at hm;refine qT 3 (a2 aJ x1) ?_;obtain⟨s1,e1,hm⟩:=oB hm;refine qN (a2 hg (w1 r0)) (FC.apX (cP toks ip 29 100 [.optr ip 0] [] nC (dS [(0,gO)]) (FG.fc (FN.fg (cC toks ip)))) e1 p0 ⟨⟨k0a,n0a⟩,trivial⟩) ?_;rintro _ H1 ⟨rfl,F1,p1,g1⟩;have f1:=f0.stX g1;obtain⟨st1,r1⟩:=p1.row;have q1:=aA r1;obtain⟨k1a,n1a⟩:=g1.gtX k0a n0a;have b1a:=aA k1a;obtain⟨k1b,n1b⟩:=g1.gtX k0b n0b;have b1b:=aA k1b;obtain⟨k1c,n1c⟩:=g1.gtX k0c n0c;have b1c:=aA k1c;refine dL ?_;injection hm with hm;subst hm;exact bJ p1 f1
  ·
   rw[gI bt15]at hm;refine qT 2 (a4 y9 aJ fQ x1) ?_;refine qP x1 dJ (fM (mB r0) hl p0.pos [[116,114,117,101],[102,97,108,115,101]] z7) ?_;refine qX x1 ?_;refine qI x1 (λbt23=> ?_) (λbt23=> ?_)
   ·
    rw[fZ bt23]at hm;refine qL [1] x1 ?_;refine qT 3 (a2 aJ x1) ?_;obtain⟨s1,e1,hm⟩:=oB hm;refine qN (a2 hg (w1 r0)) (FC.apX (cP toks ip 28 100 [.optr ip 0] [] nC (dS [(0,gO)]) (FG.fc (FN.fg (cC toks ip)))) e1 p0 ⟨⟨k0a,n0a⟩,trivial⟩) ?_;rintro _ H1 ⟨rfl,F1,p1,g1⟩;have f1:=f0.stX g1;obtain⟨st1,r1⟩:=p1.row;have q1:=aA r1;obtain⟨k1a,n1a⟩:=g1.gtX k0a n0a;have b1a:=aA k1a;obtain⟨k1b,n1b⟩:=g1.gtX k0b n0b;have b1b:=aA k1b;obtain⟨k1c,n1c⟩:=g1.gtX k0c n0c;have b1c:=aA k1c;refine dL ?_;injection hm with hm;subst hm;exact bJ p1 f1
   ·
    rw[gI bt23]at hm;refine qL [1,2] x1 ?_;refine qE (a3 y3 lT x1) ?_;refine qI x1 (λbt31=> ?_) (λbt31=> ?_)
    ·
     rw[fZ bt31]at hm;refine qT 1 (a2 aJ x1) ?_;obtain⟨s1,e1,hm⟩:=oB hm;refine ZA (a3 r0 q0 hg) XB ((by first|exact FG.ap0 (IH (.path false)) e1 p0 ⟨k0a,n0a⟩|exact FG.ap' (IH (.path false)) e1 p0 ⟨k0a,n0a⟩|exact FG.ap (IH (.path false)) e1 p0 ⟨k0a,n0a⟩)) ?_;rintro _ H1 ⟨rfl,F1,p1,g1⟩;have f1:=f0.stX g1;obtain⟨st1,r1⟩:=p1.row;have q1:=aA r1;obtain⟨k1a,n1a⟩:=g1.gtX k0a n0a;have b1a:=aA k1a;obtain⟨k1b,n1b⟩:=g1.gtX k0b n0b;have b1b:=aA k1b;obtain⟨k1c,n1c⟩:=g1.gtX k0c n0c;have b1c:=aA k1c;refine oN ?_;rcases Bool.eq_false_or_eq_true (eI (aG toks s1.pos) [[33]])with hd11|hd11
     ·
      rw[fZ hd11]at hm;have x2:=a5 hg r1 q1 k1a (a5 b1a k1b b1b k1c (a2 b1c hd11));refine qT 2 (a4 y9 aJ fQ x2) ?_;refine qP x2 dJ (fM (mB r1) hl p1.pos [[33]] z7) ?_;refine qU 2 (a2 aJ x2) ?_;obtain⟨sq2,e2,hm⟩:=oB hm;refine qA x2 IN ((by first|exact vO e2 p1|exact DX e2 p1 _)) ?_;rintro _ H2 ⟨iq2,Fq2,rfl,pq2_2,g2⟩;obtain⟨F2,nf2,p2,f2⟩:=(by first|exact mT p1 f1 g2|exact rW p1 f1 g2);obtain⟨st2,r2⟩:=p2.row;have q2:=aA r2;obtain⟨k2a,n2a⟩:=(by first|exact cZ g2 k1a n1a nf2|exact cZ g2 (b1a _) n1a nf2);have b2a:=aA k2a;obtain⟨k2b,n2b⟩:=(by first|exact cZ g2 k1b n1b nf2|exact cZ g2 (b1b _) n1b nf2);have b2b:=aA k2b;obtain⟨k2c,n2c⟩:=(by first|exact cZ g2 k1c n1c nf2|exact cZ g2 (b1c _) n1c nf2);have b2c:=aA k2c;obtain⟨stq2_2,rq2_2⟩:=pq2_2.row;have qq2_2:=aA rq2_2;have x3:=a5 hg hd11 r2 q2 (a5 k2a b2a k2b b2b (a2 k2c b2c));refine qU 1 (a3 y9 fQ x3) ?_;refine qP x3 dJ (fM (by first|exact rq2_2|exact qq2_2 _) hl pq2_2.pos [[40]] z7) ?_;refine qX x3 ?_;refine qI x3 (λbt45=> ?_) (λbt45=> ?_)
      ·
       rw[fZ bt45]at hm;refine qL [1] x3 ?_;refine qT 2 (a2 aJ x3) ?_;obtain⟨s3,e3,hm⟩:=oB hm;refine qN (a3 hg hd11 (w4 r2 k2a k2b k2c)) (FC.apX (pG toks ip 42 317 [] [.optr (H0.length) 0] aLc (dS [(0,gO),(H0.length, .row [.optr ip 0])]) (aKs (n:=n) IH (H0.length))) e3 p2 ⟨⟨k2a,n2a⟩,⟨k2b,n2b⟩,trivial⟩) ?_;rintro _ H3 ⟨rfl,F3,p3,g3⟩;have f3:=f2.stX g3;obtain⟨st3,r3⟩:=p3.row;have q3:=aA r3;obtain⟨k3a,n3a⟩:=g3.gtX k2a n2a;have b3a:=aA k3a;obtain⟨k3b,n3b⟩:=g3.gtX k2b n2b;have b3b:=aA k3b;obtain⟨k3c,n3c⟩:=g3.gtX k2c n2c;have b3c:=aA k3c;refine dL ?_;injection hm with hm;subst hm;exact bJ p3 f3
      ·
       rw[gI bt45]at hm;refine qK ?_;refine dL ?_;injection hm with hm;subst hm;exact bJ p2 f2
     ·
      rw[gI hd11]at hm;have x4:=a5 hg r1 q1 k1a (a5 b1a k1b b1b k1c (a2 b1c hd11));refine qT 2 (a4 y9 aJ fQ x4) ?_;refine qP x4 dJ (fM (mB r1) hl p1.pos [[33]] z7) ?_;refine qX (a4 y9 aJ fQ x4) ?_;refine qF x4 ?_;refine qK ?_;refine dL ?_;injection hm with hm;subst hm;exact bJ p1 f1
    ·
     rw[gI bt31]at hm;refine qT 2 (a4 y9 aJ fQ x1) ?_;refine qP x1 dJ (fM (mB r0) hl p0.pos [[40]] z7) ?_;refine qX x1 ?_;refine qI x1 (λbt49=> ?_) (λbt49=> ?_)
     ·
      rw[fZ bt49]at hm;refine qT 2 (a2 aJ x1) ?_;obtain⟨s1,e1,hm⟩:=oB hm;refine qN (a2 hg (w1 r0)) (FC.apX (cP toks ip 60 319 [] [.optr (H0.length) 0] aJf (dS [(0,gO),(H0.length, .row [.optr ip 0])]) (aNs (n:=n) IH (H0.length))) e1 p0 ⟨⟨k0a,n0a⟩,⟨k0b,n0b⟩,trivial⟩) ?_;rintro _ H1 ⟨rfl,F1,p1,g1⟩;have f1:=f0.stX g1;obtain⟨st1,r1⟩:=p1.row;have q1:=aA r1;obtain⟨k1a,n1a⟩:=g1.gtX k0a n0a;have b1a:=aA k1a;obtain⟨k1b,n1b⟩:=g1.gtX k0b n0b;have b1b:=aA k1b;obtain⟨k1c,n1c⟩:=g1.gtX k0c n0c;have b1c:=aA k1c;refine dL ?_;injection hm with hm;subst hm;exact bJ p1 f1
     ·
      rw[gI bt49]at hm;refine qT 2 (a4 y9 aJ fQ x1) ?_;refine qP x1 dJ (fM (mB r0) hl p0.pos [[123]] z7) ?_;refine qX x1 ?_;refine qI x1 (λbt56=> ?_) (λbt56=> ?_)
      ·
       rw[fZ bt56]at hm;refine qT 1 (a2 aJ x1) ?_;obtain⟨s1,e1,hm⟩:=oB hm;refine ZA (a3 r0 q0 hg) aJ8 ((by first|exact FG.ap0 (IH .block) e1 p0 ⟨k0a,n0a⟩|exact FG.ap' (IH .block) e1 p0 ⟨k0a,n0a⟩|exact FG.ap (IH .block) e1 p0 ⟨k0a,n0a⟩)) ?_;rintro _ H1 ⟨rfl,F1,p1,g1⟩;have f1:=f0.stX g1;obtain⟨st1,r1⟩:=p1.row;have q1:=aA r1;obtain⟨k1a,n1a⟩:=g1.gtX k0a n0a;have b1a:=aA k1a;obtain⟨k1b,n1b⟩:=g1.gtX k0b n0b;have b1b:=aA k1b;obtain⟨k1c,n1c⟩:=g1.gtX k0c n0c;have b1c:=aA k1c;refine oN ?_;refine dL ?_;injection hm with hm;subst hm;exact bJ p1 f1
      ·
       rw[gI bt56]at hm;refine qT 2 (a4 y9 aJ fQ x1) ?_;refine qP x1 dJ (fM (mB r0) hl p0.pos [[105,102]] z7) ?_;refine qX x1 ?_;refine qI x1 (λbt62=> ?_) (λbt62=> ?_)
       ·
        rw[fZ bt62]at hm;refine qL [1] x1 ?_;refine qT 1 (a2 aJ x1) ?_;obtain⟨s1,e1,hm⟩:=oB hm;refine ZA (a3 r0 q0 hg) aHt ((by first|exact FG.ap0 (IH .ifExpr) e1 p0 ⟨k0a,n0a⟩|exact FG.ap' (IH .ifExpr) e1 p0 ⟨k0a,n0a⟩|exact FG.ap (IH .ifExpr) e1 p0 ⟨k0a,n0a⟩)) ?_;rintro _ H1 ⟨rfl,F1,p1,g1⟩;have f1:=f0.stX g1;obtain⟨st1,r1⟩:=p1.row;have q1:=aA r1;obtain⟨k1a,n1a⟩:=g1.gtX k0a n0a;have b1a:=aA k1a;obtain⟨k1b,n1b⟩:=g1.gtX k0b n0b;have b1b:=aA k1b;obtain⟨k1c,n1c⟩:=g1.gtX k0c n0c;have b1c:=aA k1c;refine oN ?_;refine dL ?_;injection hm with hm;subst hm;exact bJ p1 f1
       ·
        rw[gI bt62]at hm;refine qL [1] x1 ?_;refine qT 2 (a4 y9 aJ fQ x1) ?_;refine qP x1 dJ (fM (mB r0) hl p0.pos [[109,97,116,99,104]] z7) ?_;refine qX x1 ?_;refine qI x1 (λbt68=> ?_) (λbt68=> ?_)
        ·
         rw[fZ bt68]at hm;refine qT 3 (a2 aJ x1) ?_;obtain⟨s1,e1,hm⟩:=oB hm;refine qN (a2 hg (w1 r0)) (FC.apX (cP toks ip 35 321 [.optr ip 0] [] aJi (dS [(0,gO)]) (FG.fc (IH .matchE))) e1 p0 ⟨⟨k0a,n0a⟩,trivial⟩) ?_;rintro _ H1 ⟨rfl,F1,p1,g1⟩;have f1:=f0.stX g1;obtain⟨st1,r1⟩:=p1.row;have q1:=aA r1;obtain⟨k1a,n1a⟩:=g1.gtX k0a n0a;have b1a:=aA k1a;obtain⟨k1b,n1b⟩:=g1.gtX k0b n0b;have b1b:=aA k1b;obtain⟨k1c,n1c⟩:=g1.gtX k0c n0c;have b1c:=aA k1c;refine dL ?_;injection hm with hm;subst hm;exact bJ p1 f1
        ·
         rw[gI bt68]at hm;refine qT 2 (a4 y9 aJ fQ x1) ?_;refine qP x1 dJ (fM (mB r0) hl p0.pos [[110,101,119]] z7) ?_;refine qX x1 ?_;refine qI x1 (λbt76=> ?_) (λbt76=> ?_)
         ·
          rw[fZ bt76]at hm;refine qT 3 (a2 aJ x1) ?_;obtain⟨s1,e1,hm⟩:=oB hm;refine qN (a2 hg (w1 r0)) (FC.apX (cP toks ip 33 322 [.optr ip 0] [] aNa (dS [(0,gO)]) (FG.fc (IH .structLit))) e1 p0 ⟨⟨k0a,n0a⟩,trivial⟩) ?_;rintro _ H1 ⟨rfl,F1,p1,g1⟩;have f1:=f0.stX g1;obtain⟨st1,r1⟩:=p1.row;have q1:=aA r1;obtain⟨k1a,n1a⟩:=g1.gtX k0a n0a;have b1a:=aA k1a;obtain⟨k1b,n1b⟩:=g1.gtX k0b n0b;have b1b:=aA k1b;obtain⟨k1c,n1c⟩:=g1.gtX k0c n0c;have b1c:=aA k1c;refine dL ?_;injection hm with hm;subst hm;exact bJ p1 f1
         ·
          rw[gI bt76]at hm;refine qT 2 (a4 y9 aJ fQ x1) ?_;refine qP x1 dJ (fM (mB r0) hl p0.pos [[124],[124,124]] z7) ?_;refine qX x1 ?_;refine qI x1 (λbt84=> ?_) (λbt84=> ?_)
          ·
           rw[fZ bt84]at hm;refine qT 3 (a2 aJ x1) ?_;obtain⟨s1,e1,hm⟩:=oB hm;refine qN (a2 hg (w1 r0)) (FC.apX (cP toks ip 38 323 [.optr ip 0] [] aNc (dS [(0,gO)]) (FG.fc (IH .lambda))) e1 p0 ⟨⟨k0a,n0a⟩,trivial⟩) ?_;rintro _ H1 ⟨rfl,F1,p1,g1⟩;have f1:=f0.stX g1;obtain⟨st1,r1⟩:=p1.row;have q1:=aA r1;obtain⟨k1a,n1a⟩:=g1.gtX k0a n0a;have b1a:=aA k1a;obtain⟨k1b,n1b⟩:=g1.gtX k0b n0b;have b1b:=aA k1b;obtain⟨k1c,n1c⟩:=g1.gtX k0c n0c;have b1c:=aA k1c;refine dL ?_;injection hm with hm;subst hm;exact bJ p1 f1
          ·
           rw[gI bt84]at hm;refine qT 1 (a2 aJ x1) ?_;obtain⟨s1,e1,hm⟩:=oB hm;refine qN x1 (FN.apX (rK toks ip) e1 p0) ?_;rintro _ H1 ⟨rfl,F1,p1,g1⟩;have f1:=f0.stX g1;obtain⟨st1,r1⟩:=p1.row;have q1:=aA r1;obtain⟨k1a,n1a⟩:=g1.gtX k0a n0a;have b1a:=aA k1a;obtain⟨k1b,n1b⟩:=g1.gtX k0b n0b;have b1b:=aA k1b;obtain⟨k1c,n1c⟩:=g1.gtX k0c n0c;have b1c:=aA k1c;refine dL ?_;injection hm with hm;subst hm;exact bJ p1 f1
def aJo(toks:List Tk)(n:Nat)(R:dP)(s0:PS):Option PS:=(dO (λs1=>eI (aG toks s1.pos) [[40],[46]]) (λs1=>if eI (aG toks s1.pos) [[40]]=true then(((iP 30 (R .arguments)) s1).bind λs2=>some s2)else((oM toks s1).bind λsq2=>if decide ((aG toks sq2.pos).kind=103)=true then((oM toks sq2).bind λsq3=>if eI (aG toks sq3.pos) [[40]]=true then(((iP 31 (aFr toks n R)) s1).bind λs4=>some s4)else(((iP 32 (WO toks n R)) s1).bind λs4=>some s4))else(((iP 32 (WO toks n R)) s1).bind λs3=>some s3))) n s0).bind λs1=>some s1
theorem aMu{toks:List Tk}{ip n:Nat}{R:dP}(IH:lD toks ip R):FG toks ip 301 [.optr ip 0] (aJo toks n R) (CD .postfx):=by
 intro s0 s' F0 H0 hm p0 i0;obtain⟨⟨hg,n0a⟩,_⟩:=i0;obtain⟨st0,r0⟩:=p0.row;have q0:=aA r0;have hl:=aV p0.len;have f0:=Fr.refl F0 H0;have k0a:=aA hg [.row [.optr ip 0]];have b0a:=aA k0a;have k0b:(H0++ [.row [.optr ip 0]])[H0.length]? =some (.row [.optr ip 0]):=z6
 have n0b:=p0.new0;have b0b:=aA k0b;unfold aJo at hm;refine aF (N:=29) Tryz.func301 rfl rfl z6 λhb'=> ?_;refine qE (a3 aJ hg (w1 r0)) ?_;refine wQ ?_;obtain⟨sL1,eL1,hm⟩:=oB hm;have hmo1:=hm;clear hm;refine fB ?_;refine eC (σ:=Nat×PS×List Nat) (λ(z:Nat×PS×List Nat)=> [(0, .optr ip 0),(1, .optr (H0.length) 0)]) (λ(z:Nat×PS×List Nat)=>λH1=>dO (λs1=>eI (aG toks s1.pos) [[40],[46]]) (λs1=>if eI (aG toks s1.pos) [[40]]=true then(((iP 30 (R .arguments)) s1).bind λs2=>some s2)else((oM toks s1).bind λsq2=>if decide ((aG toks sq2.pos).kind=103)=true then((oM toks sq2).bind λsq3=>if eI (aG toks sq3.pos) [[40]]=true then(((iP 31 (aFr toks n R)) s1).bind λs4=>some s4)else(((iP 32 (WO toks n R)) s1).bind λs4=>some s4))else(((iP 32 (WO toks n R)) s1).bind λs3=>some s3))) z.1 z.2.1=some sL1/\eJ toks ip z.2.1 z.2.2 H1/\Fr F0 z.2.2 H0 H1/\(H1[0]? =some (gO)/\(0)∉z.2.2)/\(H1[H0.length]? =some (.row [.optr ip 0])/\(H0.length)∉z.2.2)) (λ(z:Nat×PS×List Nat)=>z.1) ((n,s0,F0)) ⟨(Zf (a3 r0 q0 hg)),(Zf (a3 r0 q0 hg)),trivial⟩ (⟨eL1,(by first|exact p0|exact p0.app _|exact p0.flg false),(by first|exact f0|exact f0.app _),⟨(by first|exact k0a|exact b0a _),n0a⟩,⟨(by first|exact k0b|exact b0b _),n0b⟩⟩) ?_;intro z H1 hg;obtain⟨k1,s1,F1⟩:=z;obtain⟨hk1,p1,f1,⟨k1a,n1a⟩,⟨k1b,n1b⟩⟩:=hg;simp only at hk1 p1 f1 k1a n1a k1b n1b;obtain⟨st1,r1⟩:=p1.row;have q1:=aA r1;have b1a:=aA k1a;have b1b:=aA k1b;cases k1 with
 |zero=>cases hk1
 |succ k1=> ?_
 refine qT 2 (a5 y9 aJ fQ hg (w3 r1 k1a k1b)) ?_;refine qP (a2 hg (w3 r1 k1a k1b)) dJ (fM (mB r1) hl p1.pos [[40],[46]] z7) ?_;refine oN ?_;refine qI (a2 hg (w3 r1 k1a k1b)) (λbt5=> ?_) (λbt5=> ?_)
 ·
  unfold dO at hk1;rw[fZ bt5]at hk1;obtain⟨sB1,hm,hk1⟩:=oB hk1;refine qK ?_;refine qB ?_;refine qT 2 (a5 y9 aJ fQ hg (w3 r1 k1a k1b)) ?_;refine qP (a2 hg (w3 r1 k1a k1b)) dJ (fM (mB r1) hl p1.pos [[40]] z7) ?_;refine oN ?_;refine qI (a2 hg (w3 r1 k1a k1b)) (λbt8=> ?_) (λbt8=> ?_)
  ·
   rw[fZ bt8]at hm;refine qT 3 (a3 aJ hg (w3 r1 k1a k1b)) ?_;obtain⟨s2,e2,hm⟩:=oB hm;refine qN (a2 hg (w3 r1 k1a k1b)) (FC.apX (pG toks ip 30 318 [.optr ip 0] [] aLn (dS [(0,gO)]) (FG.fc (IH .arguments))) e2 p1 ⟨⟨k1a,n1a⟩,trivial⟩) ?_;rintro _ H2 ⟨rfl,F2,p2,g2⟩;obtain⟨f2,⟨st2,r2⟩,⟨k2a,n2a⟩,⟨k2b,n2b⟩⟩:=iN f1 p2 g2 k1a n1a k1b n1b;have q2:=aA r2;have b2a:=aA k2a;have b2b:=aA k2b;refine wQ ?_;refine bD ?_;simp only[aW,aO,reduceIte,Nat.reduceEqDiff,aUb,if_true,if_false]
   try simp only[aW,aO]
   injection hm with hm;subst hm;exact⟨(k1,_,F2),aT9 _,⟨rfl,rfl,trivial⟩,hk1,p2,f2,⟨k2a,n2a⟩,⟨k2b,n2b⟩⟩
  ·
   rw[gI bt8]at hm;refine qK ?_;refine qT 1 (a3 aJ hg (w3 r1 k1a k1b)) ?_;obtain⟨sq2,e2,hm⟩:=oB hm;refine qA (a2 hg (w3 r1 k1a k1b)) IN ((by first|exact vO e2 p1|exact DX e2 p1 _)) ?_;rintro _ H2 ⟨iq2,Fq2,rfl,pq2_2,g2⟩;obtain⟨F2,nf2,p2,f2⟩:=(by first|exact mT p1 f1 g2|exact rW p1 f1 g2);obtain⟨st2,r2⟩:=p2.row;have q2:=aA r2;obtain⟨k2a,n2a⟩:=(by first|exact cZ g2 k1a n1a nf2|exact cZ g2 (b1a _) n1a nf2);have b2a:=aA k2a;obtain⟨k2b,n2b⟩:=(by first|exact cZ g2 k1b n1b nf2|exact cZ g2 (b1b _) n1b nf2);have b2b:=aA k2b;obtain⟨stq2_2,rq2_2⟩:=pq2_2.row;have qq2_2:=aA rq2_2;refine qX (a2 hg (w3 r2 k2a k2b)) ?_;rcases Bool.eq_false_or_eq_true (decide ((aG toks sq2.pos).kind=103))with hd5|hd5
   ·
    rw[fZ hd5]at hm;have x1:=a3 hg hd5 (w3 r2 k2a k2b);refine qT 1 x1 ?_;refine qP x1 mK (fA (by first|exact rq2_2|exact qq2_2 _) hl pq2_2.pos) ?_;refine qU 2 x1 ?_;obtain⟨sq3,e3,hm⟩:=oB hm;refine qA x1 IN ((by first|exact vO e3 pq2_2|exact DX e3 pq2_2 _)) ?_;rintro _ H3 ⟨iq3,Fq3,rfl,pq3_3,g3⟩;obtain⟨F3,nf3,p3,f3⟩:=(by first|exact mT p2 f2 g3|exact rW p2 f2 g3);obtain⟨st3,r3⟩:=p3.row;have q3:=aA r3;obtain⟨k3a,n3a⟩:=(by first|exact cZ g3 k2a n2a nf3|exact cZ g3 (b2a _) n2a nf3);have b3a:=aA k3a;obtain⟨k3b,n3b⟩:=(by first|exact cZ g3 k2b n2b nf3|exact cZ g3 (b2b _) n2b nf3);have b3b:=aA k3b;have pq2_3:=(by first|exact BK pq2_2 g3|exact OM pq2_2 g3);obtain⟨stq2_3,rq2_3⟩:=pq2_3.row;have qq2_3:=aA rq2_3;obtain⟨stq3_3,rq3_3⟩:=pq3_3.row;have qq3_3:=aA rq3_3;have x2:=a3 hg hd5 (w3 r3 k3a k3b);refine qU 1 (a3 y9 fQ x2) ?_;refine qP x2 dJ (fM (by first|exact rq3_3|exact qq3_3 _) hl pq3_3.pos [[40]] z7) ?_;refine qX x2 ?_;refine qI x2 (λbt22=> ?_) (λbt22=> ?_)
    ·
     rw[fZ bt22]at hm;refine qL [0,1] x2 ?_;refine qT 2 (a2 aJ x2) ?_;obtain⟨s4,e4,hm⟩:=oB hm;refine qN x2 (FC.apX (pG toks ip 31 325 [] [.optr (H0.length) 0] aIh (dS [(0,gO),(H0.length, .row [.optr ip 0])]) (aLg (n:=n) IH (H0.length))) e4 p3 ⟨⟨k3a,n3a⟩,⟨k3b,n3b⟩,trivial⟩) ?_;rintro _ H4 ⟨rfl,F4,p4,g4⟩;obtain⟨f4,⟨st4,r4⟩,⟨k4a,n4a⟩,⟨k4b,n4b⟩⟩:=iN f3 p4 g4 k3a n3a k3b n3b;refine wQ ?_;refine bD ?_;simp only[aW,aO,reduceIte,Nat.reduceEqDiff,aUb,if_true,if_false]
     try simp only[aW,aO]
     injection hm with hm;subst hm;exact⟨(k1,_,F4),aT9 _,⟨rfl,rfl,trivial⟩,hk1,p4,f4,⟨k4a,n4a⟩,⟨k4b,n4b⟩⟩
    ·
     rw[gI bt22]at hm;refine qK ?_;refine qL [0,1] x2 ?_;refine qT 2 (a2 aJ x2) ?_;obtain⟨s4,e4,hm⟩:=oB hm;refine qN x2 (FC.apX (pG toks ip 32 326 [] [.optr (H0.length) 0] aBe (dS [(0,gO),(H0.length, .row [.optr ip 0])]) (aAk (n:=n) IH (H0.length))) e4 p3 ⟨⟨k3a,n3a⟩,⟨k3b,n3b⟩,trivial⟩) ?_;rintro _ H4 ⟨rfl,F4,p4,g4⟩;obtain⟨f4,⟨st4,r4⟩,⟨k4a,n4a⟩,⟨k4b,n4b⟩⟩:=iN f3 p4 g4 k3a n3a k3b n3b
     try simp only[aW,aO]
     injection hm with hm;subst hm;exact⟨(k1,_,F4),aT9 _,⟨rfl,rfl,trivial⟩,hk1,p4,f4,⟨k4a,n4a⟩,⟨k4b,n4b⟩⟩
   ·
    rw[gI hd5]at hm;have x3:=a3 hg hd5 (w3 r2 k2a k2b);refine qT 1 x3 ?_;refine qP x3 mK (fA (by first|exact rq2_2|exact qq2_2 _) hl pq2_2.pos) ?_;refine qX (a3 y9 fQ x3) ?_;refine qF x3 ?_;refine qK ?_;refine qL [0,1] x3 ?_;refine qT 2 (a2 aJ x3) ?_;obtain⟨s3,e3,hm⟩:=oB hm;refine qN x3 (FC.apX (pG toks ip 32 326 [] [.optr (H0.length) 0] aBe (dS [(0,gO),(H0.length, .row [.optr ip 0])]) (aAk (n:=n) IH (H0.length))) e3 p2 ⟨⟨k2a,n2a⟩,⟨k2b,n2b⟩,trivial⟩) ?_;rintro _ H3 ⟨rfl,F3,p3,g3⟩;obtain⟨f3,⟨st3,r3⟩,⟨k3a,n3a⟩,⟨k3b,n3b⟩⟩:=iN f2 p3 g3 k2a n2a k2b n2b;have q3:=aA r3;have b3a:=aA k3a;have b3b:=aA k3b
    try simp only[aW,aO]
    injection hm with hm;subst hm;exact⟨(k1,_,F3),aT9 _,⟨rfl,rfl,trivial⟩,hk1,p3,f3,⟨k3a,n3a⟩,⟨k3b,n3b⟩⟩
 ·
  unfold dO at hk1;rw[gI bt5]at hk1;injection hk1 with hk1;subst hk1;have hm:=hmo1;refine wQ ?_;refine bD ?_;simp only[aW,aO,reduceIte,Nat.reduceEqDiff,aUb,if_true,if_false];refine dL ?_;injection hm with hm;subst hm;exact bJ p1 f1
def OE(toks:List Tk)(n:Nat)(R:dP)(l:Nat)(s0:PS):Option PS:=if l<5 then((cJ toks) s0).bind λs1=>((R (.binary (l+1))) s1).bind λs2=>some s2 else none
theorem aBj{toks:List Tk}{ip n:Nat}{R:dP}(IH:lD toks ip R)(b0 b1:Nat)(l:Nat):FC Tryz.prog toks ip 277 [.optr b0 0, .optr b1 0] (OE toks n R l) cM (eW [(0,gO),(b0, .row [.optr ip 0]),(b1, .row [.int .i64 ((l:Nat):Int)])]):=by
 refine eN λs0 s' F0 H0 hm p0 i0=> ?_;obtain⟨⟨k0a,n0a⟩,⟨k0b,n0b⟩,⟨k0c,n0c⟩,_⟩:=i0;obtain⟨st0,r0⟩:=p0.row;have hl:=aV p0.len;have f0:=Fr.refl F0 H0;unfold OE at hm
 split at hm
 case isFalse=>cases hm
 rename_i hl5;have gw:IntKind.i64.wrap (((l:Nat):Int)+1)=((l+1:Nat):Int):=by rw[aY z8 z8];omega
 refine aF (N:=8) Tryz.func277 rfl rfl z6 λhb'=> ?_;refine qT 1 (a3 aJ gw (w4 r0 k0a k0b k0c)) ?_;obtain⟨s1,e1,hm⟩:=oB hm;refine qN (a2 gw (w4 r0 k0a k0b k0c)) (FN.apX (cC toks ip) e1 p0) ?_;rintro _ H1 ⟨rfl,F1,p1,g1⟩;obtain⟨f1,⟨st1,r1⟩,⟨k1a,n1a⟩,⟨k1b,n1b⟩,⟨k1c,n1c⟩⟩:=KV f0 p1 g1 k0a n0a k0b n0b k0c n0c;refine qT 3 (a4 y3 aJ gw (w4 r1 k1a k1b k1c)) ?_;obtain⟨s2,e2,hm⟩:=oB hm;refine qN (a2 gw (w4 r1 k1a k1b k1c)) (FG.apX (IH (.binary (l+1))) e2 p1 ⟨k1a,n1a⟩) ?_;rintro _ H2 ⟨rfl,F2,p2,g2⟩;obtain⟨f2,⟨st2,r2⟩,⟨k2a,n2a⟩,⟨k2b,n2b⟩,⟨k2c,n2c⟩⟩:=KV f1 p2 g2 k1a n1a k1b n1b k1c n1c;refine dL ?_;injection hm with hm;subst hm;exact bJ p2 f2
def aEl(toks:List Tk)(n:Nat)(R:dP)(l:Nat)(s0:PS):Option PS:=if l=5 then((R .unary) s0).bind λs1=>some s1 else if l<5 then((R (.binary (l+1))) s0).bind λs1=>if l=2 then(if eI (aG toks s1.pos) (vI l)=true then((iP 39 (OE toks n R (l))) s1).bind λs3=>some s3 else some s1)else dO (λs2=>eI (aG toks s2.pos) (vI l)) (λs2=>((iP 39 (OE toks n R (l))) s2).bind λs3=>some s3) n s1 else none
theorem aHw{toks:List Tk}{ip n:Nat}{R:dP}(IH:lD toks ip R)(l:Nat):FG toks ip 237 [.optr ip 0, .int .i64 ((l:Nat):Int)] (aEl toks n R l) (CD (.binary l)):=by
 intro s0 s' F0 H0 hm p0 i0;obtain⟨⟨hg,n0a⟩,_⟩:=i0;obtain⟨st0,r0⟩:=p0.row;have q0:=aA r0;have hl:=aV p0.len;have f0:=Fr.refl F0 H0;have k0a:=aA hg [.row [.optr ip 0], .row [.int .i64 ((l:Nat):Int)]];have b0a:=aA k0a;have k0b:(H0++ [.row [.optr ip 0], .row [.int .i64 ((l:Nat):Int)]])[H0.length]? =some (.row [.optr ip 0]):=z6
 have n0b:=p0.new0;have b0b:=aA k0b;have k0c:(H0++ [.row [.optr ip 0], .row [.int .i64 ((l:Nat):Int)]])[H0.length+1]? =some (.row [.int .i64 ((l:Nat):Int)]):=z6
 have n0c:=p0.new 1;have b0c:=aA k0c;unfold aEl at hm;have hcs:l=5\/(l≠5/\l<5):=by
  by_cases h1:l=5
  ·exact .inl h1
  by_cases h2:l<5
  ·exact .inr ⟨h1,h2⟩
  rw[if_neg h1,if_neg h2]at hm;cases hm
 refine aF (N:=21) Tryz.func237 rfl rfl z6 λhb'=> ?_;have x2:=a3 r0 q0 hg;refine qE (a3 y3 aJ x2) ?_;rcases hcs with h5| ⟨h5,hlv⟩
 ·
  rw[if_pos h5]at hm;have g5:decide (((l:Nat):Int)=5)=true:=decide_eq_true z8;refine qE (a3 y3 g5 x2) ?_;refine ZG (a2 g5 x2) ?_;refine qT 1 (a3 aJ g5 x2) ?_;obtain⟨s1,e1,hm⟩:=oB hm;refine ZA (a2 g5 x2) aKy ((by first|exact FG.ap0 (IH .unary) e1 p0 ⟨k0a,n0a⟩|exact FG.ap' (IH .unary) e1 p0 ⟨k0a,n0a⟩|exact FG.ap (IH .unary) e1 p0 ⟨k0a,n0a⟩)) ?_;rintro _ H1 ⟨rfl,F1,p1,g1⟩;have f1:=f0.stX g1;obtain⟨st1,r1⟩:=p1.row;have q1:=aA r1;obtain⟨k1a,n1a⟩:=g1.gtX k0a n0a;have b1a:=aA k1a;obtain⟨k1b,n1b⟩:=g1.gtX k0b n0b;have b1b:=aA k1b;obtain⟨k1c,n1c⟩:=g1.gtX k0c n0c;have b1c:=aA k1c;refine oN ?_;refine wQ ?_;refine wT ⟨.inr rfl,_,rfl, ?_⟩;injection hm with hm;subst hm;exact bJ p1 f1
 ·
  rw[if_neg h5,if_pos hlv]at hm;have g5:decide (((l:Nat):Int)=5)=false:=decide_eq_false z8;have gw:IntKind.i64.wrap (((l:Nat):Int)+1)=((l+1:Nat):Int):=by rw[aY z8 z8];omega
  refine qE (a4 y3 g5 gw x2) ?_;refine qF (a3 g5 gw x2) ?_;refine qK ?_;refine qT 3 (a5 y3 aJ g5 gw x2) ?_;obtain⟨s1,e1,hm⟩:=oB hm;refine ZA (a3 g5 gw x2) aKe ((by first|exact FG.ap0 (IH (.binary (l+1))) e1 p0 ⟨k0a,n0a⟩|exact FG.ap' (IH (.binary (l+1))) e1 p0 ⟨k0a,n0a⟩|exact FG.ap (IH (.binary (l+1))) e1 p0 ⟨k0a,n0a⟩)) ?_;rintro _ H1 ⟨rfl,F1,p1,g1⟩;have f1:=f0.stX g1;obtain⟨st1,r1⟩:=p1.row;have q1:=aA r1;obtain⟨k1a,n1a⟩:=g1.gtX k0a n0a;have b1a:=aA k1a;obtain⟨k1b,n1b⟩:=g1.gtX k0b n0b;have b1b:=aA k1b;obtain⟨k1c,n1c⟩:=g1.gtX k0c n0c;have b1c:=aA k1c;refine oN ?_;refine wQ ?_;have hL:(l=2/\(if eI (aG toks s1.pos) (vI l)=true then((iP 39 (OE toks n R (l))) s1).bind λs3=>some s3 else some s1)=some s')\/(l≠2/\dO (λs2=>eI (aG toks s2.pos) (vI l)) (λs2=>((iP 39 (OE toks n R (l))) s2).bind λs3=>some s3) n s1=some s'):=by
   by_cases h2:l=2
   ·rw[if_pos h2]at hm;exact .inl ⟨h2,hm⟩
   ·rw[if_neg h2]at hm;exact .inr ⟨h2,hm⟩
  refine fB ?_;have x4:=a5 hg g5 gw r1 (a5 q1 k1a b1a k1b (a3 b1b k1c b1c));refine eC (σ:=Nat×PS×List Nat) (λ(z:Nat×PS×List Nat)=> [(2, .optr H0.length 0),(3, .optr (H0.length+1) 0)]) (λ(z:Nat×PS×List Nat)=>λH2=>((l=2/\(if eI (aG toks z.2.1.pos) (vI l)=true then((iP 39 (OE toks n R (l))) z.2.1).bind λs3=>some s3 else some z.2.1)=some s')\/(l≠2/\dO (λs2=>eI (aG toks s2.pos) (vI l)) (λs2=>((iP 39 (OE toks n R (l))) s2).bind λs3=>some s3) z.1 z.2.1=some s'))/\eJ toks ip z.2.1 z.2.2 H2/\Fr F0 z.2.2 H0 H2/\(H2[0]? =some (gO)/\(0)∉z.2.2)/\(H2[H0.length]? =some (.row [.optr ip 0])/\(H0.length)∉z.2.2)/\(H2[H0.length+1]? =some (.row [.int .i64 ((l:Nat):Int)])/\(H0.length+1)∉z.2.2)) (λ(z:Nat×PS×List Nat)=>z.1) ((n,s1,F1)) ⟨(Zf x4),(Zf x4),trivial⟩ (⟨hL,(by first|exact p1|exact p1.app _),(by first|exact f1|exact f1.app _),⟨(by first|exact k1a|exact b1a _),n1a⟩,⟨(by first|exact k1b|exact b1b _),n1b⟩,⟨(by first|exact k1c|exact b1c _),n1c⟩⟩) ?_;intro z H2 hg;obtain⟨k2,s2,F2⟩:=z;obtain⟨hk2,p2,f2,⟨k2a,n2a⟩,⟨k2b,n2b⟩,⟨k2c,n2c⟩⟩:=hg;simp only at hk2 p2 f2 k2a n2a k2b n2b k2c n2c;obtain⟨st2,r2⟩:=p2.row;have q2:=aA r2;have b2a:=aA k2a;have b2b:=aA k2b;have b2c:=aA k2c;rcases hk2 with⟨h2,hm⟩| ⟨h2,hk2⟩
  ·
   have g2:decide (((l:Nat):Int)=2)=true:=decide_eq_true z8;refine wQ ?_;refine dA (by kernel_rfl) ?_;have x1:=a5 hg g5 gw r2 (a5 q2 k2a b2a k2b (a4 b2b k2c b2c g2));refine pT 2 (a3 y3 aJ x1) ?_;refine pK x1 YH (λhc=>LJ l hlv) ?_;refine pK x1 dJ (λhc=>fM (mB r2) hl p2.pos (vI l) (RT _)) ?_;refine pX x1 ?_;refine qI x1 (λbt15=> ?_) (λbt15=> ?_)
   ·
    rw[fZ bt15]at hm;refine qK ?_;refine qB ?_;refine qT 2 (a2 aJ x1) ?_;obtain⟨s3,e3,hm⟩:=oB hm;refine qN (a5 hg g5 gw g2 (w4 r2 k2a k2b k2c)) (FC.apX (pG toks ip 39 277 [] [.optr (H0.length) 0, .optr (H0.length+1) 0] aAh (dS [(0,gO),(H0.length, .row [.optr ip 0]),(H0.length+1, .row [.int .i64 ((l:Nat):Int)])]) (aBj (n:=n) IH (H0.length) (H0.length+1) (l))) e3 p2 ⟨⟨k2a,n2a⟩,⟨k2b,n2b⟩,⟨k2c,n2c⟩,trivial⟩) ?_;rintro _ H3 ⟨rfl,F3,p3,g3⟩;have f3:=f2.stX g3;obtain⟨st3,r3⟩:=p3.row;have q3:=aA r3;obtain⟨k3a,n3a⟩:=g3.gtX k2a n2a;have b3a:=aA k3a;obtain⟨k3b,n3b⟩:=g3.gtX k2b n2b;have b3b:=aA k3b;obtain⟨k3c,n3c⟩:=g3.gtX k2c n2c;have b3c:=aA k3c;have x5:=a5 hg g5 gw g2 (a5 r3 q3 k3a b3a (a4 k3b b3b k3c b3c));refine qE (a2 y3 x5) ?_;refine ZG x5 ?_;refine wQ ?_;refine wT ⟨.inr rfl,_,rfl, ?_⟩;injection hm with hm;subst hm;exact bJ p3 f3
   ·
    rw[gI bt15]at hm;refine wQ ?_;refine bD ?_;simp only[aW,aO,reduceIte,Nat.reduceEqDiff,aUb,if_true,if_false];refine dL ?_;injection hm with hm;subst hm;exact bJ p2 f2
  ·
   have g2:decide (((l:Nat):Int)=2)=false:=decide_eq_false z8;cases k2 with
   |zero=>cases hk2
   |succ k2=> ?_
   unfold dO at hk2;refine wQ ?_;refine dA (by kernel_rfl) ?_;have x2:=a5 hg g5 gw r2 (a5 q2 k2a b2a k2b (a4 b2b k2c b2c g2));refine pT 2 (a3 y3 aJ x2) ?_;refine pK x2 YH (λhc=>LJ l hlv) ?_;refine pK x2 dJ (λhc=>fM (mB r2) hl p2.pos (vI l) (RT _)) ?_;refine pX x2 ?_;refine qI x2 (λbt15=> ?_) (λbt15=> ?_)
   ·
    rw[fZ bt15]at hk2;obtain⟨sB,hm,hk2⟩:=oB hk2;refine qK ?_;refine qB ?_;refine qT 2 (a2 aJ x2) ?_;obtain⟨s3,e3,hm⟩:=oB hm;refine qN (a5 hg g5 gw g2 (w4 r2 k2a k2b k2c)) (FC.apX (pG toks ip 39 277 [] [.optr (H0.length) 0, .optr (H0.length+1) 0] aAh (dS [(0,gO),(H0.length, .row [.optr ip 0]),(H0.length+1, .row [.int .i64 ((l:Nat):Int)])]) (aBj (n:=n) IH (H0.length) (H0.length+1) (l))) e3 p2 ⟨⟨k2a,n2a⟩,⟨k2b,n2b⟩,⟨k2c,n2c⟩,trivial⟩) ?_;rintro _ H3 ⟨rfl,F3,p3,g3⟩;have f3:=f2.stX g3;obtain⟨st3,r3⟩:=p3.row;have q3:=aA r3;obtain⟨k3a,n3a⟩:=g3.gtX k2a n2a;have b3a:=aA k3a;obtain⟨k3b,n3b⟩:=g3.gtX k2b n2b;have b3b:=aA k3b;obtain⟨k3c,n3c⟩:=g3.gtX k2c n2c;have b3c:=aA k3c;have x3:=a5 hg g5 gw g2 (a5 r3 q3 k3a b3a (a4 k3b b3b k3c b3c));refine qE (a2 y3 x3) ?_;refine qF x3 ?_;refine qK ?_
    try simp only[aW,aO]
    injection hm with hm;subst hm;exact⟨(k2,_,F3),aT9 _,⟨rfl,rfl,trivial⟩, .inr ⟨h2,hk2⟩,p3,f3,⟨k3a,n3a⟩,⟨k3b,n3b⟩,⟨k3c,n3c⟩⟩
   ·
    rw[gI bt15]at hk2;have hm:=hk2;refine wQ ?_;refine bD ?_;simp only[aW,aO,reduceIte,Nat.reduceEqDiff,aUb,if_true,if_false];refine dL ?_;injection hm with hm;subst hm;exact bJ p2 f2
theorem bV(a b:PS):CD .statement a b= .bool b.flag:=rfl
def CP(s:PS):Option PS:=match s.stack with
 | []=>none
 |f::fs=>match f.kids.getLast? with
  |none=>none
  |some _=>some {s with stack:=⟨f.kind,f.kids.dropLast⟩::fs}
theorem GU{s s1:PS}(h:CP s=some s1):∃(f:vU) (gs:List vU) (ks:List St) (x:St),s.stack=f::gs/\f.kids=ks++ [x]/\s1=⟨s.pos,⟨f.kind,ks⟩::gs,s.flag⟩:=by
 unfold CP at h
 split at h
 ·cases h
 ·rename_i f gs hs
  split at h
  ·cases h
  ·rename_i x hx;cases h;have hne:f.kids≠ []:=by intro e;rw[e]at hx;cases hx
   refine⟨f,gs,f.kids.dropLast,x,hs, ?_,rfl⟩;rw[List.getLast?_eq_some_getLast hne]at hx;injection hx with hx;rw[<-hx];exact(List.dropLast_concat_getLast hne).symm
def aA4(b1:Nat)(l:List (Nat×AObj)):PS->List Nat->aC->Prop:=λs F H=>eW l s F H/\H[b1]? =some (.row [.bool s.flag])/\b1∉F
theorem VF(b1:Nat)(l:List (Nat×AObj)):Stb (aA4 b1 l):=λs s' F F' H H' hf ⟨h1,h2,h3⟩ fr=>
 ⟨dS l s s' F F' H H' hf h1 fr,by rw[hf];exact fr.get h2 h3⟩
section
variable{P:Program}{toks:List Tk}{ip:Nat}{f:FuncId}{args:List PV}{m:PS->Option PS}{rv:PS->PS->PV}{I:PS->List Nat->aC->Prop}{s s':PS}{F:List Nat}{H:aC}
theorem TX(hI:Stb I)(h:FN P toks ip f args m rv)(hf:∀s s',m s=some s'->s'.flag=s.flag):FC P toks ip f args m rv I:=λs s' F H hm hp hi=>
 (h s s' F H hm hp).mono λr H' ⟨h1,F',h2,h3⟩=>⟨h1,F',h2,h3,hI s s' F F' H H' (hf s s' hm) hi h3⟩
theorem rH(h:bK toks s=some s'):s'.flag=s.flag:=by
 unfold bK at h
 split at h
 ·exact tB h
 ·exact xC h
end
def aIw(toks:List Tk)(n:Nat)(R:dP)(s0:PS):Option PS:=((bP toks [123]) s0).bind λs1=>(dO (λs2=>(((!s2.flag&& !eI (aG toks s2.pos) [[125]])&& !decide ((aG toks s2.pos).kind=100))&& !eI (aG toks s2.pos) AA)) (λs2=>((R .statement) s2).bind λs3=>some s3) n ({s1 with flag:=false})).bind λs2=>if(!s2.flag)=true then(((oH 0) s2).bind λs3=>((bP toks [125]) s3).bind λs4=>some s4)else(((bP toks [125]) s2).bind λs3=>some s3)
theorem aH4{toks:List Tk}{ip n:Nat}{R:dP}(IH:lD toks ip R)(b0:Nat):FC Tryz.prog toks ip 266 [.optr b0 0] (aIw toks n R) cM (eW [(0,gO),(b0, .row [.optr ip 0])]):=by
 refine eN λs0 s' F0 H0 hm p0 i0=> ?_;obtain⟨⟨k0a,n0a⟩,⟨k0b,n0b⟩,_⟩:=i0;obtain⟨st0,r0⟩:=p0.row;have hl:=aV p0.len;have f0:=Fr.refl F0 H0;unfold aIw at hm;refine aF (N:=31) Tryz.func266 rfl rfl z6 λhb'=> ?_;refine qT 1 (a3 aJ bV (w3 r0 k0a k0b)) ?_;obtain⟨s1,e1,hm⟩:=oB hm;refine qN (a2 bV (w3 r0 k0a k0b)) (FN.apX (bL toks ip [123]) e1 p0) ?_;rintro _ H1 ⟨rfl,F1,p1,g1⟩;obtain⟨f1,⟨st1,r1⟩,⟨k1a,n1a⟩,⟨k1b,n1b⟩⟩:=iN f0 p1 g1 k0a n0a k0b n0b;have q1:=aA r1;have b1a:=aA k1a;have b1b:=aA k1b;refine qE (a2 bV (w3 r1 k1a k1b)) ?_;refine wQ ?_;obtain⟨sL2,eL2,hm⟩:=oB hm;have hmo2:=hm;clear hm;refine fB ?_;have x1:=a5 bV r1 q1 k1a (a3 b1a k1b b1b);refine eC (σ:=Nat×PS×List Nat) (λ(z:Nat×PS×List Nat)=> [(0, .optr (b0) 0),(1, .bool z.2.1.flag),(2, .optr ip 0)]) (λ(z:Nat×PS×List Nat)=>λH2=>dO (λs2=>(((!s2.flag&& !eI (aG toks s2.pos) [[125]])&& !decide ((aG toks s2.pos).kind=100))&& !eI (aG toks s2.pos) AA)) (λs2=>((R .statement) s2).bind λs3=>some s3) z.1 z.2.1=some sL2/\eJ toks ip z.2.1 z.2.2 H2/\Fr F0 z.2.2 H0 H2/\(H2[0]? =some (gO)/\(0)∉z.2.2)/\(H2[b0]? =some (.row [.optr ip 0])/\(b0)∉z.2.2)) (λ(z:Nat×PS×List Nat)=>z.1) ((n,{s1 with flag:=false},F1)) ⟨(Zf x1),(Zf x1),(Zf x1),trivial⟩ (⟨eL2,(by first|exact p1|exact p1.app _|exact p1.flg false),(by first|exact f1|exact f1.app _),⟨(by first|exact k1a|exact b1a _),n1a⟩,⟨(by first|exact k1b|exact b1b _),n1b⟩⟩) ?_;intro z H2 hg;obtain⟨k2,s2,F2⟩:=z;obtain⟨hk2,p2,f2,⟨k2a,n2a⟩,⟨k2b,n2b⟩⟩:=hg;simp only at hk2 p2 f2 k2a n2a k2b n2b;obtain⟨st2,r2⟩:=p2.row;have b2a:=aA k2a;cases k2 with
 |zero=>cases hk2
 |succ k2=> ?_
 refine wQ ?_;refine dA (by kernel_rfl) ?_;refine pT 5 (a5 y9 aJ fQ bV (w3 r2 k2a k2b)) ?_;refine pK (a2 bV (w3 r2 k2a k2b)) dJ (λhc=>fM (mB r2) hl p2.pos [[125]] z7) ?_;refine pT 4 (a3 aJ bV (w3 r2 k2a k2b)) ?_;refine pK (a2 bV (w3 r2 k2a k2b)) TC (λhc=>CA (mB r2) hl p2.pos) ?_;refine pT 4 (a3 aJ bV (w3 r2 k2a k2b)) ?_;refine pK (a2 bV (w3 r2 k2a k2b)) PR (λhc=>pY (by first|exact k2a|exact b2a _)) ?_;refine pK (a2 bV (w3 r2 k2a k2b)) dJ (λhc=>fM (mB r2) hl p2.pos (AA) z7) ?_;refine pX (a2 bV (w3 r2 k2a k2b)) ?_;refine qI (a2 bV (w3 r2 k2a k2b)) (λbt22=> ?_) (λbt22=> ?_)
 ·
  unfold dO at hk2;rw[fZ bt22]at hk2;obtain⟨sB2,hm,hk2⟩:=oB hk2;refine qK ?_;refine qB ?_;refine qL [0,1,2] (a2 bV (w3 r2 k2a k2b)) ?_;refine qT 1 (a3 aJ bV (w3 r2 k2a k2b)) ?_;obtain⟨s3,e3,hm⟩:=oB hm;refine qA (a2 bV (w3 r2 k2a k2b)) aH1 (FG.apX (IH .statement) e3 p2 ⟨k2a,n2a⟩) ?_;rintro _ H3 ⟨rfl,F3,p3,g3⟩;obtain⟨f3,⟨st3,r3⟩,⟨k3a,n3a⟩,⟨k3b,n3b⟩⟩:=iN f2 p3 g3 k2a n2a k2b n2b;refine qX (a2 bV (w3 r3 k3a k3b)) ?_
  try simp only[aW,aO]
  injection hm with hm;subst hm;exact⟨(k2,_,F3),aT9 _,⟨rfl,rfl,rfl,trivial⟩,hk2,p3,f3,⟨k3a,n3a⟩,⟨k3b,n3b⟩⟩
 ·
  unfold dO at hk2;rw[gI bt22]at hk2;injection hk2 with hk2;subst hk2;have hm:=hmo2;refine wQ ?_;refine bD ?_;simp only[aW,aO,reduceIte,Nat.reduceEqDiff,aUb,if_true,if_false];refine qL [0,1,2] (a2 bV (w3 r2 k2a k2b)) ?_;refine qE (a2 bV (w3 r2 k2a k2b)) ?_;refine qI (a2 bV (w3 r2 k2a k2b)) (λbt26=> ?_) (λbt26=> ?_)
  ·
   rw[fZ bt26]at hm;refine qT 1 (a3 aJ bV (w3 r2 k2a k2b)) ?_;obtain⟨s3,e3,hm⟩:=oB hm;refine qN (a2 bV (w3 r2 k2a k2b)) (FN.apX (yK toks ip) e3 p2) ?_;rintro _ H3 ⟨rfl,F3,p3,g3⟩;obtain⟨f3,⟨st3,r3⟩,⟨k3a,n3a⟩,⟨k3b,n3b⟩⟩:=iN f2 p3 g3 k2a n2a k2b n2b;refine qT 1 (a3 aJ bV (w3 r3 k3a k3b)) ?_;obtain⟨s4,e4,hm⟩:=oB hm;refine qN (a2 bV (w3 r3 k3a k3b)) (FN.apX (bL toks ip [125]) e4 p3) ?_;rintro _ H4 ⟨rfl,F4,p4,g4⟩;obtain⟨f4,⟨st4,r4⟩,⟨k4a,n4a⟩,⟨k4b,n4b⟩⟩:=iN f3 p4 g4 k3a n3a k3b n3b;refine dL ?_;injection hm with hm;subst hm;exact bJ p4 f4
  ·
   rw[gI bt26]at hm;refine qK ?_;refine qT 1 (a3 aJ bV (w3 r2 k2a k2b)) ?_;obtain⟨s3,e3,hm⟩:=oB hm;refine qN (a2 bV (w3 r2 k2a k2b)) (FN.apX (bL toks ip [125]) e3 p2) ?_;rintro _ H3 ⟨rfl,F3,p3,g3⟩;obtain⟨f3,⟨st3,r3⟩,⟨k3a,n3a⟩,⟨k3b,n3b⟩⟩:=iN f2 p3 g3 k2a n2a k2b n2b;refine dL ?_;injection hm with hm;subst hm;exact bJ p3 f3
def aN1(toks:List Tk)(n:Nat)(R:dP)(s0:PS):Option PS:=((cF 21 (aIw toks n R)) s0).bind λs1=>some s1
theorem aI6{toks:List Tk}{ip n:Nat}{R:dP}(IH:lD toks ip R):FG toks ip 223 [.optr ip 0] (aN1 toks n R) (CD .block):=by
 intro s0 s' F0 H0 hm p0 i0;obtain⟨⟨hg,n0a⟩,_⟩:=i0;obtain⟨st0,r0⟩:=p0.row;have q0:=aA r0;have hl:=aV p0.len;have f0:=Fr.refl F0 H0;have k0a:=aA hg [.row [.optr ip 0]];have b0a:=aA k0a;have k0b:(H0++ [.row [.optr ip 0]])[H0.length]? =some (.row [.optr ip 0]):=z6
 have n0b:=p0.new0;have b0b:=aA k0b;unfold aN1 at hm;refine aF (N:=5) Tryz.func223 rfl rfl z6 λhb'=> ?_;refine qE (a4 aJ r0 q0 hg) ?_;refine qT 2 (a4 aJ r0 q0 hg) ?_;obtain⟨s1,e1,hm⟩:=oB hm;refine qN (a2 hg (w1 r0)) (FC.apX (cP toks ip 21 266 [] [.optr (H0.length) 0] aMl (dS [(0,gO),(H0.length, .row [.optr ip 0])]) (aH4 (n:=n) IH (H0.length))) e1 p0 ⟨⟨k0a,n0a⟩,⟨k0b,n0b⟩,trivial⟩) ?_;rintro _ H1 ⟨rfl,F1,p1,g1⟩;have f1:=f0.stX g1;obtain⟨st1,r1⟩:=p1.row;have q1:=aA r1;obtain⟨k1a,n1a⟩:=g1.gtX k0a n0a;have b1a:=aA k1a;obtain⟨k1b,n1b⟩:=g1.gtX k0b n0b;have b1b:=aA k1b;refine dL ?_;injection hm with hm;subst hm;exact bJ p1 f1
def XI(toks:List Tk)(n:Nat)(R:dP)(b:Bool)(s0:PS):Option PS:=if eI (aG toks s0.pos) [[59]]=true then(((cH toks [[59]]) s0).bind λs1=>some s1)else(((cH toks [[59]]) s0).bind λs1=>if(!b)=true then(((oH 108) s1).bind λs2=>some s2)else(some s1))
theorem aAt{toks:List Tk}{ip n:Nat}{R:dP}(IH:lD toks ip R)(b0 b1:Nat)(b:Bool):FC Tryz.prog toks ip 297 [.optr b0 0, .optr b1 0] (XI toks n R b) cM (eW [(0,gO),(b0, .row [.optr ip 0]),(b1, .row [.bool b])]):=by
 refine eN λs0 s' F0 H0 hm p0 i0=> ?_;obtain⟨⟨k0a,n0a⟩,⟨k0b,n0b⟩,⟨k0c,n0c⟩,_⟩:=i0;obtain⟨st0,r0⟩:=p0.row;have hl:=aV p0.len;have f0:=Fr.refl F0 H0;unfold XI at hm;refine aF (N:=12) Tryz.func297 rfl rfl z6 λhb'=> ?_;rcases Bool.eq_false_or_eq_true (eI (aG toks s0.pos) [[59]])with hd0|hd0
 ·
  rw[fZ hd0]at hm;refine qT 2 (a5 y9 aJ fQ hd0 (w4 r0 k0a k0b k0c)) ?_;obtain⟨s1,e1,hm⟩:=oB hm;refine qA (a2 hd0 (w4 r0 k0a k0b k0c)) wV (FN.apX (eG toks ip [[59]] z7) e1 p0) ?_;rintro _ H1 ⟨rfl,F1,p1,g1⟩;obtain⟨f1,⟨st1,r1⟩,⟨k1a,n1a⟩,⟨k1b,n1b⟩,⟨k1c,n1c⟩⟩:=KV f0 p1 g1 k0a n0a k0b n0b k0c n0c;refine qX (a3 y4 hd0 (w4 r1 k1a k1b k1c)) ?_;refine qF (a2 hd0 (w4 r1 k1a k1b k1c)) ?_;refine qK ?_;refine dL ?_;injection hm with hm;subst hm;exact bJ p1 f1
 ·
  rw[gI hd0]at hm;refine qT 2 (a5 y9 aJ fQ hd0 (w4 r0 k0a k0b k0c)) ?_;obtain⟨s1,e1,hm⟩:=oB hm;refine qA (a2 hd0 (w4 r0 k0a k0b k0c)) wV (FN.apX (eG toks ip [[59]] z7) e1 p0) ?_;rintro _ H1 ⟨rfl,F1,p1,g1⟩;obtain⟨f1,⟨st1,r1⟩,⟨k1a,n1a⟩,⟨k1b,n1b⟩,⟨k1c,n1c⟩⟩:=KV f0 p1 g1 k0a n0a k0b n0b k0c n0c;refine qX (a3 y4 hd0 (w4 r1 k1a k1b k1c)) ?_;refine qI (a2 hd0 (w4 r1 k1a k1b k1c)) (λbt9=> ?_) (λbt9=> ?_)
  ·
   rw[fZ bt9]at hm;refine qT 1 (a3 aJ hd0 (w4 r1 k1a k1b k1c)) ?_;obtain⟨s2,e2,hm⟩:=oB hm;refine qN (a2 hd0 (w4 r1 k1a k1b k1c)) (FN.apX (pE toks ip) e2 p1) ?_;rintro _ H2 ⟨rfl,F2,p2,g2⟩;obtain⟨f2,⟨st2,r2⟩,⟨k2a,n2a⟩,⟨k2b,n2b⟩,⟨k2c,n2c⟩⟩:=KV f1 p2 g2 k1a n1a k1b n1b k1c n1c;refine dL ?_;injection hm with hm;subst hm;exact bJ p2 f2
  ·
   rw[gI bt9]at hm;refine qK ?_;refine dL ?_;injection hm with hm;subst hm;exact bJ p1 f1
def aB8(toks:List Tk)(n:Nat)(R:dP)(s0:PS):Option PS:=if eI (aG toks s0.pos) [[108,101,116]]=true then(((cF 22 (R .letS)) s0).bind λs1=>some {s1 with flag:=false})else(if eI (aG toks s0.pos) [[119,104,105,108,101]]=true then(((cF 24 (aN0 toks n R)) s0).bind λs1=>some {s1 with flag:=false})else(if eI (aG toks s0.pos) [[114,101,116,117,114,110]]=true then(((cF 25 (R .returnStmt)) s0).bind λs1=>some {s1 with flag:=false})else(if eI (aG toks s0.pos) [[105,102],[109,97,116,99,104],[123]]=true then(((R .primary) s0).bind λs1=>if decide (((s1.pos:Nat):Int)=((s0.pos:Nat):Int))=true then((CP s1).bind λs2=>((jZ toks) s2).bind λs3=>some {s3 with flag:=false})else(if eI (aG toks s1.pos) [[125]]=true then(some {s1 with flag:=true})else(if eI (aG toks s1.pos) [[61]]=true then(((iP 23 (aAo toks n R)) s1).bind λs2=>some {s2 with flag:=false})else(((iP 26 (XI toks n R (eI (aG toks s0.pos) [[105,102],[109,97,116,99,104],[123]]))) s1).bind λs2=>some {s2 with flag:=false}))))else(((R .expr) s0).bind λs1=>if decide (((s1.pos:Nat):Int)=((s0.pos:Nat):Int))=true then((CP s1).bind λs2=>((jZ toks) s2).bind λs3=>some {s3 with flag:=false})else(if eI (aG toks s1.pos) [[125]]=true then(some {s1 with flag:=true})else(if eI (aG toks s1.pos) [[61]]=true then(((iP 23 (aAo toks n R)) s1).bind λs2=>some {s2 with flag:=false})else(((iP 26 (XI toks n R (eI (aG toks s0.pos) [[105,102],[109,97,116,99,104],[123]]))) s1).bind λs2=>some {s2 with flag:=false})))))))
theorem aNq{toks:List Tk}{ip n:Nat}{R:dP}(IH:lD toks ip R):FG toks ip 267 [.optr ip 0] (aB8 toks n R) (CD .statement):=by
 intro s0 s' F0 H0 hm p0 i0;obtain⟨⟨hg,n0a⟩,_⟩:=i0;obtain⟨st0,r0⟩:=p0.row;have q0:=aA r0;have hl:=aV p0.len;have f0:=Fr.refl F0 H0;have k0a:=aA hg [.row [.optr ip 0], .row [.bool (eI (aG toks s0.pos) [[105,102],[109,97,116,99,104],[123]])]];have b0a:=aA k0a;have k0b:(H0++ [.row [.optr ip 0], .row [.bool (eI (aG toks s0.pos) [[105,102],[109,97,116,99,104],[123]])]])[H0.length]? =some (.row [.optr ip 0]):=z6
 have n0b:=p0.new0;have b0b:=aA k0b;have k0c:(H0++ [.row [.optr ip 0], .row [.bool (eI (aG toks s0.pos) [[105,102],[109,97,116,99,104],[123]])]])[H0.length+1]? =some (.row [.bool (eI (aG toks s0.pos) [[105,102],[109,97,116,99,104],[123]])]):=z6
 have n0c:=p0.new 1;have b0c:=aA k0c;unfold aB8 at hm;refine aF (N:=89) Tryz.func267 rfl rfl z6 λhb'=> ?_;have x1:=a4 bV r0 q0 hg;refine qE (a2 aJ x1) ?_;refine qB ?_;refine qT 2 (a4 y9 aJ fQ x1) ?_;refine qP x1 dJ (fM (mB r0) hl p0.pos [[108,101,116]] z7) ?_;refine qX x1 ?_;refine qI x1 (λbt6=> ?_) (λbt6=> ?_)
 ·
  rw[fZ bt6]at hm;refine wQ ?_;have k0a:=aA hg [.row [.optr ip 0]];have b0a:=aA k0a;have k0b:(H0++ [.row [.optr ip 0]])[H0.length]? =some (.row [.optr ip 0]):=z6
  have b0b:=aA k0b;refine wR ?_;refine qU 3 (a2 aJ x1) ?_;obtain⟨s1,e1,hm⟩:=oB hm;refine qN (a3 bV hg (w1 r0)) (FC.apX (cP toks ip 22 292 [.optr ip 0] [] aHk (dS [(0,gO)]) (FG.fc (IH .letS))) e1 p0 ⟨⟨k0a,n0a⟩,trivial⟩) ?_;rintro _ H1 ⟨rfl,F1,p1,g1⟩;have f1:=f0.stX g1;obtain⟨st1,r1⟩:=p1.row;have q1:=aA r1;obtain⟨k1a,n1a⟩:=g1.gtX k0a n0a;have b1a:=aA k1a;obtain⟨k1b,n1b⟩:=g1.gtX k0b n0b;have b1b:=aA k1b;refine qE (a5 bV hg r1 q1 (a4 k1a b1a k1b b1b)) ?_;refine wQ ?_;refine wT ⟨.inr rfl,_,rfl, ?_⟩;injection hm with hm;subst hm;exact⟨rfl,F1,(by first|exact p1.flg _|exact(p1.flg _).app _),(by first|exact f1|exact f1.of_app|exact f1.app _)⟩
 ·
  rw[gI bt6]at hm;refine qT 2 (a4 y9 aJ fQ x1) ?_;refine qP x1 dJ (fM (mB r0) hl p0.pos [[119,104,105,108,101]] z7) ?_;refine qX x1 ?_;refine qI x1 (λbt14=> ?_) (λbt14=> ?_)
  ·
   rw[fZ bt14]at hm;refine wQ ?_;have k0a:=aA hg [.row [.optr ip 0]];have b0a:=aA k0a;have k0b:(H0++ [.row [.optr ip 0]])[H0.length]? =some (.row [.optr ip 0]):=z6
   have b0b:=aA k0b;refine wR ?_;refine qU 2 (a2 aJ x1) ?_;obtain⟨s1,e1,hm⟩:=oB hm;refine qN (a3 bV hg (w1 r0)) (FC.apX (cP toks ip 24 293 [] [.optr (H0.length) 0] aKa (dS [(0,gO),(H0.length, .row [.optr ip 0])]) (aJv (n:=n) IH (H0.length))) e1 p0 ⟨⟨k0a,n0a⟩,⟨k0b,n0b⟩,trivial⟩) ?_;rintro _ H1 ⟨rfl,F1,p1,g1⟩;have f1:=f0.stX g1;obtain⟨st1,r1⟩:=p1.row;have q1:=aA r1;obtain⟨k1a,n1a⟩:=g1.gtX k0a n0a;have b1a:=aA k1a;obtain⟨k1b,n1b⟩:=g1.gtX k0b n0b;have b1b:=aA k1b;refine qE (a5 bV hg r1 q1 (a4 k1a b1a k1b b1b)) ?_;refine wQ ?_;refine wT ⟨.inr rfl,_,rfl, ?_⟩;injection hm with hm;subst hm;exact⟨rfl,F1,(by first|exact p1.flg _|exact(p1.flg _).app _),(by first|exact f1|exact f1.of_app|exact f1.app _)⟩
  ·
   rw[gI bt14]at hm;refine qT 2 (a4 y9 aJ fQ x1) ?_;refine qP x1 dJ (fM (mB r0) hl p0.pos [[114,101,116,117,114,110]] z7) ?_;refine qX x1 ?_;refine qI x1 (λbt21=> ?_) (λbt21=> ?_)
   ·
    rw[fZ bt21]at hm;refine wQ ?_;have k0a:=aA hg [.row [.optr ip 0]];have b0a:=aA k0a;have k0b:(H0++ [.row [.optr ip 0]])[H0.length]? =some (.row [.optr ip 0]):=z6
    have b0b:=aA k0b;refine wR ?_;refine qU 3 (a2 aJ x1) ?_;obtain⟨s1,e1,hm⟩:=oB hm;refine qN (a3 bV hg (w1 r0)) (FC.apX (cP toks ip 25 294 [.optr ip 0] [] aK5 (dS [(0,gO)]) (FG.fc (IH .returnStmt))) e1 p0 ⟨⟨k0a,n0a⟩,trivial⟩) ?_;rintro _ H1 ⟨rfl,F1,p1,g1⟩;have f1:=f0.stX g1;obtain⟨st1,r1⟩:=p1.row;have q1:=aA r1;obtain⟨k1a,n1a⟩:=g1.gtX k0a n0a;have b1a:=aA k1a;obtain⟨k1b,n1b⟩:=g1.gtX k0b n0b;have b1b:=aA k1b;have x2:=a5 bV hg r1 q1 (a4 k1a b1a k1b b1b);refine qL [] x2 ?_;refine qE x2 ?_;refine wQ ?_;refine wT ⟨.inr rfl,_,rfl, ?_⟩;injection hm with hm;subst hm;exact⟨rfl,F1,(by first|exact p1.flg _|exact(p1.flg _).app _),(by first|exact f1|exact f1.of_app|exact f1.app _)⟩
   ·
    rw[gI bt21]at hm;refine qK ?_;refine qE (a4 y3 aJ gF x1) ?_;refine qL [1,3] x1 ?_;refine qT 2 (a4 y9 aJ fQ x1) ?_;refine qP x1 dJ (fM (mB r0) hl p0.pos [[105,102],[109,97,116,99,104],[123]] z7) ?_;refine qX (a2 y4 x1) ?_;refine qE (a2 y4 x1) ?_;refine qI x1 (λbt36=> ?_) (λbt36=> ?_)
    ·
     rw[fZ bt36]at hm;refine qT 1 (a2 aJ x1) ?_;obtain⟨s1,e1,hm⟩:=oB hm;refine ZA (a4 bV r0 q0 hg) XN ((by first|exact FG.ap0 (IH .primary) e1 p0 ⟨k0a,n0a⟩|exact FG.ap' (IH .primary) e1 p0 ⟨k0a,n0a⟩|exact FG.ap (IH .primary) e1 p0 ⟨k0a,n0a⟩)) ?_;rintro _ H1 ⟨rfl,F1,p1,g1⟩;have f1:=f0.stX g1;obtain⟨st1,r1⟩:=p1.row;have q1:=aA r1;obtain⟨k1a,n1a⟩:=g1.gtX k0a n0a;have b1a:=aA k1a;obtain⟨k1b,n1b⟩:=g1.gtX k0b n0b;have b1b:=aA k1b;obtain⟨k1c,n1c⟩:=g1.gtX k0c n0c;have b1c:=aA k1c;refine oN ?_;refine qB ?_;have x3:=a5 bV hg r1 q1 (a5 k1a b1a k1b b1b (a2 k1c b1c));refine qE (a4 y3 aJ gF x3) ?_;refine qI x3 (λbt44=> ?_) (λbt44=> ?_)
     ·
      rw[fZ bt44]at hm;refine wQ ?_;obtain⟨s2,e2,hm⟩:=oB hm;obtain⟨ft,gs,ks,xl,hs,hkids,hsm⟩:=GU e2;obtain⟨is0,c0,R0,ids0,cid0,cv0,cells00,rest0,sp⟩:=p1.split hs;have h1:=sp.h1;have h2:=sp.h2;have h3:=sp.h3;have h4:=sp.h4;have h5:=sp.h5;have hch:=sp.ch;rw[hkids]at hch;obtain⟨ic,cc,crest,hcv,hcid,hic,hcc,hccm⟩:=hch.msl_inv;have hmx:maxLen=9223372036854775807:=z7
      have hip:=lG h1;have his:=lG h2;have hicl:=lG hic;have gw:IntKind.i64.wrap (((gs.length+1:Nat):Int) -1)=((gs.length:Nat):Int):=by rw[aY z8 z8];omega
      have gi:=bS (n:=gs.length+1) (i:=gs.length) z8;have gw2:IntKind.i64.wrap (((ks.length+1:Nat):Int) -1)=((ks.length:Nat):Int):=by rw[aY z8 z8];omega
      obtain⟨RC,hRC⟩:∃RC,RC=aH (ks.map St.enc)++(xl.enc.cells++crest):=⟨_,rfl⟩;rw[<-hRC]at hic;have gR2:R0[gs.length*3+2]? =some (.msl ic 0 (ks.length+1) cc):=by
       have:=congrArg (λz=>z[2]?) sp.top;simp only[List.getElem?_take,List.getElem?_drop]at this;rw[<-hcv];simpa using this
      have bR2:(gs.length*3+2+1<=R0.length)=True:=by simp;omega
      have nic:ic≠is0:=λe=>sp.hi2 (by rw[hcid];simp[e]);have nis:∀k,(is0=H1.length+k)=False:=λk=>by simp;omega
      have hst:st1= .msl is0 0 (gs.length+1) c0:=by
       have h:=r1;rw[h1]at h;simp only[Option.some.injEq,AObj.row.injEq,List.cons.injEq,and_true,true_and]at h;exact h.symm
      refine dA (by kernel_rfl) ?_;refine pX (a5 y3 nG dM aJ (a5 gF hst nis h2 (a5 hic gw gi gw2 (a4 tN gR2 bR2 x3)))) ?_;refine qL [1,5] x3 ?_;refine wQ ?_;refine lU 0 (by kernel_rfl) ?_;have x9:=a5 bV hst nis h2 (a5 hic gw gi gw2 (a2 gR2 bR2));refine tF (bm:= [0,0,2,6,14,0,32,96,224,480,992,2046,4095,8191,16383]) 11 (fresh:=H1.length+7) (by kernel_rfl) (Zd (a4 y3 nG dM x9)) z7 z7 ?_;refine BB (id:=ic) (n:=ks.length+1) (c:=cc) (kk:=.i64) (k:=ks.length) (mL x9) rfl z7 z7 eB (fV x9) (fV x9) z8 ?_;refine kU (bm:= [0,0,2,6,14,0,32,96,224,480,992,2046,4095,8191,16383]) (fresh:=H1.length+7) (by kernel_rfl) (Zd (a3 nG dM x9)) z7 ?_;refine bG (λH2=>∃F2,eJ toks ip s2 F2 H2/\Fr F0 F2 H0 H2/\(H2[0]? =some (gO)/\(0)∉F2)/\(H2[H0.length]? =some (.row [.optr ip 0])/\(H0.length)∉F2)/\(H2[H0.length+1]? =some (.row [.bool (eI (aG toks s0.pos) [[105,102],[109,97,116,99,104],[123]])])/\(H0.length+1)∉F2)) ?_ ?_
      ·obtain⟨k1,k2⟩:=sp.retop (H3:=H1.set is0 (.row (R0.set (gs.length*3+2) (.msl ic 0 ks.length cc)))) (kids':=ks) (cid':= [ic]) z6 (aSz his) (λj hj hn _=>aS0 (Ne.symm hn)) (.of (rest:=xl.enc.cells++crest) rfl (by rw[aS0 (Ne.symm nic),hic,hRC]) (by simp[St.enc_cells];omega) hccm) (λi hi=>.inl (by rw[hcid];exact hi));exact⟨_,by rw[hsm];exact k1,f1.trans k2,k2.get k1a n1a,k2.get k1b n1b,k2.get k1c n1c⟩
      rintro H2 ⟨F2,p2,f2,⟨k2a,n2a⟩,⟨k2b,n2b⟩,⟨k2c,n2c⟩⟩;obtain⟨st2,r2⟩:=p2.row;have q2:=aA r2;have b2a:=aA k2a;have b2b:=aA k2b;have b2c:=aA k2c;have x4:=a5 bV hg r2 q2 (a5 k2a b2a k2b b2b (a2 k2c b2c));refine qT 1 (a2 aJ x4) ?_;obtain⟨s3,e3,hm⟩:=oB hm;refine qN x4 (FN.apX (tM toks ip) e3 p2) ?_;rintro _ H3 ⟨rfl,F3,p3,g3⟩;have f3:=f2.stX g3;obtain⟨st3,r3⟩:=p3.row;have q3:=aA r3;obtain⟨k3a,n3a⟩:=g3.gtX k2a n2a;have b3a:=aA k3a;obtain⟨k3b,n3b⟩:=g3.gtX k2b n2b;have b3b:=aA k3b;obtain⟨k3c,n3c⟩:=g3.gtX k2c n2c;have b3c:=aA k3c;have x5:=a5 bV hg r3 q3 (a5 k3a b3a k3b b3b (a2 k3c b3c));refine qL [] x5 ?_;refine qE x5 ?_;refine wQ ?_;refine wT ⟨.inr rfl,_,rfl, ?_⟩;injection hm with hm;subst hm;exact⟨rfl,F3,(by first|exact p3.flg _|exact(p3.flg _).app _),(by first|exact f3|exact f3.of_app|exact f3.app _)⟩
     ·
      rw[gI bt44]at hm;refine qT 2 (a4 y9 aJ fQ x3) ?_;refine qP x3 dJ (fM (mB r1) hl p1.pos [[125]] z7) ?_;refine qX x3 ?_;refine qI x3 (λbt78=> ?_) (λbt78=> ?_)
      ·
       rw[fZ bt78]at hm;refine qL [] x3 ?_;refine qE x3 ?_;refine wQ ?_;refine wT ⟨.inr rfl,_,rfl, ?_⟩;injection hm with hm;subst hm;exact⟨rfl,F1,(by first|exact p1.flg _|exact(p1.flg _).app _),(by first|exact f1|exact f1.of_app|exact f1.app _)⟩
      ·
       rw[gI bt78]at hm;refine qL [1,4] x3 ?_;refine qT 2 (a4 y9 aJ fQ x3) ?_;refine qP x3 dJ (fM (mB r1) hl p1.pos [[61]] z7) ?_;refine qX x3 ?_;refine qI x3 (λbt82=> ?_) (λbt82=> ?_)
       ·
        rw[fZ bt82]at hm;refine qT 2 (a2 aJ x3) ?_;obtain⟨s2,e2,hm⟩:=oB hm;refine qN (a3 bV hg (w4 r1 k1a k1b k1c)) (FC.apX (pG toks ip 23 296 [] [.optr (H0.length) 0] aBh (dS [(0,gO),(H0.length, .row [.optr ip 0])]) (aAd (n:=n) IH (H0.length))) e2 p1 ⟨⟨k1a,n1a⟩,⟨k1b,n1b⟩,trivial⟩) ?_;rintro _ H2 ⟨rfl,F2,p2,g2⟩;have f2:=f1.stX g2;obtain⟨st2,r2⟩:=p2.row;have q2:=aA r2;obtain⟨k2a,n2a⟩:=g2.gtX k1a n1a;have b2a:=aA k2a;obtain⟨k2b,n2b⟩:=g2.gtX k1b n1b;have b2b:=aA k2b;obtain⟨k2c,n2c⟩:=g2.gtX k1c n1c;have b2c:=aA k2c;refine qE (a5 bV hg r2 q2 (a5 k2a b2a k2b b2b (a2 k2c b2c))) ?_;refine wQ ?_;refine wT ⟨.inr rfl,_,rfl, ?_⟩;injection hm with hm;subst hm;exact⟨rfl,F2,(by first|exact p2.flg _|exact(p2.flg _).app _),(by first|exact f2|exact f2.of_app|exact f2.app _)⟩
       ·
        rw[gI bt82]at hm;refine qT 2 (a2 aJ x3) ?_;obtain⟨s2,e2,hm⟩:=oB hm;refine qN (a3 bV hg (w4 r1 k1a k1b k1c)) (FC.apX (pG toks ip 26 297 [] [.optr (H0.length) 0, .optr (H0.length+1) 0] aCp (dS [(0,gO),(H0.length, .row [.optr ip 0]),(H0.length+1, .row [.bool (eI (aG toks s0.pos) [[105,102],[109,97,116,99,104],[123]])])]) (aAt (n:=n) IH (H0.length) (H0.length+1) (eI (aG toks s0.pos) [[105,102],[109,97,116,99,104],[123]]))) e2 p1 ⟨⟨k1a,n1a⟩,⟨k1b,n1b⟩,⟨k1c,n1c⟩,trivial⟩) ?_;rintro _ H2 ⟨rfl,F2,p2,g2⟩;have f2:=f1.stX g2;obtain⟨st2,r2⟩:=p2.row;have q2:=aA r2;obtain⟨k2a,n2a⟩:=g2.gtX k1a n1a;have b2a:=aA k2a;obtain⟨k2b,n2b⟩:=g2.gtX k1b n1b;have b2b:=aA k2b;obtain⟨k2c,n2c⟩:=g2.gtX k1c n1c;have b2c:=aA k2c;refine qE (a5 bV hg r2 q2 (a5 k2a b2a k2b b2b (a2 k2c b2c))) ?_;refine wQ ?_;refine wT ⟨.inr rfl,_,rfl, ?_⟩;injection hm with hm;subst hm;exact⟨rfl,F2,(by first|exact p2.flg _|exact(p2.flg _).app _),(by first|exact f2|exact f2.of_app|exact f2.app _)⟩
    ·
     rw[gI bt36]at hm;refine qT 1 (a2 aJ x1) ?_;obtain⟨s1,e1,hm⟩:=oB hm;refine ZA (a4 bV r0 q0 hg) XV ((by first|exact FG.ap0 (IH .expr) e1 p0 ⟨k0a,n0a⟩|exact FG.ap' (IH .expr) e1 p0 ⟨k0a,n0a⟩|exact FG.ap (IH .expr) e1 p0 ⟨k0a,n0a⟩)) ?_;rintro _ H1 ⟨rfl,F1,p1,g1⟩;have f1:=f0.stX g1;obtain⟨st1,r1⟩:=p1.row;have q1:=aA r1;obtain⟨k1a,n1a⟩:=g1.gtX k0a n0a;have b1a:=aA k1a;obtain⟨k1b,n1b⟩:=g1.gtX k0b n0b;have b1b:=aA k1b;obtain⟨k1c,n1c⟩:=g1.gtX k0c n0c;have b1c:=aA k1c;refine oN ?_;refine qB ?_;have x6:=a5 bV hg r1 q1 (a5 k1a b1a k1b b1b (a2 k1c b1c));refine qE (a4 y3 aJ gF x6) ?_;refine qI x6 (λbt44=> ?_) (λbt44=> ?_)
     ·
      rw[fZ bt44]at hm;refine wQ ?_;obtain⟨s2,e2,hm⟩:=oB hm;obtain⟨ft,gs,ks,xl,hs,hkids,hsm⟩:=GU e2;obtain⟨is0,c0,R0,ids0,cid0,cv0,cells00,rest0,sp⟩:=p1.split hs;have h1:=sp.h1;have h2:=sp.h2;have h3:=sp.h3;have h4:=sp.h4;have h5:=sp.h5;have hch:=sp.ch;rw[hkids]at hch;obtain⟨ic,cc,crest,hcv,hcid,hic,hcc,hccm⟩:=hch.msl_inv;have hmx:maxLen=9223372036854775807:=z7
      have hip:=lG h1;have his:=lG h2;have hicl:=lG hic;have gw:IntKind.i64.wrap (((gs.length+1:Nat):Int) -1)=((gs.length:Nat):Int):=by rw[aY z8 z8];omega
      have gi:=bS (n:=gs.length+1) (i:=gs.length) z8;have gw2:IntKind.i64.wrap (((ks.length+1:Nat):Int) -1)=((ks.length:Nat):Int):=by rw[aY z8 z8];omega
      obtain⟨RC,hRC⟩:∃RC,RC=aH (ks.map St.enc)++(xl.enc.cells++crest):=⟨_,rfl⟩;rw[<-hRC]at hic;have gR2:R0[gs.length*3+2]? =some (.msl ic 0 (ks.length+1) cc):=by
       have:=congrArg (λz=>z[2]?) sp.top;simp only[List.getElem?_take,List.getElem?_drop]at this;rw[<-hcv];simpa using this
      have bR2:(gs.length*3+2+1<=R0.length)=True:=by simp;omega
      have nic:ic≠is0:=λe=>sp.hi2 (by rw[hcid];simp[e]);have nis:∀k,(is0=H1.length+k)=False:=λk=>by simp;omega
      have hst:st1= .msl is0 0 (gs.length+1) c0:=by
       have h:=r1;rw[h1]at h;simp only[Option.some.injEq,AObj.row.injEq,List.cons.injEq,and_true,true_and]at h;exact h.symm
      refine dA (by kernel_rfl) ?_;refine pX (a5 y3 nG dM aJ (a5 gF hst nis h2 (a5 hic gw gi gw2 (a4 tN gR2 bR2 x6)))) ?_;refine qL [1,5] x6 ?_;refine wQ ?_;refine lU 0 (by kernel_rfl) ?_;have x10:=a5 bV hst nis h2 (a5 hic gw gi gw2 (a2 gR2 bR2));refine tF (bm:= [0,0,2,6,14,0,32,96,224,480,992,2046,4095,8191,16383]) 11 (fresh:=H1.length+7) (by kernel_rfl) (Zd (a4 y3 nG dM x10)) z7 z7 ?_;refine BB (id:=ic) (n:=ks.length+1) (c:=cc) (kk:=.i64) (k:=ks.length) (mL x10) rfl z7 z7 eB (fV x10) (fV x10) z8 ?_;refine kU (bm:= [0,0,2,6,14,0,32,96,224,480,992,2046,4095,8191,16383]) (fresh:=H1.length+7) (by kernel_rfl) (Zd (a3 nG dM x10)) z7 ?_;refine bG (λH2=>∃F2,eJ toks ip s2 F2 H2/\Fr F0 F2 H0 H2/\(H2[0]? =some (gO)/\(0)∉F2)/\(H2[H0.length]? =some (.row [.optr ip 0])/\(H0.length)∉F2)/\(H2[H0.length+1]? =some (.row [.bool (eI (aG toks s0.pos) [[105,102],[109,97,116,99,104],[123]])])/\(H0.length+1)∉F2)) ?_ ?_
      ·obtain⟨k1,k2⟩:=sp.retop (H3:=H1.set is0 (.row (R0.set (gs.length*3+2) (.msl ic 0 ks.length cc)))) (kids':=ks) (cid':= [ic]) z6 (aSz his) (λj hj hn _=>aS0 (Ne.symm hn)) (.of (rest:=xl.enc.cells++crest) rfl (by rw[aS0 (Ne.symm nic),hic,hRC]) (by simp[St.enc_cells];omega) hccm) (λi hi=>.inl (by rw[hcid];exact hi));exact⟨_,by rw[hsm];exact k1,f1.trans k2,k2.get k1a n1a,k2.get k1b n1b,k2.get k1c n1c⟩
      rintro H2 ⟨F2,p2,f2,⟨k2a,n2a⟩,⟨k2b,n2b⟩,⟨k2c,n2c⟩⟩;obtain⟨st2,r2⟩:=p2.row;have q2:=aA r2;have b2a:=aA k2a;have b2b:=aA k2b;have b2c:=aA k2c;have x7:=a5 bV hg r2 q2 (a5 k2a b2a k2b b2b (a2 k2c b2c));refine qT 1 (a2 aJ x7) ?_;obtain⟨s3,e3,hm⟩:=oB hm;refine qN x7 (FN.apX (tM toks ip) e3 p2) ?_;rintro _ H3 ⟨rfl,F3,p3,g3⟩;have f3:=f2.stX g3;obtain⟨st3,r3⟩:=p3.row;have q3:=aA r3;obtain⟨k3a,n3a⟩:=g3.gtX k2a n2a;have b3a:=aA k3a;obtain⟨k3b,n3b⟩:=g3.gtX k2b n2b;have b3b:=aA k3b;obtain⟨k3c,n3c⟩:=g3.gtX k2c n2c;have b3c:=aA k3c;have x8:=a5 bV hg r3 q3 (a5 k3a b3a k3b b3b (a2 k3c b3c));refine qL [] x8 ?_;refine qE x8 ?_;refine wQ ?_;refine wT ⟨.inr rfl,_,rfl, ?_⟩;injection hm with hm;subst hm;exact⟨rfl,F3,(by first|exact p3.flg _|exact(p3.flg _).app _),(by first|exact f3|exact f3.of_app|exact f3.app _)⟩
     ·
      rw[gI bt44]at hm;refine qT 2 (a4 y9 aJ fQ x6) ?_;refine qP x6 dJ (fM (mB r1) hl p1.pos [[125]] z7) ?_;refine qX x6 ?_;refine qI x6 (λbt78=> ?_) (λbt78=> ?_)
      ·
       rw[fZ bt78]at hm;refine qL [] x6 ?_;refine qE x6 ?_;refine wQ ?_;refine wT ⟨.inr rfl,_,rfl, ?_⟩;injection hm with hm;subst hm;exact⟨rfl,F1,(by first|exact p1.flg _|exact(p1.flg _).app _),(by first|exact f1|exact f1.of_app|exact f1.app _)⟩
      ·
       rw[gI bt78]at hm;refine qL [1,4] x6 ?_;refine qT 2 (a4 y9 aJ fQ x6) ?_;refine qP x6 dJ (fM (mB r1) hl p1.pos [[61]] z7) ?_;refine qX x6 ?_;refine qI x6 (λbt82=> ?_) (λbt82=> ?_)
       ·
        rw[fZ bt82]at hm;refine qT 2 (a2 aJ x6) ?_;obtain⟨s2,e2,hm⟩:=oB hm;refine qN (a3 bV hg (w4 r1 k1a k1b k1c)) (FC.apX (pG toks ip 23 296 [] [.optr (H0.length) 0] aBh (dS [(0,gO),(H0.length, .row [.optr ip 0])]) (aAd (n:=n) IH (H0.length))) e2 p1 ⟨⟨k1a,n1a⟩,⟨k1b,n1b⟩,trivial⟩) ?_;rintro _ H2 ⟨rfl,F2,p2,g2⟩;have f2:=f1.stX g2;obtain⟨st2,r2⟩:=p2.row;have q2:=aA r2;obtain⟨k2a,n2a⟩:=g2.gtX k1a n1a;have b2a:=aA k2a;obtain⟨k2b,n2b⟩:=g2.gtX k1b n1b;have b2b:=aA k2b;obtain⟨k2c,n2c⟩:=g2.gtX k1c n1c;have b2c:=aA k2c;refine qE (a5 bV hg r2 q2 (a5 k2a b2a k2b b2b (a2 k2c b2c))) ?_;refine wQ ?_;refine wT ⟨.inr rfl,_,rfl, ?_⟩;injection hm with hm;subst hm;exact⟨rfl,F2,(by first|exact p2.flg _|exact(p2.flg _).app _),(by first|exact f2|exact f2.of_app|exact f2.app _)⟩
       ·
        rw[gI bt82]at hm;refine qT 2 (a2 aJ x6) ?_;obtain⟨s2,e2,hm⟩:=oB hm;refine qN (a3 bV hg (w4 r1 k1a k1b k1c)) (FC.apX (pG toks ip 26 297 [] [.optr (H0.length) 0, .optr (H0.length+1) 0] aCp (dS [(0,gO),(H0.length, .row [.optr ip 0]),(H0.length+1, .row [.bool (eI (aG toks s0.pos) [[105,102],[109,97,116,99,104],[123]])])]) (aAt (n:=n) IH (H0.length) (H0.length+1) (eI (aG toks s0.pos) [[105,102],[109,97,116,99,104],[123]]))) e2 p1 ⟨⟨k1a,n1a⟩,⟨k1b,n1b⟩,⟨k1c,n1c⟩,trivial⟩) ?_;rintro _ H2 ⟨rfl,F2,p2,g2⟩;have f2:=f1.stX g2;obtain⟨st2,r2⟩:=p2.row;have q2:=aA r2;obtain⟨k2a,n2a⟩:=g2.gtX k1a n1a;have b2a:=aA k2a;obtain⟨k2b,n2b⟩:=g2.gtX k1b n1b;have b2b:=aA k2b;obtain⟨k2c,n2c⟩:=g2.gtX k1c n1c;have b2c:=aA k2c;refine qE (a5 bV hg r2 q2 (a5 k2a b2a k2b b2b (a2 k2c b2c))) ?_;refine wQ ?_;refine wT ⟨.inr rfl,_,rfl, ?_⟩;injection hm with hm;subst hm;exact⟨rfl,F2,(by first|exact p2.flg _|exact(p2.flg _).app _),(by first|exact f2|exact f2.of_app|exact f2.app _)⟩
def UP(toks:List Tk)(n:Nat)(s0:PS):Option PS:=((cF 18 (bK toks)) s0).bind λs1=>dO (λs2=>(eI (aG toks s2.pos) [[58,58]]&& !s2.flag)) (λs2=>(oM toks s2).bind λsq3=>(some {s2 with flag:=eI (aG toks sq3.pos) [[42]]}).bind λs4=>if(!s4.flag)=true then((cJ toks) s4).bind λs5=>((cF 18 (bK toks)) s5).bind λs6=>some s6 else some s4) n s1
theorem aHj{toks:List Tk}{ip n:Nat}{b0 b1:Nat}(nb01:b0≠b1)(ne0:0≠b1):FCX [b1] Tryz.prog toks ip 219 [.optr b0 0, .optr b1 0] (UP toks n) cM (aA4 b1 [(0,gO),(b0, .row [.optr ip 0])]):=by
 intro s0 s' F0 H0 hm p0 i0;obtain⟨⟨⟨k0a,n0a⟩,⟨k0b,n0b⟩,_⟩,kf0,nf0⟩:=id i0;have b0a:=aA k0a;have b0b:=aA k0b;have qf0:=aA kf0;obtain⟨st0,r0⟩:=p0.row;have q0:=aA r0;have hl:=aV p0.len;have f0:=(Fr.refl F0 H0).wk [b1];unfold UP at hm;refine aF (N:=25) Tryz.func219 rfl rfl z6 λhb'=> ?_;have x1:=a5 r0 q0 k0a b0a (a4 k0b b0b kf0 qf0);refine ZT 3 (a2 aJ x1) ?_;obtain⟨s1,e1,hm⟩:=oB hm;refine ZA x1 TD ((cP toks ip 18 159 [.optr ip 0] [] OU (VF b1 [(0,gO),(b0, .row [.optr ip 0])]) (TX (VF b1 [(0,gO),(b0, .row [.optr ip 0])]) (cI toks ip) (λs s'=>rH))) _ _ F0 H0 e1 p0 i0) ?_;rintro _ H1 ⟨rfl,F1,p1,g1,i1⟩;have f1:Fr ([b1]++F0) ([b1]++F1) H0 H1:=f0.trans (g1.wk [b1]);obtain⟨st1,r1⟩:=p1.row;have q1:=aA r1;obtain⟨⟨⟨k1a,n1a⟩,⟨k1b,n1b⟩,_⟩,kf1,nf1⟩:=id i1;have b1a:=aA k1a;have b1b:=aA k1b;have qf1:=aA kf1;refine oN ?_;refine qB ?_;have x2:=a5 r1 q1 k1a b1a (a5 k1b b1b kf1 qf1 x1);refine eC (σ:=Nat×PS×List Nat) (λ(z:Nat×PS×List Nat)=> [(0, .optr b0 0),(1, .optr b1 0)]) (λ(z:Nat×PS×List Nat)=>λH2=>dO (λs2=>(eI (aG toks s2.pos) [[58,58]]&& !s2.flag)) (λs2=>(oM toks s2).bind λsq3=>(some {s2 with flag:=eI (aG toks sq3.pos) [[42]]}).bind λs4=>if(!s4.flag)=true then((cJ toks) s4).bind λs5=>((cF 18 (bK toks)) s5).bind λs6=>some s6 else some s4) z.1 z.2.1=some s'/\eJ toks ip z.2.1 z.2.2 H2/\Fr ([b1]++F0) ([b1]++z.2.2) H0 H2/\aA4 b1 [(0,gO),(b0, .row [.optr ip 0])] z.2.1 z.2.2 H2) (λ(z:Nat×PS×List Nat)=>z.1) ((n,s1,F1)) ⟨(Zf x2),(Zf x2),trivial⟩ (⟨hm,p1,f1,i1⟩) ?_;intro z H2 hg;obtain⟨k2,s2,F2⟩:=z;obtain⟨hk2,p2,f2,i2⟩:=hg;simp only at hk2 p2 f2 i2;obtain⟨st2,r2⟩:=p2.row;have q2:=aA r2;obtain⟨⟨⟨k2a,n2a⟩,⟨k2b,n2b⟩,_⟩,kf2,nf2⟩:=id i2;have b2a:=aA k2a;have b2b:=aA k2b;have qf2:=aA kf2;cases k2 with
 |zero=>cases hk2
 |succ k2=> ?_
 unfold dO at hk2;refine wQ ?_;refine wR ?_;refine bO ?_;have x3:=a5 r2 q2 k2a b2a (a5 k2b b2b kf2 qf2 x2);refine OH 2 (a4 y9 aJ fQ x3) ?_;refine RN x3 dJ (λhc=>fM (by first|exact r2|exact q2 _) hl p2.pos [[58,58]] z7) ?_;refine ZgX (a2 y4 x3) ?_;refine ZI x3 (λbt12=> ?_) (λbt12=> ?_)
 ·
  rw[fZ bt12]at hk2;obtain⟨sB,hm,hk2⟩:=oB hk2;refine qK ?_;refine qB ?_;refine ZT 1 (a2 aJ x3) ?_;obtain⟨sq3,e3,hm⟩:=oB hm;refine ZA x3 IN (vO e3 p2) ?_;rintro _ H3 ⟨iq3,Fq3,rfl,pq3,g3⟩;obtain⟨F3,nf,p3,f3'⟩:=mT p2 (Fr.refl F2 H2) g3;have f3:Fr ([b1]++F0) ([b1]++F3) H0 H3:=f2.trans (f3'.wk [b1]);obtain⟨st3,r3⟩:=p3.row;have q3:=aA r3;obtain⟨k3a,n3a⟩:=cZ g3 k2a n2a nf;obtain⟨k3b,n3b⟩:=cZ g3 k2b n2b nf;obtain⟨kf3,nf3⟩:=cZ g3 kf2 nf2 nf;have qf3:=aA kf3;have b3a:=aA k3a;have b3b:=aA k3b;obtain⟨stq3,rq3⟩:=pq3.row;have qq3:=aA rq3;have hb3:=lG kf3;have hbn:(b1=H3.length)=False:=eq_false z8;have x4:=a5 r3 q3 k3a b3a (a5 k3b b3b kf3 qf3 (a2 hbn x3));refine ZU 1 (a3 y9 fQ x4) ?_;refine ZP x4 dJ (fM (by first|exact rq3|exact qq3 _) hl pq3.pos [[42]] z7) ?_;refine ZX (a2 y4 x4) ?_;refine wQ ?_;obtain⟨s4,e4,hm⟩:=oB hm;have hs4:=Option.some.inj e4;refine bG (λH4=>∃F4,eJ toks ip s4 F4 H4/\Fr ([b1]++F0) ([b1]++F4) H0 H4/\aA4 b1 [(0,gO),(b0, .row [.optr ip 0])] s4 F4 H4) ?_ ?_
  ·have hne:∀b,b≠b1->∀o,(H3.set b1 o)[b]? =H3[b]? :=λb hb o=>aS0 (Ne.symm hb);refine⟨F3, ?_,⟨by rw[lS];exact f3.len,λid h1 h2=> ?_,f3.ids⟩,⟨⟨?_,n3a⟩,⟨?_,n3b⟩,trivial⟩, ?_,nf3⟩
   ·rw[<-hs4];exact(p3.flg _).fr λi hi=>hne i (λe=>nf3 (e▸hi)) _
   ·rw[hne id ?_]
    ·exact f3.same id h1 h2
    ·intro e;exact h2 (e▸aUg _ (List.mem_singleton_self _))
   ·rw[hne 0 ne0];exact k3a
   ·rw[hne b0 nb01];exact k3b
   ·rw[aSz hb3,<-hs4]
  rintro H4 ⟨F4,p4,f4,i4⟩;obtain⟨st4,r4⟩:=p4.row;have q4:=aA r4;obtain⟨⟨⟨k4a,n4a⟩,⟨k4b,n4b⟩,_⟩,kf4,nf4⟩:=id i4;have b4a:=aA k4a;have b4b:=aA k4b;have qf4:=aA kf4;have x5:=a5 r4 q4 k4a k4b (a5 kf4 b4a b4b qf4 x4);refine eE (Za (a2 y4 x5)) z7 ?_;refine ZI x4 (λbt18=> ?_) (λbt18=> ?_)
  ·
   rw[fZ bt18]at hm;refine ZT 1 (a2 aJ x5) ?_;obtain⟨s5,e5,hm⟩:=oB hm;refine ZA x5 nC ((cC toks ip).ap0 e5 p4) ?_;rintro _ H5 ⟨rfl,F5,p5,g5⟩;have f5:Fr ([b1]++F0) ([b1]++F5) H0 H5:=f4.trans (g5.wk [b1]);have i5:=VF b1 [(0,gO),(b0, .row [.optr ip 0])] _ _ _ _ _ _ (tB e5) i4 g5;obtain⟨st5,r5⟩:=p5.row;have q5:=aA r5;obtain⟨⟨⟨k5a,n5a⟩,⟨k5b,n5b⟩,_⟩,kf5,nf5⟩:=id i5;have b5a:=aA k5a;have b5b:=aA k5b;have qf5:=aA kf5;refine oN ?_;have x6:=a5 r5 q5 k5a b5a (a5 k5b b5b kf5 qf5 x4);refine ZL [0,1] x6 ?_;refine ZT 3 (a2 aJ x6) ?_;obtain⟨s6,e6,hm⟩:=oB hm;refine ZA x6 TD ((cP toks ip 18 159 [.optr ip 0] [] OU (VF b1 [(0,gO),(b0, .row [.optr ip 0])]) (TX (VF b1 [(0,gO),(b0, .row [.optr ip 0])]) (cI toks ip) (λs s'=>rH))) _ _ F5 H5 e6 p5 i5) ?_;rintro _ H6 ⟨rfl,F6,p6,g6,i6⟩;have f6:Fr ([b1]++F0) ([b1]++F6) H0 H6:=f5.trans (g6.wk [b1]);obtain⟨st6,r6⟩:=p6.row;have q6:=aA r6;obtain⟨⟨⟨k6a,n6a⟩,⟨k6b,n6b⟩,_⟩,kf6,nf6⟩:=id i6;have b6a:=aA k6a;have b6b:=aA k6b;have qf6:=aA kf6;refine oN ?_
   try simp only[aW,aO]
   injection hm with hm;subst hm;exact⟨(k2,s6,F6),aT9 _,⟨rfl,rfl,trivial⟩,hk2,p6,f6,i6⟩
  ·
   rw[gI bt18]at hm;refine qK ?_
   try simp only[aW,aO]
   injection hm with hm;subst hm;exact⟨(k2,s4,F4),aT9 _,⟨rfl,rfl,trivial⟩,hk2,p4,f4,i4⟩
 ·
  rw[gI bt12]at hk2;injection hk2 with hk2;subst hk2;refine wQ ?_;refine bD ?_;simp only[aW,aO,reduceIte,Nat.reduceEqDiff,aUb,if_true,if_false];refine⟨(by first|exact .inl rfl|exact .inl trivial|trivial),_,rfl, ?_⟩;exact⟨rfl,F2,p2,f2,i2⟩
def m86(toks:List Tk)(n:Nat)(s0:PS):Option PS:=(cF 17 (UP toks n) {s0 with flag:=false}).bind λs1=>if s1.flag=true then(cJ toks s1).bind λs2=>(cJ toks s2).bind λs3=>(bP toks [59] s3).bind λs4=>some {s4 with flag:=s0.flag}else(cH toks [[97,115]] s1).bind λs2=>if eI (aG toks s1.pos) [[97,115]]=true then(bK toks s2).bind λs3=>(bP toks [59] s3).bind λs4=>some {s4 with flag:=s0.flag}else(bP toks [59] s2).bind λs3=>some {s3 with flag:=s0.flag}
theorem aOn{toks:List Tk}{ip n:Nat}:FG toks ip 156 [.optr ip 0] (m86 toks n) cM:=by
 intro s0 s' F0 H0 hm p0 i0;obtain⟨⟨hg,n0a⟩,_⟩:=i0;obtain⟨st0,r0⟩:=p0.row;have q0:=aA r0;have hl:=aV p0.len;unfold m86 at hm;refine aF (N:=20) Tryz.func156 rfl rfl z6 λhb'=> ?_;have x1:=a3 r0 q0 hg;refine ZE (a2 aJ x1) ?_;refine ZE (a2 y4 x1) ?_;refine wQ ?_;refine bG (λH'=>H'=H0++ [.row [.optr ip 0], .row [.bool false]]) (by first|rfl|simp) ?_;rintro _ rfl;have k0b:(H0++ [.row [.optr ip 0], .row [.bool false]])[H0.length]? =some (.row [.optr ip 0]):=z6
 have kf0:(H0++ [.row [.optr ip 0], .row [.bool false]])[H0.length+1]? =some (.row [.bool false]):=z6
 have i0':aA4 (H0.length+1) [(0,gO),(H0.length, .row [.optr ip 0])] {s0 with flag:=false} F0 (H0++ [.row [.optr ip 0], .row [.bool false]]):=⟨⟨⟨aA hg _,n0a⟩,⟨k0b,p0.new0⟩,trivial⟩,kf0,p0.new 1⟩;refine wR ?_;refine ZU 2 (a4 aJ k0b kf0 x1) ?_;obtain⟨s1,e1,hm⟩:=oB hm;refine ZA (a3 k0b kf0 x1) TD ((aEg [H0.length+1] toks ip 17 219 [] [.optr H0.length 0, .optr (H0.length+1) 0] aM0 (VF (H0.length+1) [(0,gO),(H0.length, .row [.optr ip 0])]) (aHj (n:=n) z8 z8)) _ _ F0 _ e1 ((p0.app _).flg false) i0') ?_;rintro _ H1 ⟨rfl,F1,p1,g1,⟨⟨k1a,n1a⟩,⟨k1b,n1b⟩,_⟩,kf1,nf1⟩;have f1:Fr F0 F1 H0 H1:=(Fr.of_app g1).unwk z6;obtain⟨st1,r1⟩:=p1.row;have q1:=aA r1;have b1a:=aA k1a;have b1b:=aA k1b;have qf1:=aA kf1;refine oN ?_;refine qB ?_;have x2:=a5 r1 q1 k1a b1a (a5 k1b b1b kf1 qf1 x1);refine ZE (a2 y4 x2) ?_;refine ZI x2 (λbt6=> ?_) (λbt6=> ?_)
 ·
  rw[fZ bt6]at hm;refine ZT 1 (a2 aJ x2) ?_;obtain⟨s2,e2,hm⟩:=oB hm;refine ZA x2 nC ((by first|exact FN.ap0 (cC toks ip) e2 p1|exact FN.ap (cC toks ip) e2 p1 _)) ?_;rintro _ H2 ⟨rfl,F2,p2,g2⟩;have f2:=(by first|exact f1.trans g2|exact f1.step g2:Fr F0 F2 H0 H2);obtain⟨st2,r2⟩:=p2.row;have q2:=aA r2;obtain⟨k2a,n2a⟩:=(by first|exact g2.get k1a n1a|exact g2.get (b1a _) n1a);have b2a:=aA k2a;obtain⟨k2b,n2b⟩:=(by first|exact g2.get k1b n1b|exact g2.get (b1b _) n1b);have b2b:=aA k2b;refine oN ?_;have x3:=a5 r2 q2 k2a b2a (a3 k2b b2b x2);refine ZT 1 (a2 aJ x3) ?_;obtain⟨s3,e3,hm⟩:=oB hm;refine ZA x3 nC ((by first|exact FN.ap0 (cC toks ip) e3 p2|exact FN.ap (cC toks ip) e3 p2 _)) ?_;rintro _ H3 ⟨rfl,F3,p3,g3⟩;have f3:=(by first|exact f2.trans g3|exact f2.step g3:Fr F0 F3 H0 H3);obtain⟨st3,r3⟩:=p3.row;have q3:=aA r3;obtain⟨k3a,n3a⟩:=(by first|exact g3.get k2a n2a|exact g3.get (b2a _) n2a);have b3a:=aA k3a;obtain⟨k3b,n3b⟩:=(by first|exact g3.get k2b n2b|exact g3.get (b2b _) n2b);have b3b:=aA k3b;refine oN ?_;refine ZT 1 (a5 aJ r3 q3 k3a (a4 b3a k3b b3b x3)) ?_;obtain⟨s4,e4,hm⟩:=oB hm;refine ZA (a5 r3 q3 k3a b3a (a3 k3b b3b x3)) DW ((by first|exact FN.ap0 (bL toks ip [59]) e4 p3|exact FN.ap (bL toks ip [59]) e4 p3 _)) ?_;rintro _ H4 ⟨rfl,F4,p4,g4⟩;have f4:=(by first|exact f3.trans g4|exact f3.step g4:Fr F0 F4 H0 H4);obtain⟨st4,r4⟩:=p4.row;have q4:=aA r4;obtain⟨k4a,n4a⟩:=(by first|exact g4.get k3a n3a|exact g4.get (b3a _) n3a);have b4a:=aA k4a;obtain⟨k4b,n4b⟩:=(by first|exact g4.get k3b n3b|exact g4.get (b3b _) n3b);have b4b:=aA k4b;refine oN ?_;refine⟨(by first|exact .inl rfl|exact .inl trivial|trivial),_,rfl, ?_⟩;injection hm with hm;subst hm;exact⟨rfl,F4,(by first|exact p4.flg _|exact(p4.flg _).app _),(by first|exact f4|exact f4.of_app|exact f4.app _)⟩
 ·
  rw[gI bt6]at hm;refine ZT 2 (a4 y9 aJ fQ x2) ?_;obtain⟨s2,e2,hm⟩:=oB hm;refine ZA x2 wV ((by first|exact FN.ap0 (eG toks ip [[97,115]] z7) e2 p1|exact FN.ap (eG toks ip [[97,115]] z7) e2 p1 _)) ?_;rintro _ H2 ⟨rfl,F2,p2,g2⟩;have f2:=(by first|exact f1.trans g2|exact f1.step g2:Fr F0 F2 H0 H2);obtain⟨st2,r2⟩:=p2.row;have q2:=aA r2;obtain⟨k2a,n2a⟩:=(by first|exact g2.get k1a n1a|exact g2.get (b1a _) n1a);have b2a:=aA k2a;obtain⟨k2b,n2b⟩:=(by first|exact g2.get k1b n1b|exact g2.get (b1b _) n1b);have b2b:=aA k2b;have x4:=a5 r2 q2 k2a b2a (a3 k2b b2b x2);refine ZX x4 ?_;refine ZI x4 (λbt12=> ?_) (λbt12=> ?_)
  ·
   rw[fZ bt12]at hm;refine ZT 1 (a2 aJ x4) ?_;obtain⟨s3,e3,hm⟩:=oB hm;refine ZA x4 OU ((by first|exact FN.ap0 (cI toks ip) e3 p2|exact FN.ap (cI toks ip) e3 p2 _)) ?_;rintro _ H3 ⟨rfl,F3,p3,g3⟩;have f3:=(by first|exact f2.trans g3|exact f2.step g3:Fr F0 F3 H0 H3);obtain⟨st3,r3⟩:=p3.row;have q3:=aA r3;obtain⟨k3a,n3a⟩:=(by first|exact g3.get k2a n2a|exact g3.get (b2a _) n2a);have b3a:=aA k3a;obtain⟨k3b,n3b⟩:=(by first|exact g3.get k2b n2b|exact g3.get (b2b _) n2b);have b3b:=aA k3b;refine oN ?_;refine ZT 1 (a5 aJ r3 q3 k3a (a4 b3a k3b b3b x4)) ?_;obtain⟨s4,e4,hm⟩:=oB hm;refine ZA (a5 r3 q3 k3a b3a (a3 k3b b3b x4)) DW ((by first|exact FN.ap0 (bL toks ip [59]) e4 p3|exact FN.ap (bL toks ip [59]) e4 p3 _)) ?_;rintro _ H4 ⟨rfl,F4,p4,g4⟩;have f4:=(by first|exact f3.trans g4|exact f3.step g4:Fr F0 F4 H0 H4);obtain⟨st4,r4⟩:=p4.row;have q4:=aA r4;obtain⟨k4a,n4a⟩:=(by first|exact g4.get k3a n3a|exact g4.get (b3a _) n3a);have b4a:=aA k4a;obtain⟨k4b,n4b⟩:=(by first|exact g4.get k3b n3b|exact g4.get (b3b _) n3b);have b4b:=aA k4b;refine oN ?_;refine⟨(by first|exact .inl rfl|exact .inl trivial|trivial),_,rfl, ?_⟩;injection hm with hm;subst hm;exact⟨rfl,F4,(by first|exact p4.flg _|exact(p4.flg _).app _),(by first|exact f4|exact f4.of_app|exact f4.app _)⟩
  ·
   rw[gI bt12]at hm;refine qK ?_;refine ZT 1 (a2 aJ x4) ?_;obtain⟨s3,e3,hm⟩:=oB hm;refine ZA x4 DW ((by first|exact FN.ap0 (bL toks ip [59]) e3 p2|exact FN.ap (bL toks ip [59]) e3 p2 _)) ?_;rintro _ H3 ⟨rfl,F3,p3,g3⟩;have f3:=(by first|exact f2.trans g3|exact f2.step g3:Fr F0 F3 H0 H3);obtain⟨st3,r3⟩:=p3.row;have q3:=aA r3;obtain⟨k3a,n3a⟩:=(by first|exact g3.get k2a n2a|exact g3.get (b2a _) n2a);have b3a:=aA k3a;obtain⟨k3b,n3b⟩:=(by first|exact g3.get k2b n2b|exact g3.get (b2b _) n2b);have b3b:=aA k3b;refine oN ?_;refine⟨(by first|exact .inl rfl|exact .inl trivial|trivial),_,rfl, ?_⟩;injection hm with hm;subst hm;exact⟨rfl,F3,(by first|exact p3.flg _|exact(p3.flg _).app _),(by first|exact f3|exact f3.of_app|exact f3.app _)⟩
set_option maxRecDepth 8000
theorem aL.ifc_inv{V:cS}{v:Value}{q:Option (TypeId×Value)}(h:aL V v (.ifc q)):(q=none/\v= .nilIface)\/∃t u,q=some (t,u)/\v= .iface t u:=by
 cases h with
 |nili=>exact .inl ⟨rfl,rfl⟩
 |ifc t u=>exact .inr ⟨t,u,rfl,rfl⟩
section
variable{P:Program}{N nb:Nat}{ops:Array Oper}{Q:dG}
theorem LY(d:Nat){t:TypeId}{ms}(hu:P.underlying t=some (.interface ms))(w:World):(Op.equalIn (d+1) t .nilIface .nilIface).run P w= .ok true w:=by
 simp[Op.equalIn,run_underlying hu]
theorem MN(d:Nat){t:TypeId}{ms}(hu:P.underlying t=some (.interface ms))(w:World)(e:TypeId)(u:Value):(Op.equalIn (d+1) t (.iface e u) .nilIface).run P w= .ok false w:=by
 simp[Op.equalIn,run_underlying hu]
theorem GT{t:TypeId}{ms}(hu:P.underlying t=some (.interface ms))(w:World):(Op.equal t .nilIface .nilIface).run P w= .ok true w/\∀d u,(Op.equal t (.iface d u) .nilIface).run P w= .ok false w:=
 ⟨LY 9999 hu w,λd u=>MN 9999 hu w d u⟩
theorem uJ{o:Oper}{l:List Oper}{T:aD}{H:aC}{t t':TypeId}{x:Operand}{q:Option (TypeId×Value)}{ms}(hu:P.underlying t=some (.interface ms))(hw:aU ops.toList T N o=some true)
  (hop:o.op= .binOp .neq t x (.const .nilIface) t') (okx:aQ N x=true) (hx:bT T x= .ifc q) (h:bH P N nb ops Q l (bU T o.dst (.bool q.isSome)) H):bH P N nb ops Q (o::l) T H:=by
 refine fW hw (λE a ho hH ht=> ?_) h;have rx:=aM ht x okx;rw[hx]at rx;refine⟨E, .bool q.isSome, .inl ?_, .refl E,ho,hH, .bool _⟩;unfold execOp;rw[hop];rcases rx.ifc_inv with⟨rfl,e⟩| ⟨d,u,rfl,e⟩
 ·have hz:a.eval (.const .nilIface)= .nilIface:=rfl;simp only[aS4,e,hz,eqGuard_nil_constR,aS7,aS5,binOp,(GT hu E.w).1];rfl
 ·have hz:a.eval (.const .nilIface)= .nilIface:=rfl;simp only[aS4,e,hz,eqGuard_at_iface,aS7,aS5,binOp,(GT hu E.w).2];rfl
def orI(a b:Int):Int:=IntKind.i64.wrap ((BitVec.ofInt 64 a ||| BitVec.ofInt 64 b).toNat:Int)
def aHp(a b:Int):Int:=IntKind.i64.wrap ((BitVec.ofInt 64 a &&& BitVec.ofInt 64 b).toNat:Int)
theorem iM{o:Oper}{l:List Oper}{T:aD}{H:aC}{v:PV}(hw:aU ops.toList T N o=some true)
  (hv:∀(E:aE) (a:Act),E.Ok->(∀x∈o.op.operands.toList,aQ N x=true->aL E.view (a.eval x) (bT T x))->∃val,(execOp a.eval o).run P E.w= .ok (.value val) E.w/\aL E.view val v)
  (h:bH P N nb ops Q l (bU T o.dst v) H):bH P N nb ops Q (o::l) T H:=by
 refine fW hw (λE a ho hE ht=> ?_) h;obtain⟨val,h1,h2⟩:=hv E a ho λx hx hok=>aM ht x hok;exact⟨E,val, .inl h1, .refl E,ho,hE,h2⟩
theorem pR{o:Oper}{T:aD}{t t':TypeId}{op:BinOp}{x y:Operand}{m n r:Int}(hop:o.op= .binOp op t x y t')(hb:(op= .or/\r=orI m n)\/(op= .and/\r=aHp m n))(okx:aQ N x=true)(oky:aQ N y=true)(hx:bT T x= .int .i64 m)(hy:bT T y= .int .i64 n)
  (E:aE) (a:Act) (ho:E.Ok) (hvs:∀x∈o.op.operands.toList,aQ N x=true->aL E.view (a.eval x) (bT T x)):∃val,(execOp a.eval o).run P E.w= .ok (.value val) E.w/\aL E.view val (.int .i64 r):=by
 have rx:=hvs x (by rw[hop];simp[Op.operands]) okx;have ry:=hvs y (by rw[hop];simp[Op.operands]) oky;rw[hx]at rx;rw[hy]at ry;have vx:=rx.int_inv;have vy:=ry.int_inv;refine⟨.int .i64 r, ?_, .int _ _⟩;unfold execOp;rw[hop];rcases hb with⟨rfl,rfl⟩| ⟨rfl,rfl⟩
 ·simp only[aS4,vx,vy,eqGuard_at_int,aS7,aS5,binOp,Op.intBits];simp only[ne_eq,not_true_eq_false,if_false,aS7,aS5];rfl
 ·simp only[aS4,vx,vy,eqGuard_at_int,aS7,aS5,binOp,Op.intBits];simp only[ne_eq,not_true_eq_false,if_false,aS7,aS5];rfl
end
inductive kJ{α:Type}(enc:α->PV)(sz:Nat)(H:aC):PV->List α->List Nat->Prop
 |nil:kJ enc sz H (.slice [] .full) [] []
 |msl {ic c:Nat} {xs:List α} {rest:List PV} (hH:H[ic]? =some (.row (aH (xs.map enc)++rest))) (hc:xs.length*sz+rest.length=c*sz) (hm:c<=maxLen):kJ enc sz H (.msl ic 0 xs.length c) xs [ic]
section
variable{α:Type}{enc:α->PV}{sz:Nat}
theorem kJ.of{H:aC}{ic c n:Nat}{xs:List α}{rest:List PV}(hn:xs.length=n)(hH:H[ic]? =some (.row (aH (xs.map enc)++rest)))(hc:n*sz+rest.length=c*sz)(hm:c<=maxLen):kJ enc sz H (.msl ic 0 n c) xs [ic]:=by
 subst hn;exact .msl hH hc hm
theorem kJ.fr{H H':aC}{cv:PV}{xs:List α}{cid:List Nat}(h:kJ enc sz H cv xs cid)(he:∀i∈cid,H'[i]? =H[i]?):kJ enc sz H' cv xs cid:=by
 cases h with
 |nil=>exact .nil
 |msl hH hc hm=>exact .msl (by rw[he _ z6];exact hH) hc hm
theorem kJ.lt{H:aC}{cv:PV}{xs:List α}{cid:List Nat}(h:kJ enc sz H cv xs cid):∀i∈cid,i<H.length:=by
 cases h with
 |nil=>intro i hi;cases hi
 |msl hH hc hm=>intro i hi;rw[aT2]at hi;subst hi;exact lG hH
theorem kJ.app{H:aC}{cv:PV}{xs:List α}{cid:List Nat}(h:kJ enc sz H cv xs cid)(L:aC):kJ enc sz (H++L) cv xs cid:=h.fr λi hi=>aSv (h.lt i hi)
theorem kJ.cases2{H:aC}{cv:PV}{xs:List α}{cid:List Nat}(h:kJ enc sz H cv xs cid):(xs= []/\cv= .slice [] .full/\cid= [])\/
  ∃ic c rest,cv= .msl ic 0 xs.length c/\cid= [ic]/\H[ic]? =some (.row (aH (xs.map enc)++rest))/\xs.length*sz+rest.length=c*sz/\c<=maxLen:=by
 cases h with
 |nil=>exact .inl ⟨rfl,rfl,rfl⟩
 |msl hH hc hm=>exact .inr ⟨_,_,_,rfl,rfl,hH,hc,hm⟩
theorem jW:∀(vs A B:List PV),vs.length<=B.length->cY (A++B) A.length vs=A++vs++B.drop vs.length
 | [],A,B,_=>by simp[cY]
 |v::vs,A,[],h=>by simp at h
 |v::vs,A,b::B,h=>by
  have h1:=jW vs (A++ [v]) B (by simpa using h);simp only[cY];rw[aTw _ _ (aSl _),Nat.sub_self,List.set_cons_zero];simp only[aTi,aSi,aUa,List.singleton_append]at h1;rw[h1];simp
theorem kG(henc:∀a,(enc a).cells.length=sz)(xs:List α):(aH (xs.map enc)).length=xs.length*sz:=by
 rw[bQ (sz:=sz) _ (λe he=>by obtain⟨v,_,rfl⟩:=aTq.1 he;exact henc v),aSr]
variable{P:Program}{N nb:Nat}{ops:Array Oper}{Q:dG}
theorem BH{E:aE}{v:Value}{es:List PV}{n:Nat}(hn:es.length=n)(hes:∀e∈es,e.cells.length=sz)(hv:aL E.view v (.slice es .full)):∃ad,v= .slice ad n n/\∃arrs,(Builtin.firstCells sz n (.slice ad n n)).run P E.w= .ok arrs E.w/\RL E.view arrs (aH es):=by
 obtain⟨arrs,r1,r2,ad,cap,rfl,hc1,hc2,hc3⟩:=mX (P:=P) hv hes;subst hn;have:cap=es.length:=hc3;subst this;exact⟨ad,rfl,arrs,r1,r2⟩
theorem sR(henc:∀a,(enc a).cells.length=sz)(hcell:∀a,(enc a).cells.all PV.isCell=true)(hs0:0<sz){o:Oper}{l:List Oper}{T:aD}{H:aC}{x y:Operand}{t u:TypeId}{ei:TypeId×TI}{z:PV}{tl:jM}{cv:PV}{xs:List α}{cid:List Nat}{a:α}
  (hw:aU ops.toList T N o=some true) (hop:o.op= .call ⟨.builtin .append, #[x,y], #[t,u]⟩) (okx:aQ N x=true) (oky:aQ N y=true) (hx:bT T x=cv) (hy:bT T y= .slice [enc a] tl) (hk:kJ enc sz H cv xs cid)
  (hte:dH P t=some ei) (hei:ei.2.sz=sz) (hb:(xs.length+1)*ei.2.bytes<=2^47) (hm:xs.length+1<=maxLen) (htu:(dH P u).isSome=true) (hz:dC P ei.1=some z) (hzf:z.fits ei.2=true)
  (h:∀(cv':PV) (cid':List Nat) (H':aC),kJ enc sz H' cv' (xs++ [a]) cid'->(∀i∈cid',i∈cid\/H.length<=i)->H.length<=H'.length->(∀j,j<H.length->j∉cid->H'[j]? =H[j]?)->bH P N nb ops Q l (bU T o.dst cv') H'):
  bH P N nb ops Q (o::l) T H:=by
 have hzs:z.cells.length=sz:=by rw[(PV.fits_spec hzf).1,hei]
 have hnew:∀oc,oc=aH (xs.map enc)->(∀(E:aE) (v:Value),E.Ok->E.H=H->aL E.view v (bT T x)->∃ad,v= .slice ad xs.length xs.length/\∃arrs,(Builtin.firstCells ei.2.sz xs.length (.slice ad xs.length xs.length)).run P E.w= .ok arrs E.w/\RL E.view arrs oc)->bH P N nb ops Q (o::l) T H:=by
  intro oc hoc hold;refine lN (n:=xs.length) (oc:=oc) (e1:=enc a) (tl:=tl) hw hop okx oky hy hb hm (by rw[henc,hei]) hte htu hz hzf hold λc rest hc1 hc2 hrest=> ?_;refine h _ [H.length] _ (.of (rest:=rest) z6 ?_ ?_ hc2) (λi hi=>by rw[aT2]at hi;exact .inr z8) z6 (λj hj _=>aSv hj)
  ·rw[aSw (aSl _),Nat.sub_self,hoc,List.map_append,cN];simp[aH]
  ·rw[hrest];have:(aS6 (c- (xs.length+1)) z.cells).flatten.length=(c- (xs.length+1))*sz:=by simp[hzs]
   rw[this,<-Nat.add_mul];congr 1;omega
 rcases hk.cases2 with⟨rfl,rfl,rfl⟩| ⟨ic,c,rest,rfl,rfl,hH,hc,hmx⟩
 ·exact hnew _ rfl λE v ho hE hv=>by
   rw[hx]at hv;exact BH (es:= []) rfl z6 hv
 ·have hfl:=kG (enc:=enc) henc xs;rcases aSk xs.length c with hlt|hge
  ·have hr:sz<=rest.length:=by
    have:(xs.length+1)*sz<=c*sz:=aTj _ hlt;rw[Nat.succ_mul]at this;omega
   refine pN (id:=ic) (n:=xs.length) (c:=c) (cs:=aH (xs.map enc)++rest) (e1:=enc a) (tl:=tl) hH hw hop okx oky hx hy hlt (by rw[aTi,hfl,hei];exact hc) (by rw[henc,hei]) (hcell a) hte htu ?_;have hil:=lG hH;refine h _ [ic] _ (.of (rest:=rest.drop sz) z6 ?_ ?_ hmx) (λi hi=>.inl hi) z6 (λj hj hn=>by rw[aS0 (by rintro rfl;exact hn z6)])
   ·rw[aSz hil,hei,<-hfl,jW _ _ _ (by rw[henc];exact hr),henc,List.map_append,cN];simp[aH]
   ·rw[aS8,Nat.succ_mul];omega
  ·have hr:rest= []:=by
    have:c*sz<=xs.length*sz:=aTj _ hge;exact aTx.1 z8
   subst hr;have hcl:c=xs.length:=by
    simp only[aT5,Nat.add_zero]at hc;exact(Nat.eq_of_mul_eq_mul_right hs0 hc).symm
   subst hcl;rw[aT4]at hH;exact hnew _ rfl λE v ho hE hv=>by
    rw[hx]at hv;exact sE ho (cs:=aH (xs.map enc)) (by rw[hE];exact hH) (by rw[hfl,hei]) hv
theorem JQ(sz:Nat):∀(n:Nat) (l:List PV),l.length=n*sz->∃es:List PV,es.length=n/\aH es=l/\∀e∈es,e.cells.length=sz
 |0,l,h=>⟨[],rfl,by simp at h;subst h;rfl,z6⟩
 |n+1,l,h=>by
  rw[Nat.succ_mul]at h;obtain⟨es,h1,h2,h3⟩:=JQ sz n (l.drop sz) (by rw[aS8];omega);refine⟨.agg (l.take sz)::es,by simp[h1], ?_,λe he=> ?_⟩
  ·have:aH (.agg (l.take sz)::es)=l.take sz++aH es:=by simp[aH,PV.cells]
   rw[this,h2,aT3]
  ·rcases aTv.1 he with rfl|he
   ·show(l.take sz).length=sz;rw[aS9];omega
   ·exact h3 e he
theorem UE(henc:∀a,(enc a).cells.length=sz)(hs0:0<sz){c:Code}{T:aD}{H:aC}(t:Nat){cv:PV}{xs:List α}{cid:List Nat}(hk:kJ enc sz H cv xs cid)(hT:T t=cv)
  (h:∀H':aC,H'.length=H.length->(∀j,j∉cid->H'[j]? =H[j]?)->eA P N nb c Q (oF T t (.slice (xs.map enc) .none)) H'):eA P N nb c Q T H:=by
 rcases hk.cases2 with⟨rfl,rfl,rfl⟩| ⟨ic,c',rest,rfl,rfl,hH,hc,hmx⟩
 ·intro E a ho hH ht;refine h H rfl (λ_ _=>rfl) E a ho hH ⟨ht.size,ht.defers,λi hi=> ?_⟩;unfold oF
  split
  ·rename_i e;subst e;have:=ht.rel i hi;rw[hT]at this;exact this.drop0
  ·exact ht.rel i hi
 ·have hle:xs.length*sz<=c'*sz:=z8
  have hlc:xs.length<=c':=Nat.le_of_mul_le_mul_right hle hs0;obtain⟨es,_,e1,e2⟩:=JQ sz (c'-xs.length) rest (by rw[Nat.sub_mul];omega);have hrow:H[ic]? =some (.row (aH (xs.map enc++es))):=by rw[hH,cN,e1]
  ·have hz:=Fz.msl (id:=ic) (k:=xs.length) (es:=xs.map enc++es) c' hlc;have:(xs.map enc++es).take xs.length=xs.map enc:=by rw[List.take_append_of_le_length z6,aUf z6]
   rw[this]at hz;refine MB ic xs.length sz t (xs.map enc++es) hrow z6 (λe he=> ?_) hT hz ?_
   ·rcases aTs.1 he with he|he
    ·obtain⟨v,_,rfl⟩:=aTq.1 he;exact henc v
    ·exact e2 e he
   ·exact h _ z6 (λj hj=>by rw[aS0 (by rintro rfl;exact hj z6)])
end
section
variable{P:Program}{N nb:Nat}{ops:Array Oper}{Q:dG}{T:aD}{H:aC}
theorem fJ{o:Oper}{t:TypeId}{x y:Operand}{ei:TypeId×TI}{id n c k:Nat}{kk:IntKind}
  (hop:o.op= .slice t x (some y) none none) (okx:aQ N x=true) (oky:aQ N y=true) (hte:dH P t=some ei) (hx:bT T x= .msl id 0 n c) (hy:bT T y= .int kk k) (hk:k<=n) (hc:k<c):
  ∀(E:aE) (a:Act),E.Ok->(∀x∈o.op.operands.toList,aQ N x=true->aL E.view (a.eval x) (bT T x))->∃val,(execOp a.eval o).run P E.w= .ok (.value val) E.w/\aL E.view val (.msl id (k*ei.2.sz) (n-k) (c-k)):=by
 intro E a ho hvs;obtain⟨e,i⟩:=ei;obtain⟨hu,hti⟩:=dE hte;obtain⟨d,f,h3,h4,rfl⟩:=cA hti;have hvx:=hvs x (by rw[hop];simp[Op.operands]) okx;have hvy:=hvs y (by rw[hop];simp[Op.operands]) oky;rw[hx]at hvx;rw[hy]at hvy;have vy:=hvy.int_inv;obtain⟨vx,hcm,hbn⟩:a.eval x= .slice (some ⟨E.ρ id,0,none⟩) n c/\c<=maxLen/\E.view.born id:=by
  generalize a.eval x=w at hvx;cases hvx with
  |msl _ _ _ _ hbn hm=>exact⟨rfl,hm,hbn⟩
 refine⟨.slice (some ⟨E.ρ id,k*f.size,none⟩) (n-k) (c-k), ?_, .msl id _ _ _ hbn z8⟩;have hb:(Instr.sliceBound (.int kk (k:Int)) n .sliceB).run P E.w= .ok k E.w:=by
  have hb0:(0:Int)<=(k:Int)/\(k:Int)<=n:=⟨z8,z8⟩;simp only[Instr.sliceBound,asIntOf,aS4,aS7,aS5,if_pos hb0,Sem.run_ite,tN]
 have hck:¬c=k:=z8
 unfold execOp;rw[hop];simp only[aS4,Instr.sliceAt,aS hu,aS5,Instr.slice,Instr.sliceBounds,aTl,aS1,aTm,aTc,if_false,vx,vy,if_true,hb,aS7,dK h4,hck,dD,aTh]
theorem yN{E:aE}{v:Value}{id off n c k sz:Nat}{cs:List PV}(ho:E.Ok)(hid:E.H[id]? =some (.row cs))(hcs:off+k*sz<=cs.length)(hv:aL E.view v (.msl id off n c)):
  ∃ad,v= .slice ad n c/\∃arrs,(Builtin.firstCells sz k v).run P E.w= .ok arrs E.w/\RL E.view arrs ((cs.drop off).take (k*sz)):=by
 cases hv with
 |msl _ _ _ _ hbn hm=>
  obtain⟨arr,elem,h1,h2,h3,h4⟩:=ho.rows id cs hid;refine⟨_,rfl,_,run_loadCells E.w ⟨E.ρ id,off,none⟩ (k*sz) (λj=>arr.getD (off+j) undef) (λj hj=> ?_),⟨by simp;omega,λi hi=> ?_⟩⟩
  ·rw[dD,kZ h1,aSo,aSt z8];rfl
  ·have hi':i<k*sz:=by simp at hi;omega
   rw[aSo];simp only[aTa,aTb,List.getElem?_range hi',aS1,aSu,List.getElem_take,List.getElem_drop];exact h3 (off+i) z8
theorem IE{o:Oper}{l:List Oper}{x:Operand}{t:TypeId}{id off n c:Nat}(hop:o.op= .call ⟨.builtin .cap, #[x], #[t]⟩)(hx:bT T x= .msl id off n c)(hw:aU ops.toList T N o=some true)(hok:aQ N x=true)
  (hte:(dH P t).isSome=true) (h:bH P N nb ops Q l (bU T o.dst (.int .i64 (c:Int))) H):bH P N nb ops Q (o::l) T H:=by
 refine fW hw (λE a ho hH ht=> ?_) h;have hr:=aM ht x hok;rw[hx]at hr;obtain⟨e,hu⟩:=mD hte;have hval:a.eval x= .slice (some ⟨E.ρ id,off,none⟩) n c:=by generalize a.eval x=y at hr;cases hr;rfl
 refine⟨E, .int .i64 c, .inl ?_, .refl E,ho,hH, .int _ _⟩;unfold execOp;rw[hop];simp only;refine(fL (c:=⟨.builtin .cap, #[x], #[t]⟩) (a:=a) (E:=E) (P:=P) (xs:= [x]) (ts:= [t]) (ty:=o.type) rfl rfl rfl (s:=Builtin.cap_ #[t] o.type #[a.eval x]) rfl).trans ?_;simp only[Builtin.cap_,aTa,aTo,aS4,aS hu,aS5,hval,aS7,goInt]
theorem tC{o:Oper}{l:List Oper}{x y:Operand}{t u:TypeId}{ei:TypeId×TI}{id off n c:Nat}{cs src:List PV}(hid:H[id]? =some (.row cs))(hw:aU ops.toList T N o=some true)
  (hop:o.op= .call ⟨.builtin .copy, #[x,y], #[t,u]⟩) (okx:aQ N x=true) (oky:aQ N y=true) (hx:bT T x= .msl id off n c) (hte:dH P t=some ei)
  (hsrc:∀(E:aE) (v:Value),E.Ok->E.H=H->aL E.view v (bT T y)->∃m ad cp,v= .slice ad m cp/\∃arrs,(Builtin.firstCells ei.2.sz (Nat.min m n) v).run P E.w= .ok arrs E.w/\RL E.view arrs src)
  (hcell:src.all PV.isCell=true) (hfit:off+src.length<=cs.length)
  (h:bH P N nb ops Q l (bU T o.dst .junk) (H.set id (.row (cY cs off src)))):bH P N nb ops Q (o::l) T H:=by
 refine fW hw (λE a ho hH ht=> ?_) h;subst hH;obtain⟨e,i⟩:=ei;obtain⟨h1,h2⟩:=dE hte;obtain⟨dd,f,h3,h4,rfl⟩:=cA h2;have hvx:=aM ht x okx;have hvy:=aM ht y oky;rw[hx]at hvx;obtain⟨m,ad,cp,vy,arrs,r1,r2⟩:=hsrc E _ ho rfl hvy;have vx:a.eval x= .slice (some ⟨E.ρ id,off,none⟩) n c:=by
  generalize a.eval x=w at hvx;cases hvx with
  |msl _ _ _ _ hbn hm=>rfl
 obtain⟨E',e1',e2,e3,e4⟩:=vC (P:=P) (id:=id) (off:=off) arrs.toList src 0 E cs ho hid (by rw[aSs];exact r2.1) (λj hj=>by
  have:=r2.2 j hj;rw[aSo]at this;rw[aTe,aTf];exact this) hcell (by rw[aSs,r2.1];omega)
 refine⟨E',goInt (Nat.min m n), .inl ?_,e2,e3,by rw[e4,Nat.add_zero], .junk _⟩;unfold execOp;rw[hop];simp only;refine(fL (c:=⟨.builtin .copy, #[x,y], #[t,u]⟩) (a:=a) (E:=E) (P:=P) (xs:= [x,y]) (ts:= [t,u]) (ty:=o.type) rfl rfl rfl (s:=Builtin.copy_ #[t,u] o.type #[a.eval x,a.eval y]) rfl).trans ?_;rw[vy]at r1;simp only[Builtin.copy_,aTa,aTo,aS3,aS4,aS h1,dK h4,aS5,aS7,vx,vy,Builtin.lenOf,r1,e1']
theorem VZ{o:Oper}{l:List Oper}{x y:Operand}{t u:TypeId}{ki kk:IntKind}{ei:TypeId×TI}{z:PV}{id n c k:Nat}{cs:List PV}(hid:H[id]? =some (.row cs))(hw:aU ops.toList T N o=some true)
  (hop:o.op= .call ⟨.builtin .append, #[x,y], #[t,u]⟩) (okx:aQ N x=true) (oky:aQ N y=true) (hx:bT T x= .msl id 0 n c) (hy:bT T y= .int kk k) (hk0:0<k) (hnk:c<n+k) (hcs:n*ei.2.sz<=cs.length) (hs0:0<ei.2.sz)
  (hb:(n+k)*ei.2.bytes<=2^47) (hm:n+k<=maxLen) (hte:dH P t=some ei) (hu:P.underlying u=some (.int ki)) (hz:dC P ei.1=some z) (hzf:z.fits ei.2=true)
  (h:∀(c':Nat) (rest:List PV),n+k<=c'->c'<=maxLen->rest.length=(c'-n)*ei.2.sz->bH P N nb ops Q l (bU T o.dst (.msl H.length 0 (n+k) c')) (H++ [.row (cs.take (n*ei.2.sz)++rest)])):bH P N nb ops Q (o::l) T H:=by
 intro E a ho hH ht;subst hH;obtain⟨e,i⟩:=ei;obtain⟨h1,h2⟩:=dE hte;obtain⟨dd,f,h3,h4,rfl⟩:=cA h2;obtain⟨f',zv,h5,h6,rfl⟩:=eQ hz;simp only at h5 hzf hb hcs hs0;rw[h4]at h5;cases h5;obtain⟨hzs,hzj⟩:=PV.fits_spec hzf;simp only at hzs;have hvx:=aM ht x okx;have hvy:=aM ht y oky;rw[hx]at hvx;rw[hy]at hvy;have vy:=hvy.int_inv;have vx:a.eval x= .slice (some ⟨E.ρ id,0,none⟩) n c:=by
  generalize a.eval x=w at hvx;cases hvx with
  |msl _ _ _ _ hbn hm=>rfl
 have hd:=ho.drew;obtain⟨adx,vx',arrs,s1,s2⟩:=yN (P:=P) (E:=E.drew) (sz:=f.size) (k:=n) hd hid z8 hvx;rw[vx]at vx' s1;simp only[aUh]at s2;have em:maxLen=9223372036854775807:=z7
 obtain⟨c',hc6,hc7,hc8⟩:=lZ (P:=P) (w:=E.w) (n+k) c e;have hcm:c'<=maxLen:=by
  have:=hc8 (by have e2:maxLen=2^63-1:=rfl;omega);have e2:maxLen=2^63-1:=rfl;omega
 have hzl:∀m,RL E.drew.view (Builtin.zeroCells zv.cells m) ((aS6 m (aT zv).cells).flatten):=λm=>by
  have:=qV (V:=E.drew.view) zv hzj m;rw[lB]at this;exact this
 let rest:List PV:=(aS6 k (aT zv).cells).flatten++(aS6 (c'- (n+k)) (aT zv).cells).flatten
 let arr:Array Value:=arrs++Builtin.zeroCells zv.cells k++Builtin.zeroCells zv.cells (c'- (n+k))
 have hrl:RL E.drew.view arr (cs.take (n*f.size)++rest):=by
  have:=pA (pA s2 (hzl k)) (hzl (c'- (n+k)));rw[aUa]at this;exact this
 have hun:E.drew.ext.H[E.H.length]? =some .unborn:=by simp[aE.ext,aE.drew]
 have hle':=E.drew.ext_le.trans (aE.newRow_le (E:=E.drew.ext) hd.ext (id:=E.H.length) hun arr e (cs.take (n*f.size)++rest));have hok':=aE.Ok.newRow (E:=E.drew.ext) hd.ext (id:=E.H.length) hun arr e (cs.take (n*f.size)++rest) hrl.1 (λi hl=>(hrl.2 i hl).mono E.drew.ext_view_le);have hH':(E.drew.ext.newRow E.H.length arr e (cs.take (n*f.size)++rest)).H=E.H++ [.row (cs.take (n*f.size)++rest)]:=by
  simp only[aE.newRow,aE.ext,aE.drew];rw[aTw _ _ (aSl _)];simp
 have run1:(execOp a.eval o).run P E.w= .ok (.value (.slice (some ⟨E.w.heap.size,0,none⟩) (n+k) c')) (E.drew.ext.newRow E.H.length arr e (cs.take (n*f.size)++rest)).w:=by
  unfold execOp;rw[hop];simp only;refine(fL (c:=⟨.builtin .append, #[x,y], #[t,u]⟩) (a:=a) (E:=E) (P:=P) (xs:= [x,y]) (ts:= [t,u]) (ty:=o.type) rfl rfl rfl (s:=Builtin.append_ #[t,u] o.type #[a.eval x,a.eval y]) rfl).trans ?_;have hc6':(choose (.appendCap (n+k) c e)).run P E.w= .ok c' E.drew.w:=hc6;have n2:¬n+k<=c:=z8
  have e1:IntKind.i64.max=9223372036854775807:=z7
  have n3:¬((n+k:Nat):Int)>IntKind.i64.max:=by rw[e1];omega
  have hw1:IntKind.i64.wrap (k:Int)=k:=by rw[IntKind.wrap_i64];omega
  have n5:¬((k:Int)<0):=z8
  have n6:¬((k:Int)*(f.bytes:Int)>2^48):=by
   have:k*f.bytes<=(n+k)*f.bytes:=aTj _ z8;have h7:k*f.bytes<=2^47:=aSm this hb;rw[<-Int.natCast_mul];omega
  have n7:¬(k*f.size=0):=Nat.mul_ne_zero z8 z8;have n4:¬Builtin.nextslicecap (n+k) c*f.bytes>2^48:=by
   have:=nW (n+k) c z8;have:=aTj f.bytes this;rw[Nat.mul_assoc]at this;omega
  simp only[Builtin.append_,aTa,aTo,aS3,aS4,aS h1,dK h4,aS hu,aS5,aS7,vx,vy,Builtin.lenOf,n2,n3,n4,n5,n6,n7,hw1,if_true,if_false,pB h4,asInt,asIntOf,tN,
   aTt,aTc,jH h4 h6,hc6',CI,s1,Go.newRow,run_newObj,false_and]
  rfl
 have hv:aL (E.drew.ext.newRow E.H.length arr e (cs.take (n*f.size)++rest)).view (.slice (some ⟨E.w.heap.size,0,none⟩) (n+k) c') (.msl E.H.length 0 (n+k) c'):=by
  have:=aL.msl (V:=(E.drew.ext.newRow E.H.length arr e (cs.take (n*f.size)++rest)).view) E.H.length 0 (n+k) c'
   ⟨.row _,by rw[hH',aSw (aSl _),Nat.sub_self];rfl,z6⟩ hcm
  simpa[aE.view,aE.newRow,aE.drew,aE.ext]using this
 refine iS (cB ht hw) ?_;unfold Oper.wp;rw[run1];show wpList P ops _ _ (a.put o.dst _) _;have hle:=E.drew_le.trans hle';have hn:=h c' rest hc7 hcm (by
  show((aS6 k (aT zv).cells).flatten++(aS6 (c'- (n+k)) (aT zv).cells).flatten).length=_;simp only[aTi,List.length_flatten,List.map_replicate,List.sum_replicate_nat,hzs];rw[<-Nat.add_mul];congr 1;omega) _ _ hok' hH' ((ht.mono hle.view).put o.dst hv)
 exact eV (λe a w hl=>eP (hle.leN nb) (λ_ _ _ q=>q) hl) l _ _ hn
theorem FU{o:Oper}{l:List Oper}{fo x y:Operand}{ts:Array TypeId}{f:FuncId}{fn:Func}{tS tR e:TypeId}{ti:TI}{ia oa na ca ib ob n2 cb:Nat}{ra rb:List PV}(hw:aU ops.toList T N o=some true)(hop:o.op= .call ⟨.value fo, #[x,y],ts⟩)
  (okf:aQ N fo=true) (okx:aQ N x=true) (oky:aQ N y=true) (hf:bT T fo= .fn (.func f) [] []) (hx:bT T x= .msl ia oa na ca) (hy:bT T y= .msl ib ob n2 cb) (hne:ia≠ib) (hra:H[ia]? =some (.row ra)) (hrb:H[ib]? =some (.row rb)) (hb0:rb≠ [])
  (hfn:P.funcs[f]? =some fn) (hname:(fn.name== "runtime.NumGoroutine")=false) (hb:fn.body.isNone=true) (hn:Extern.findNext fn=none) (he:Extern.find fn=some (Extern.SlicesOverlaps.overlaps #[tS,tS] #[tR])) (ht':P.underlying tS=some (.slice e)) (hti:cV P e=some ti)
  (h:bH P N nb ops Q l (bU T o.dst (.bool false)) H):bH P N nb ops Q (o::l) T H:=by
 refine fW hw (λE a ho hH ht=> ?_) h;subst hH;have hvf:=aM ht fo okf;have hvx:=aM ht x okx;have hvy:=aM ht y oky;rw[hf]at hvf;rw[hx]at hvx;rw[hy]at hvy;obtain⟨aa,ea,h1,h2,h3,h4⟩:=ho.rows ia ra hra;obtain⟨ab,eb,k1,k2,k3,k4⟩:=ho.rows ib rb hrb;have hρ:E.ρ ia≠E.ρ ib:=λq=>hne (ho.injr ia ib ra rb hra hrb q);have vx:a.eval x= .slice (some ⟨E.ρ ia,oa,none⟩) na ca:=by generalize a.eval x=w at hvx;cases hvx;rfl
 have vy:a.eval y= .slice (some ⟨E.ρ ib,ob,none⟩) n2 cb:=by generalize a.eval y=w at hvy;cases hvy;rfl
 have vf:a.eval fo= .func (.func f) #[] #[]:=by
  generalize a.eval fo=w at hvf;cases hvf with
  |fn _ first caps _ _ hf hc _ _=>
   have e1:first= #[]:=Array.eq_empty_of_size_eq_zero hf
   have e2:caps= #[]:=Array.eq_empty_of_size_eq_zero hc;rw[e1,e2]
 obtain⟨d0,f0,hi3,hi4,_⟩:=cA hti;have hrun:=Lib.run_overlaps_apart (P:=P) E.w tS tR e ht' f0.size (λw=>dK hi4) ⟨E.ρ ia,oa,none⟩ ⟨E.ρ ib,ob,none⟩ na ca n2 cb hρ ea eb aa.size ab.size (by simp[World.shape?,h1]) (by simp[World.shape?,k1]) (by rw[k2];cases rb with|nil=>exact absurd rfl hb0|cons _ _=>simp)
  (by simp[World.frozen?,h1]) (by simp[World.frozen?,h1])
 refine⟨E, .bool false, .inl ?_, .refl E,ho,rfl, .bool false⟩;unfold execOp;rw[hop];simp only[resolve,vf,Deferred.ofValue,aS4,aS7,aS5,invoke];rw[run_callFunc_extern hfn hname hb hn he];have:(#[]++ #[x,y].map a.eval++ #[]:Array Value)= #[a.eval x,a.eval y]:=z6
 rw[this,vx,vy,hrun];rfl
end
set_option maxRecDepth 4000
theorem aA9{H0:aC}{id vid c:Nat}{ks:List St}{x t:St}{rest tc:List PV}(hH:H0[id]? =some (.row (aH (ks.map St.enc)++(x.enc.cells++rest))))(hc:(ks.length+1)*3+rest.length=c*3)(hm:c<=maxLen)(hlk:ks.length+1<iB)(hv:H0[vid]? =some (.row tc))(htc:tc.map PV.drop1=t.enc.cells)(hne:vid≠id):aN Tryz.prog 232 [.msl id 0 (ks.length+1) c,aB (ks.length:Int), .msl vid 0 1 1] H0 λr H'=>∃ic c' rest',r= .msl ic 0 (ks.length+2) c'/\H'[ic]? =some (.row (aH ((ks++ [t,x]).map St.enc)++rest'))/\(ks.length+2)*3+rest'.length=c'*3/\c'<=maxLen/\(ic=id\/H0.length<=ic)/\H0.length<=H'.length/\∀j,j<H0.length->j≠id->H'[j]? =H0[j]? :=by
 have hmx:maxLen=9223372036854775807:=z7
 simp only[iB]at hlk;have hil:=lG hH;have hvl:=lG hv;have ltc:tc.length=3:=by have:=congrArg List.length htc;simpa[St.enc_cells]using this
 obtain⟨R,hR⟩:∃R,R=aH (ks.map St.enc)++(x.enc.cells++rest):=⟨_,rfl⟩;rw[<-hR]at hH;have lR:R.length=c*3:=by rw[hR];simp[cG,St.enc_cells];omega
 have hk1:ks.length+1<=c:=z8
 have g1:decide ((1:Int)=0)=false:=rfl;have g2:decide (((ks.length:Nat):Int)=((ks.length+1:Nat):Int))=false:=decide_eq_false z8;have gw:IntKind.i64.wrap (((ks.length+1:Nat):Int)+1)=((ks.length+2:Nat):Int):=by rw[aY z8 z8];omega
 have gw1:IntKind.i64.wrap (((ks.length:Nat):Int)+1)=((ks.length+1:Nat):Int):=by rw[aY z8 z8];omega
 have gw2:IntKind.i64.wrap (((ks.length+2:Nat):Int) - ((ks.length:Nat):Int))=2:=by rw[aY z8 z8];omega
 refine aF (N:=95) Tryz.func232 rfl rfl z6 λhb'=> ?_;have x1:=a5 oO oL gw gw1 (a4 gw2 g2 hH hv);refine ZE x1 ?_;refine ZT 2 x1 ?_;refine iM (mL x1) (fJ (id:=id) (n:=ks.length+1) (c:=c) (k:=ks.length) (kk:=.i64) rfl z7 z7 eB (fV x1) (fV x1) z8 z8) ?_;refine oN ?_;refine ZE (a3 nG dM x1) ?_;refine ZE (a2 y3 x1) ?_;refine ZF x1 ?_;refine qK ?_;refine ZE (a3 nG dM x1) ?_;refine ZE (a2 y3 x1) ?_;refine ZF x1 ?_;refine qK ?_;refine ZL [0,1,2,7,8] x1 ?_;rcases aSk (ks.length+1) c with hroom|hfull
 ·
  have gl:decide (((ks.length+2:Nat):Int)>(c:Int))=false:=decide_eq_false z8;refine ZT 4 (a3 y3 gl x1) ?_;refine IE (id:=id) (off:=0) (n:=ks.length+1) (c:=c) rfl (fV x1) (mL x1) z7 rfl ?_;refine ZX (a3 y3 gl x1) ?_;refine ZF (a2 gl x1) ?_;refine qK ?_;refine ZT 4 (a3 y3 gl x1) ?_;refine nR (id:=id) (n:=ks.length+1) (c:=c) (kk:=.i64) (k:=ks.length+2) (mL (a2 gl x1)) rfl z7 z7 eB (fV (a2 gl x1)) (fV (a2 gl x1)) z8 ?_;refine ZX (a2 gl x1) ?_;refine ZT 5 (a3 y3 gl x1) ?_;refine iM (mL x1) (fJ (id:=id) (n:=ks.length+2) (c:=c) (k:=ks.length+1) (kk:=.i64) rfl z7 z7 eB (fV x1) (fV x1) z8 z8) ?_;refine FU (ia:=vid) (ib:=id) (f:=270) (tR:=4) (mL (a2 gl x1)) rfl z7 z7 z7 (fV (a2 gl x1)) (fV (a2 gl x1)) (fV (a2 gl x1)) hne hv hH (by rintro rfl;simp at lR;omega) Tryz.func270 (by kernel_rfl) (by kernel_rfl) (by kernel_rfl) (by kernel_rfl) Tryz.underlying65 MM ?_;refine ZX (a2 gl x1) ?_;refine ZG (a2 gl x1) ?_;refine ZL [0,1,2,7] (a2 gl x1) ?_;have hx3:(R.drop (ks.length*3)).take (1*3)=x.enc.cells:=by rw[hR,<-cG ks,List.drop_left,List.take_append_of_le_length (by simp[St.enc_cells]),aUf (by simp[St.enc_cells])]
  obtain⟨R2,hR2⟩:∃R2,R2=cY R ((ks.length+1)*3) x.enc.cells:=⟨_,rfl⟩;have hR2e:∃mid,mid.length=3/\R2=aH (ks.map St.enc)++(mid++(x.enc.cells++rest.drop 3)):=⟨x.enc.cells,by simp[St.enc_cells],by rw[hR2,hR,<-aUa,show(ks.length+1)*3=(aH (ks.map St.enc)++x.enc.cells).length by simp[cG,St.enc_cells];omega,jW _ _ _ (by simp[St.enc_cells];omega)];simp[St.enc_cells]⟩;refine wQ ?_;refine eK 0 (by kernel_rfl) ?_;refine gM 8 (bm:= [0,0,0,6,15,0,0,96,255]) (by kernel_rfl) z7 (by kernel_rfl) (by kernel_rfl) ?_;refine AZ 4 (a3 y3 gl x1) ?_;refine rP (Ze (a2 gl x1)) (by rfl) (fJ (id:=id) (n:=ks.length+2) (c:=c) (k:=ks.length+1) (kk:=.i64) rfl z7 z7 eB (fV x1) (fV x1) z8 z8) ?_;refine AZ 2 (a2 gl x1) ?_;refine rP (Ze (a2 gl x1)) (by rfl) (fJ (id:=id) (n:=ks.length+2) (c:=c) (k:=ks.length) (kk:=.i64) rfl z7 z7 eB (fV x1) (fV x1) z8 z8) ?_;refine FM (a2 gl x1) ?_;refine kK (k:=8) (bm:= [0,0,0,6,15,0,0,96,255]) (by kernel_rfl) rfl (by kernel_rfl) (by kernel_rfl) ?_;refine tC (id:=id) (off:=(ks.length+1)*3) (n:=ks.length+2- (ks.length+1)) (c:=c- (ks.length+1)) (cs:=R) (src:=x.enc.cells) hH (mL (a2 gl x1)) rfl z7 z7 (fV (a2 gl x1)) eB (λE v ho hE hv=>by
   have hv':aL E.view v (.msl id (ks.length*3) (ks.length+2-ks.length) (c-ks.length)):=by have:=hv;simp only[kC,seval,aB,qC,oO,oL,gw,gw1,gw2,g2,hH,hv,gl]at this;exact this
   obtain⟨ad,rfl,arrs,r1,r2⟩:=yN (P:=Tryz.prog) (k:=1) (sz:=3) ho (by rw[hE];exact hH) (by rw[lR];omega) hv';exact⟨_,ad,_,rfl,arrs,by rw[show Nat.min (ks.length+2-ks.length) (ks.length+2- (ks.length+1))=1 from by(try simp[Nat.min_def])<;>(try omega)];exact r1,by rw[hx3]at r2;exact r2⟩) (by simp[St.enc_cells,PV.isCell]) (by rw[lR];simp[St.enc_cells];omega) ?_
  refine oN ?_;show kB _ _ _ _ _ _ _ _;refine fF ?_;rw[<-hR2];obtain⟨mid,hmid,hR2e⟩:=hR2e;have hH3:(H0.set id (.row R2))[id]? =some (.row R2):=aSz hil;have hv3:(H0.set id (.row R2))[vid]? =some (.row tc):=by rw[aS0 (Ne.symm hne)];exact hv
  refine ZT 2 (a2 gl x1) ?_;refine iM (mL x1) (fJ (id:=id) (n:=ks.length+2) (c:=c) (k:=ks.length) (kk:=.i64) rfl z7 z7 eB (fV x1) (fV x1) z8 z8) ?_;refine ZU 1 (a2 gl x1) ?_;refine tC (id:=id) (off:=ks.length*3) (n:=ks.length+2-ks.length) (c:=c-ks.length) (cs:=R2) (src:=t.enc.cells) hH3 (mL (a2 gl x1)) rfl z7 z7 (fV (a2 gl x1)) eB (λE v ho hE hv=>by
   have hv':aL E.view v (.msl vid (0) (1) (1)):=by have:=hv;simp only[kC,seval,aB,qC,oO,oL,gw,gw1,gw2,g2,hH,hv,gl]at this;exact this
   obtain⟨ad,rfl,arrs,r1,r2⟩:=yN (P:=Tryz.prog) (k:=1) (sz:=3) ho (by rw[hE];exact hv3) z8 hv';exact⟨_,ad,_,rfl,arrs,by rw[show Nat.min (1) (ks.length+2-ks.length)=1 from by(try simp[Nat.min_def])<;>(try omega)];exact r1,by rw[aUh,aUf z8]at r2;have r3:=OD r2;rw[htc]at r3;exact r3⟩) (by simp[St.enc_cells,PV.isCell]) (by rw[hR2e];simp[cG,St.enc_cells,hmid]) ?_
  obtain⟨R3,hR3⟩:∃R3,R3=cY R2 (ks.length*3) t.enc.cells:=⟨_,rfl⟩;rw[<-hR3,aUe];refine oN ?_;refine ZE (a2 gl x1) ?_;refine wQ ?_;refine wT ⟨.inr rfl,_,rfl, ?_⟩;refine⟨id,c,rest.drop 3,rfl, ?_,by simp;omega,hm, .inl rfl,z6,λj h1 h2=>by rw[aS0 (Ne.symm h2)]⟩;rw[aSz hil,hR3,hR2e,<-cG ks,jW _ _ _ (by simp[St.enc_cells,hmid])];simp[cN,aH,List.drop_append,hmid,St.enc_cells]
 ·
  have gl:decide (((ks.length+2:Nat):Int)>(c:Int))=true:=decide_eq_true z8;refine ZT 4 (a3 y3 gl x1) ?_;refine IE (id:=id) (off:=0) (n:=ks.length+1) (c:=c) rfl (fV x1) (mL x1) z7 rfl ?_;refine ZX (a3 y3 gl x1) ?_;refine ZG (a2 gl x1) ?_;refine ZT 2 (a2 gl x1) ?_;refine nR (id:=id) (n:=ks.length+1) (c:=c) (kk:=.i64) (k:=ks.length) (mL (a2 gl x1)) rfl z7 z7 eB (fV (a2 gl x1)) (fV (a2 gl x1)) z8 ?_;refine ZU 5 (a3 y3 gl x1) ?_;refine VZ (id:=id) (n:=ks.length) (c:=c) (k:=2) (kk:=.i64) (cs:=R) hH (mL (a2 gl x1)) rfl z7 z7 (fV (a2 gl x1)) (fV (a2 gl x1)) z7 z8 (by show _*3<=_;omega) z7 (by show _*48<=_;omega) z8 eB Tryz.underlying3 tY rfl ?_;intro c1 rest1 hcc1 hcc2 hrest1;have hT:R.take (ks.length*3)=aH (ks.map St.enc):=by rw[hR,<-cG ks,List.take_left]
  rw[show ks.length*(Prod.snd (67,TI.mk true 3 48)).sz=ks.length*3 from rfl,hT];replace hrest1:rest1.length=(c1-ks.length)*3:=hrest1;have hn1:(H0++ [AObj.row (aH (ks.map St.enc)++rest1)])[H0.length]? =some (.row (aH (ks.map St.enc)++rest1)):=z6
  have hv1:(H0++ [AObj.row (aH (ks.map St.enc)++rest1)])[vid]? =some (.row tc):=by rw[aSv hvl];exact hv
  refine ZX (a2 gl x1) ?_;refine ZL [0,1,2,7,9] (a2 gl x1) ?_;refine ZT 2 (a2 gl x1) ?_;refine iM (mL x1) (fJ (id:=H0.length) (n:=ks.length+2) (c:=c1) (k:=ks.length) (kk:=.i64) rfl z7 z7 eB (fV x1) (fV x1) z8 z8) ?_;refine ZU 1 (a2 gl x1) ?_;refine tC (id:=H0.length) (off:=ks.length*3) (n:=ks.length+2-ks.length) (c:=c1-ks.length) (cs:=aH (ks.map St.enc)++rest1) (src:=t.enc.cells) hn1 (mL (a2 gl x1)) rfl z7 z7 (fV (a2 gl x1)) eB (λE v ho hE hv=>by
   have hv':aL E.view v (.msl vid (0) (1) (1)):=by have:=hv;simp only[kC,seval,aB,qC,oO,oL,gw,gw1,gw2,g2,hH,hv,gl]at this;exact this
   obtain⟨ad,rfl,arrs,r1,r2⟩:=yN (P:=Tryz.prog) (k:=1) (sz:=3) ho (by rw[hE];exact hv1) z8 hv';exact⟨_,ad,_,rfl,arrs,by rw[show Nat.min (1) (ks.length+2-ks.length)=1 from by(try simp[Nat.min_def])<;>(try omega)];exact r1,by rw[aUh,aUf z8]at r2;have r3:=OD r2;rw[htc]at r3;exact r3⟩) (by simp[St.enc_cells,PV.isCell]) (by simp[cG,St.enc_cells];omega) ?_
  rw[<-cG ks,jW _ _ _ (by simp[St.enc_cells];omega),cG];rw[show ∀o,(H0++ [AObj.row (aH (ks.map St.enc)++rest1)]).set H0.length o=H0++ [o]from λo=>z6];obtain⟨RA,hRA⟩:∃RA,RA=aH (ks.map St.enc)++t.enc.cells++rest1.drop t.enc.cells.length:=⟨_,rfl⟩;rw[<-hRA];have lRA:RA.length=c1*3:=by rw[hRA];simp[cG,St.enc_cells];omega
  have hn2:(H0++ [AObj.row RA])[H0.length]? =some (.row RA):=z6
  have hH2:(H0++ [AObj.row RA])[id]? =some (.row R):=by rw[aSv hil];exact hH
  have hx3:(R.drop (ks.length*3)).take (1*3)=x.enc.cells:=by rw[hR,<-cG ks,List.drop_left,List.take_append_of_le_length (by simp[St.enc_cells]),aUf (by simp[St.enc_cells])]
  refine oN ?_;refine wQ ?_;refine eK 0 (by kernel_rfl) ?_;refine gM 8 (bm:= [0,0,0,6,15,0,0,96,255]) (by kernel_rfl) z7 (by kernel_rfl) (by kernel_rfl) ?_;refine AZ 4 (a3 y3 gl x1) ?_;refine rP (Ze (a2 gl x1)) (by rfl) (fJ (id:=H0.length) (n:=ks.length+2) (c:=c1) (k:=ks.length+1) (kk:=.i64) rfl z7 z7 eB (fV x1) (fV x1) z8 z8) ?_;refine AZ 2 (a2 gl x1) ?_;refine rP (Ze (a2 gl x1)) (by rfl) (fJ (id:=id) (n:=ks.length+1) (c:=c) (k:=ks.length) (kk:=.i64) rfl z7 z7 eB (fV x1) (fV x1) z8 z8) ?_;refine FM (a2 gl x1) ?_;refine kK (k:=8) (bm:= [0,0,0,6,15,0,0,96,255]) (by kernel_rfl) rfl (by kernel_rfl) (by kernel_rfl) ?_;refine tC (id:=H0.length) (off:=(ks.length+1)*3) (n:=ks.length+2- (ks.length+1)) (c:=c1- (ks.length+1)) (cs:=RA) (src:=x.enc.cells) hn2 (mL (a2 gl x1)) rfl z7 z7 (fV (a2 gl x1)) eB (λE v ho hE hv=>by
   have hv':aL E.view v (.msl id (ks.length*3) (ks.length+1-ks.length) (c-ks.length)):=by have:=hv;simp only[kC,seval,aB,qC,oO,oL,gw,gw1,gw2,g2,hH,hv,gl]at this;exact this
   obtain⟨ad,rfl,arrs,r1,r2⟩:=yN (P:=Tryz.prog) (k:=1) (sz:=3) ho (by rw[hE];exact hH2) (by rw[lR];omega) hv';exact⟨_,ad,_,rfl,arrs,by rw[show Nat.min (ks.length+1-ks.length) (ks.length+2- (ks.length+1))=1 from by(try simp[Nat.min_def])<;>(try omega)];exact r1,by rw[hx3]at r2;exact r2⟩) (by simp[St.enc_cells,PV.isCell]) (by rw[lRA];simp[St.enc_cells];omega) ?_
  refine oN ?_;show kB _ _ _ _ _ _ _ _;refine fF ?_;rw[show ∀o,(H0++ [AObj.row RA]).set H0.length o=H0++ [o]from λo=>z6];obtain⟨RB,hRB⟩:∃RB,RB=cY RA ((ks.length+1)*3) x.enc.cells:=⟨_,rfl⟩;rw[<-hRB];refine ZE (a2 gl x1) ?_;refine wQ ?_;refine wT ⟨.inr rfl,_,rfl, ?_⟩;have hl6:(aH (ks.map St.enc)++t.enc.cells).length=(ks.length+1)*3:=by simp[cG,St.enc_cells];omega
  refine⟨H0.length,c1,(rest1.drop t.enc.cells.length).drop x.enc.cells.length,rfl, ?_,by simp[St.enc_cells];omega,hcc2, .inr (aSl _),z6,λj h1 h2=>by rw[aSv h1]⟩;rw[aSw (aSl _),Nat.sub_self,hRB,hRA,<-hl6,jW _ _ _ (by simp[St.enc_cells];omega)];simp[cN,aH]
def sQ(s:PS):Option PS:=match s.stack with
 | []=>none
 |f::fs=>match f.kids.getLast? with
  |none=>none
  |some x=>if f.kids.length<iB then some {s with stack:=⟨f.kind,f.kids.dropLast++ [⟨0,[],[]⟩,x]⟩::fs}else none
theorem JR{s s1:PS}(h:sQ s=some s1):∃(f:vU) (gs:List vU) (ks:List St) (x:St),s.stack=f::gs/\f.kids=ks++ [x]/\ks.length+1<iB/\s1=⟨s.pos,⟨f.kind,ks++ [⟨0,[],[]⟩,x]⟩::gs,s.flag⟩:=by
 unfold sQ at h
 split at h
 ·cases h
 ·rename_i f gs hs
  split at h
  ·cases h
  ·rename_i x hx
   split at h
   case isFalse=>cases h
   rename_i hl;cases h;have hne:f.kids≠ []:=by intro e;rw[e]at hx;cases hx
   rw[List.getLast?_eq_some_getLast hne]at hx;injection hx with hx;have hk:f.kids=f.kids.dropLast++ [x]:=by rw[<-hx];exact(List.dropLast_concat_getLast hne).symm
   exact⟨f,gs,f.kids.dropLast,x,hs,hk,by rw[hk]at hl;simpa using hl,rfl⟩
def m91(toks:List Tk)(n:Nat)(R:dP)(s0:PS):Option PS:=((R .typeParams) s0).bind λs1=>((R .typeExpr) s1).bind λs2=>((cH toks [[102,111,114]]) s2).bind λs3=>if eI (aG toks s2.pos) [[102,111,114]]=true then((R .typeExpr) s3).bind λs4=>((WA toks n R) s4).bind λs5=>some s5 else(sQ s3).bind λs4=>((WA toks n R) s4).bind λs5=>some s5
theorem aGl{toks:List Tk}{ip n:Nat}{R:dP}(IH:lD toks ip R):FG toks ip 161 [.optr ip 0] (m91 toks n R) cM:=by
 intro s0 s' F0 H0 hm p0 i0;obtain⟨⟨hg,n0a⟩,_⟩:=i0;obtain⟨st0,r0⟩:=p0.row;have hl:=aV p0.len;have f0:=Fr.refl F0 H0;have k0a:=hg;unfold m91 at hm;refine aF (N:=43) Tryz.func161 rfl rfl z6 λhb'=> ?_;obtain⟨s1,e1,hm⟩:=oB hm;refine qW 1 (a2 aJ (w2 r0 k0a)) (FG.apX (IH .typeParams) e1 p0 ⟨k0a,n0a⟩) ?_;rintro _ H1 ⟨rfl,F1,p1,g1⟩;obtain⟨f1,⟨st1,r1⟩,⟨k1a,n1a⟩⟩:=kH f0 p1 g1 k0a n0a;obtain⟨s2,e2,hm⟩:=oB hm;refine qW 1 (a2 aJ (w2 r1 k1a)) (FG.apX (IH .typeExpr) e2 p1 ⟨k1a,n1a⟩) ?_;rintro _ H2 ⟨rfl,F2,p2,g2⟩;obtain⟨f2,⟨st2,r2⟩,⟨k2a,n2a⟩⟩:=kH f1 p2 g2 k1a n1a;refine qT 2 (a4 y9 aJ fQ (w2 r2 k2a)) ?_;obtain⟨s3,e3,hm⟩:=oB hm;refine qN (w2 r2 k2a) (FN.apX (eG toks ip [[102,111,114]] z7) e3 p2) ?_;rintro _ H3 ⟨rfl,F3,p3,g3⟩;obtain⟨f3,⟨st3,r3⟩,⟨k3a,n3a⟩⟩:=kH f2 p3 g3 k2a n2a;refine qI (w2 r3 k3a) (λbt=> ?_) (λbt=> ?_)
 ·rw[fZ bt]at hm;obtain⟨s4,e4,hm⟩:=oB hm;refine qW 1 (a2 aJ (w2 r3 k3a)) (FG.apX (IH .typeExpr) e4 p3 ⟨k3a,n3a⟩) ?_;rintro _ H4 ⟨rfl,F4,p4,g4⟩;obtain⟨f4,⟨st4,r4⟩,⟨k4a,n4a⟩⟩:=kH f3 p4 g4 k3a n3a;obtain⟨s5,e5,hm⟩:=oB hm;refine qW 1 (a2 aJ (w2 r4 k4a)) (FG.apX (IV (n:=n) IH) e5 p4 ⟨k4a,n4a⟩) ?_;rintro _ H5 ⟨rfl,F5,p5,g5⟩;obtain⟨f5,⟨st5,r5⟩,⟨k5a,n5a⟩⟩:=kH f4 p5 g5 k4a n4a;refine dL ?_;injection hm with hm;subst hm;exact bJ p5 f5
 ·rw[gI bt]at hm;obtain⟨s4,e4,hm⟩:=oB hm;obtain⟨ft,gs,ks,xl,hs,hkids,hkl,hsm⟩:=JR e4;obtain⟨is0,c0,R0,ids0,cid0,cv0,cells00,rest0,sp⟩:=p3.split hs;have h1:=sp.h1;have h2:=sp.h2;have h3:=sp.h3;have h4:=sp.h4;have h5:=sp.h5;have hch:=sp.ch;rw[hkids]at hch;obtain⟨ic,cc,crest,hcv,hcid,hic,hcc,hccm⟩:=hch.msl_inv;have hmx:maxLen=9223372036854775807:=z7
  have hip:=lG h1;have his:=lG h2;have hicl:=lG hic;have gw:IntKind.i64.wrap (((gs.length+1:Nat):Int) -1)=((gs.length:Nat):Int):=by rw[aY z8 z8];omega
  have gi:=bS (n:=gs.length+1) (i:=gs.length) z8;have gw2:IntKind.i64.wrap (((ks.length+1:Nat):Int) -1)=((ks.length:Nat):Int):=by rw[aY z8 z8];omega
  have gR2:R0[gs.length*3+2]? =some (.msl ic 0 (ks.length+1) cc):=by
   have:=congrArg (λz=>z[2]?) sp.top;simp only[List.getElem?_take,List.getElem?_drop]at this;rw[<-hcv];simpa using this
  have bR2:(gs.length*3+2+1<=R0.length)=True:=by simp;omega
  have nic:ic≠is0:=λe=>sp.hi2 (by rw[hcid];simp[e]);have nis:∀k,(is0=H3.length+k)=False:=λk=>by simp;omega
  have hst:st3= .msl is0 0 (gs.length+1) c0:=by
   have h:=r3;rw[h1]at h;simp only[Option.some.injEq,AObj.row.injEq,List.cons.injEq,and_true,true_and]at h;exact h.symm
  refine wQ ?_;refine dA (by kernel_rfl) ?_;have x1:=a5 r3 hst nis h2 (a5 hic gw gi gw2 (a2 gR2 bR2));refine pX (a5 y3 nG dM aJ (a3 gF tN x1)) ?_;refine qE (a5 y3 nG dM aJ (a3 gF tN x1)) ?_;refine qT 7 (a5 y3 nG dM aJ (a3 gF tN x1)) ?_;refine NV (t:=65) (n:=1) (es:= [.agg [.int .i64 0, .str [], .slice [] .full]]) (by simp only[kC,seval,aB,qC]) rfl z7 eB tY rfl z7 z7 z7 (by simp only[kC,seval,aB,qC,iF,dM,fS,fR]<;>first|done|rfl) ?_;have nsl:(ks++ [(⟨0,[],[]⟩:St),xl]).length=ks.length+2:=z6
  refine qA (a5 r3 hst nis h2 (a2 hic gR2)) aNx (aA9 (id:=ic) (vid:=H3.length) (c:=cc) (ks:=ks) (x:=xl) (t:=⟨0,[],[]⟩) (rest:=crest) (tc:= [.int .i64 0, .str [], .slice [] .full]) (aA hic _) hcc hccm hkl (by simp[aH,PV.cells]) rfl z8) ?_;rintro _ H4 ⟨ic',c',rest',rfl,k1,k2,k3,k4,k5,k6⟩;have hne4:is0<(H3++ [AObj.row (aH [PV.agg [.int .i64 0, .str [], .slice [] .full]])]).length:=by simp;omega
  have h24:H4[is0]? =some (.row R0):=by rw[k6 is0 (by simp;omega) (Ne.symm nic),aSv his];exact h2
  have ns4:(is0=H4.length)=False:=by have:=lG h24;simp;omega
  refine qX (a5 nG dM h24 bR2 (a2 tN ns4)) ?_;refine bG (λH5=>∃F5,eJ toks ip s4 F5 H5/\Fr F0 F5 H0 H5/\(H5[0]? =some (gO)/\(0)∉F5)) ?_ ?_
  ·have hl4:H3.length+1<=H4.length:=by simpa using k5
   have hin:is0≠ic':=by
    rcases k4 with rfl|k4
    ·exact Ne.symm nic
    ·simp at k4;omega
   obtain⟨q1,q2⟩:=sp.retop (H3:=H4.set is0 (.row (R0.set (gs.length*3+2) (.msl ic' 0 (ks.length+2) c')))) (kids':=ks++ [⟨0,[],[]⟩,xl]) (cid':= [ic']) (by simp;omega) (aSz z8) (λj hj hn hm=>by
    rw[aS0 (Ne.symm hn),k6 j (by simp;omega) (by rintro rfl;exact hm (by rw[hcid];simp)),aSv hj]) (oA.of nsl (by rw[aS0 hin];exact k1) k2 k3) (λi hi=>by
     rw[aT2]at hi;subst hi;rcases k4 with rfl|k4
     ·exact .inl (by rw[hcid];simp)
     ·exact .inr (by simp at k4;omega))
   exact⟨_,by rw[hsm];exact q1,f3.trans q2,q2.get k3a n3a⟩
  rintro H5 ⟨F5,p5,f5,⟨k5a,n5a⟩⟩;obtain⟨st5,r5⟩:=p5.row;obtain⟨s6,e6,hm⟩:=oB hm;refine qW 1 (a2 aJ (w2 r5 k5a)) (FG.apX (IV (n:=n) IH) e6 p5 ⟨k5a,n5a⟩) ?_;rintro _ H6 ⟨rfl,F6,p6,g6⟩;obtain⟨f6,⟨st6,r6⟩,⟨k6a,n6a⟩⟩:=kH f5 p6 g6 k5a n5a;refine dL ?_;injection hm with hm;subst hm;exact bJ p6 f6
def m96(toks:List Tk)(n:Nat)(R:dP)(s0:PS):Option PS:=((cJ toks) s0).bind λs1=>(dO (λs2=>(!decide ((aG toks s2.pos).kind=100)&& !eI (aG toks s2.pos) AA)) (λs2=>((cJ toks) s2).bind λs3=>some s3) n s1).bind λs2=>some s2
theorem aOk{toks:List Tk}{ip n:Nat}{R:dP}(IH:lD toks ip R)(b0:Nat):FC Tryz.prog toks ip 153 [.optr b0 0] (m96 toks n R) cM (eW [(0,gO),(b0, .row [.optr ip 0])]):=by
 refine eN λs0 s' F0 H0 hm p0 i0=> ?_;obtain⟨⟨k0a,n0a⟩,⟨k0b,n0b⟩,_⟩:=i0;obtain⟨st0,r0⟩:=p0.row;have hl:=aV p0.len;have f0:=Fr.refl F0 H0;unfold m96 at hm;refine aF (N:=14) Tryz.func153 rfl rfl z6 λhb'=> ?_;refine qT 1 (a2 aJ (w3 r0 k0a k0b)) ?_;obtain⟨s1,e1,hm⟩:=oB hm;refine qN (w3 r0 k0a k0b) (FN.apX (cC toks ip) e1 p0) ?_;rintro _ H1 ⟨rfl,F1,p1,g1⟩;obtain⟨f1,⟨st1,r1⟩,⟨k1a,n1a⟩,⟨k1b,n1b⟩⟩:=iN f0 p1 g1 k0a n0a k0b n0b;have q1:=aA r1;have b1a:=aA k1a;have b1b:=aA k1b;refine wQ ?_;obtain⟨sL2,eL2,hm⟩:=oB hm;have hmo2:=hm;clear hm;refine fB ?_;refine eC (σ:=Nat×PS×List Nat) (λ(z:Nat×PS×List Nat)=> [(0, .optr (b0) 0),(1, .optr ip 0)]) (λ(z:Nat×PS×List Nat)=>λH2=>dO (λs2=>(!decide ((aG toks s2.pos).kind=100)&& !eI (aG toks s2.pos) AA)) (λs2=>((cJ toks) s2).bind λs3=>some s3) z.1 z.2.1=some sL2/\eJ toks ip z.2.1 z.2.2 H2/\Fr F0 z.2.2 H0 H2/\(H2[0]? =some (gO)/\(0)∉z.2.2)/\(H2[b0]? =some (.row [.optr ip 0])/\(b0)∉z.2.2)) (λ(z:Nat×PS×List Nat)=>z.1) ((n,s1,F1)) ⟨(Zf (a5 r1 q1 k1a b1a (a2 k1b b1b))),(Zf (a5 r1 q1 k1a b1a (a2 k1b b1b))),trivial⟩ (⟨eL2,(by first|exact p1|exact p1.app _|exact p1.flg false),(by first|exact f1|exact f1.app _),⟨(by first|exact k1a|exact b1a _),n1a⟩,⟨(by first|exact k1b|exact b1b _),n1b⟩⟩) ?_;intro z H2 hg;obtain⟨k2,s2,F2⟩:=z;obtain⟨hk2,p2,f2,⟨k2a,n2a⟩,⟨k2b,n2b⟩⟩:=hg;simp only at hk2 p2 f2 k2a n2a k2b n2b;obtain⟨st2,r2⟩:=p2.row;have b2a:=aA k2a;cases k2 with
 |zero=>cases hk2
 |succ k2=> ?_
 refine wQ ?_;refine dA (by kernel_rfl) ?_;refine pT 1 (a2 aJ (w3 r2 k2a k2b)) ?_;have x1:=w3 r2 k2a k2b;refine pK x1 TC (λhc=>CA (mB r2) hl p2.pos) ?_;refine pT 3 (a2 aJ (w3 r2 k2a k2b)) ?_;refine pK x1 PR (λhc=>pY (by first|exact k2a|exact b2a _)) ?_;refine pK x1 dJ (λhc=>fM (mB r2) hl p2.pos (AA) z7) ?_;refine pX x1 ?_;refine qI x1 (λbt11=> ?_) (λbt11=> ?_)
 ·
  unfold dO at hk2;rw[fZ bt11]at hk2;obtain⟨sB2,hm,hk2⟩:=oB hk2;refine qK ?_;refine qB ?_;refine qT 1 (a2 aJ (w3 r2 k2a k2b)) ?_;obtain⟨s3,e3,hm⟩:=oB hm;refine qN x1 (FN.apX (cC toks ip) e3 p2) ?_;rintro _ H3 ⟨rfl,F3,p3,g3⟩;obtain⟨f3,⟨st3,r3⟩,⟨k3a,n3a⟩,⟨k3b,n3b⟩⟩:=iN f2 p3 g3 k2a n2a k2b n2b
  try simp only[aW,aO]
  injection hm with hm;subst hm;exact⟨(k2,_,F3),aT9 _,⟨rfl,rfl,trivial⟩,hk2,p3,f3,⟨k3a,n3a⟩,⟨k3b,n3b⟩⟩
 ·
  unfold dO at hk2;rw[gI bt11]at hk2;injection hk2 with hk2;subst hk2;have hm:=hmo2;refine wQ ?_;refine bD ?_;simp only[aW,aO,reduceIte,Nat.reduceEqDiff,aUb,if_true,if_false];refine dL ?_;injection hm with hm;subst hm;exact bJ p2 f2
def m77(toks:List Tk)(n:Nat)(R:dP)(s0:PS):Option PS:=((cF 46 (m96 toks n R)) s0).bind λs1=>some s1
theorem GS{toks:List Tk}{ip n:Nat}{R:dP}(IH:lD toks ip R):FG toks ip 96 [.optr ip 0] (m77 toks n R) cM:=by
 intro s0 s' F0 H0 hm p0 i0;obtain⟨⟨hg,n0a⟩,_⟩:=i0;obtain⟨st0,r0⟩:=p0.row;have q0:=aA r0;have hl:=aV p0.len;have f0:=Fr.refl F0 H0;have k0a:=aA hg [.row [.optr ip 0]];have b0a:=aA k0a;have k0b:(H0++ [.row [.optr ip 0]])[H0.length]? =some (.row [.optr ip 0]):=z6
 have n0b:=p0.new0;have b0b:=aA k0b;unfold m77 at hm;refine aF (N:=5) Tryz.func96 rfl rfl z6 λhb'=> ?_;refine qE (a4 aJ r0 q0 hg) ?_;refine qT 2 (a4 aJ r0 q0 hg) ?_;obtain⟨s1,e1,hm⟩:=oB hm;refine qN (a2 hg (w1 r0)) (FC.apX (cP toks ip 46 153 [] [.optr (H0.length) 0] aLa (dS [(0,gO),(H0.length, .row [.optr ip 0])]) (aOk (n:=n) IH (H0.length))) e1 p0 ⟨⟨k0a,n0a⟩,⟨k0b,n0b⟩,trivial⟩) ?_;rintro _ H1 ⟨rfl,F1,p1,g1⟩;have f1:=f0.stX g1;obtain⟨st1,r1⟩:=p1.row;have q1:=aA r1;obtain⟨k1a,n1a⟩:=g1.gtX k0a n0a;have b1a:=aA k1a;obtain⟨k1b,n1b⟩:=g1.gtX k0b n0b;have b1b:=aA k1b;refine dL ?_;injection hm with hm;subst hm;exact bJ p1 f1
def m82(toks:List Tk)(n:Nat)(R:dP)(k:Int)(s0:PS):Option PS:=if decide (k=2)=true then(((m86 toks n) s0).bind λs1=>some s1)else(if decide (k=3)=true then(((R (.function true)) s0).bind λs1=>some s1)else(if decide (k=4)=true then(if decide (k=4)=true then(((aEv toks n R (k)) s0).bind λs1=>some s1)else(if decide (k=6)=true then(((bK toks) s0).bind λs1=>((WA toks n R) s1).bind λs2=>some s2)else(if decide (k=7)=true then(((m91 toks n R) s0).bind λs1=>some s1)else(if decide (k=8)=true then(((bK toks) s0).bind λs1=>((bP toks [58]) s1).bind λs2=>((R .typeExpr) s2).bind λs3=>((bP toks [61]) s3).bind λs4=>((R .expr) s4).bind λs5=>((bP toks [59]) s5).bind λs6=>some s6)else(if decide (k=9)=true then(((bK toks) s0).bind λs1=>((bP toks [40]) s1).bind λs2=>((R (.params ([41]))) s2).bind λs3=>((bP toks [61]) s3).bind λs4=>((R .expr) s4).bind λs5=>((bP toks [59]) s5).bind λs6=>some s6)else(some s0))))))else(if decide (k=5)=true then(((aEv toks n R (k)) s0).bind λs1=>some s1)else(if decide (k=6)=true then(((bK toks) s0).bind λs1=>((WA toks n R) s1).bind λs2=>some s2)else(if decide (k=7)=true then(((m91 toks n R) s0).bind λs1=>some s1)else(if decide (k=8)=true then(((bK toks) s0).bind λs1=>((bP toks [58]) s1).bind λs2=>((R .typeExpr) s2).bind λs3=>((bP toks [61]) s3).bind λs4=>((R .expr) s4).bind λs5=>((bP toks [59]) s5).bind λs6=>some s6)else(if decide (k=9)=true then(((bK toks) s0).bind λs1=>((bP toks [40]) s1).bind λs2=>((R (.params ([41]))) s2).bind λs3=>((bP toks [61]) s3).bind λs4=>((R .expr) s4).bind λs5=>((bP toks [59]) s5).bind λs6=>some s6)else(some s0))))))))
theorem aP0{toks:List Tk}{ip n:Nat}{R:dP}(IH:lD toks ip R)(k:Int):FG toks ip 101 [.optr ip 0, .int .i64 k] (m82 toks n R k) (CD (.itemBody k)):=by
 intro s0 s' F0 H0 hm p0 i0;obtain⟨⟨hg,n0a⟩,_⟩:=i0;obtain⟨st0,r0⟩:=p0.row;have hl:=aV p0.len;have f0:=Fr.refl F0 H0;have k0a:=hg;unfold m82 at hm;refine aF (N:=57) Tryz.func101 rfl rfl z6 λhb'=> ?_;refine qE (w2 r0 k0a) ?_;refine qB ?_;refine qE (a2 y3 (w2 r0 k0a)) ?_;refine qI (w2 r0 k0a) (λbt5=> ?_) (λbt5=> ?_)
 ·
  rw[fZ bt5]at hm;obtain⟨s1,e1,hm⟩:=oB hm;refine qW 1 (w2 r0 k0a) (FG.apX (aOn (n:=n)) e1 p0 ⟨k0a,n0a⟩) ?_;rintro _ H1 ⟨rfl,F1,p1,g1⟩;obtain⟨f1,⟨st1,r1⟩,⟨k1a,n1a⟩⟩:=kH f0 p1 g1 k0a n0a;refine dL ?_;injection hm with hm;subst hm;exact bJ p1 f1
 ·
  rw[gI bt5]at hm;refine qE (a2 y3 (w2 r0 k0a)) ?_;refine qI (w2 r0 k0a) (λbt9=> ?_) (λbt9=> ?_)
  ·
   rw[fZ bt9]at hm;obtain⟨s1,e1,hm⟩:=oB hm;refine qW 1 (w2 r0 k0a) (FG.apX (IH (.function true)) e1 p0 ⟨k0a,n0a⟩) ?_;rintro _ H1 ⟨rfl,F1,p1,g1⟩;obtain⟨f1,⟨st1,r1⟩,⟨k1a,n1a⟩⟩:=kH f0 p1 g1 k0a n0a;refine dL ?_;injection hm with hm;subst hm;exact bJ p1 f1
  ·
   rw[gI bt9]at hm;refine qE (a2 y3 (w2 r0 k0a)) ?_;refine qI (w2 r0 k0a) (λbt13=> ?_) (λbt13=> ?_)
   ·
    rw[fZ bt13]at hm;refine qK ?_;refine qI (w2 r0 k0a) (λbt13=> ?_) (λbt13=> ?_)
    ·
     rw[fZ bt13]at hm;obtain⟨s1,e1,hm⟩:=oB hm;refine qW 2 (w2 r0 k0a) (FG.apX (aBf (n:=n) IH (k)) e1 p0 ⟨k0a,n0a⟩) ?_;rintro _ H1 ⟨rfl,F1,p1,g1⟩;obtain⟨f1,⟨st1,r1⟩,⟨k1a,n1a⟩⟩:=kH f0 p1 g1 k0a n0a;refine dL ?_;injection hm with hm;subst hm;exact bJ p1 f1
    ·
     rw[gI bt13]at hm;refine qE (a2 y3 (w2 r0 k0a)) ?_;refine qI (w2 r0 k0a) (λbt19=> ?_) (λbt19=> ?_)
     ·
      rw[fZ bt19]at hm;obtain⟨s1,e1,hm⟩:=oB hm;refine qW 1 (w2 r0 k0a) (FN.apX (cI toks ip) e1 p0) ?_;rintro _ H1 ⟨rfl,F1,p1,g1⟩;obtain⟨f1,⟨st1,r1⟩,⟨k1a,n1a⟩⟩:=kH f0 p1 g1 k0a n0a;obtain⟨s2,e2,hm⟩:=oB hm;refine qW 1 (w2 r1 k1a) (FG.apX (IV (n:=n) IH) e2 p1 ⟨k1a,n1a⟩) ?_;rintro _ H2 ⟨rfl,F2,p2,g2⟩;obtain⟨f2,⟨st2,r2⟩,⟨k2a,n2a⟩⟩:=kH f1 p2 g2 k1a n1a;refine dL ?_;injection hm with hm;subst hm;exact bJ p2 f2
     ·
      rw[gI bt19]at hm;refine qE (a2 y3 (w2 r0 k0a)) ?_;refine qI (w2 r0 k0a) (λbt25=> ?_) (λbt25=> ?_)
      ·
       rw[fZ bt25]at hm;obtain⟨s1,e1,hm⟩:=oB hm;refine qW 1 (w2 r0 k0a) (FG.apX (aGl (n:=n) IH) e1 p0 ⟨k0a,n0a⟩) ?_;rintro _ H1 ⟨rfl,F1,p1,g1⟩;obtain⟨f1,⟨st1,r1⟩,⟨k1a,n1a⟩⟩:=kH f0 p1 g1 k0a n0a;refine dL ?_;injection hm with hm;subst hm;exact bJ p1 f1
      ·
       rw[gI bt25]at hm;refine qE (a2 y3 (w2 r0 k0a)) ?_;refine qI (w2 r0 k0a) (λbt29=> ?_) (λbt29=> ?_)
       ·
        rw[fZ bt29]at hm;obtain⟨s1,e1,hm⟩:=oB hm;refine qW 1 (w2 r0 k0a) (FN.apX (cI toks ip) e1 p0) ?_;rintro _ H1 ⟨rfl,F1,p1,g1⟩;obtain⟨f1,⟨st1,r1⟩,⟨k1a,n1a⟩⟩:=kH f0 p1 g1 k0a n0a;refine qL [0] (w2 r1 k1a) ?_;obtain⟨s2,e2,hm⟩:=oB hm;refine qW 1 (w2 r1 k1a) (FN.apX (bL toks ip [58]) e2 p1) ?_;rintro _ H2 ⟨rfl,F2,p2,g2⟩;obtain⟨f2,⟨st2,r2⟩,⟨k2a,n2a⟩⟩:=kH f1 p2 g2 k1a n1a;obtain⟨s3,e3,hm⟩:=oB hm;refine qW 1 (w2 r2 k2a) (FG.apX (IH .typeExpr) e3 p2 ⟨k2a,n2a⟩) ?_;rintro _ H3 ⟨rfl,F3,p3,g3⟩;obtain⟨f3,⟨st3,r3⟩,⟨k3a,n3a⟩⟩:=kH f2 p3 g3 k2a n2a;obtain⟨s4,e4,hm⟩:=oB hm;refine qW 1 (w2 r3 k3a) (FN.apX (bL toks ip [61]) e4 p3) ?_;rintro _ H4 ⟨rfl,F4,p4,g4⟩;obtain⟨f4,⟨st4,r4⟩,⟨k4a,n4a⟩⟩:=kH f3 p4 g4 k3a n3a;obtain⟨s5,e5,hm⟩:=oB hm;refine qW 1 (w2 r4 k4a) (FG.apX (IH .expr) e5 p4 ⟨k4a,n4a⟩) ?_;rintro _ H5 ⟨rfl,F5,p5,g5⟩;obtain⟨f5,⟨st5,r5⟩,⟨k5a,n5a⟩⟩:=kH f4 p5 g5 k4a n4a;obtain⟨s6,e6,hm⟩:=oB hm;refine qW 1 (w2 r5 k5a) (FN.apX (bL toks ip [59]) e6 p5) ?_;rintro _ H6 ⟨rfl,F6,p6,g6⟩;obtain⟨f6,⟨st6,r6⟩,⟨k6a,n6a⟩⟩:=kH f5 p6 g6 k5a n5a;refine dL ?_;injection hm with hm;subst hm;exact bJ p6 f6
       ·
        rw[gI bt29]at hm;refine qE (a2 y3 (w2 r0 k0a)) ?_;refine qI (w2 r0 k0a) (λbt43=> ?_) (λbt43=> ?_)
        ·
         rw[fZ bt43]at hm;refine qL [0] (w2 r0 k0a) ?_;obtain⟨s1,e1,hm⟩:=oB hm;refine qW 1 (w2 r0 k0a) (FN.apX (cI toks ip) e1 p0) ?_;rintro _ H1 ⟨rfl,F1,p1,g1⟩;obtain⟨f1,⟨st1,r1⟩,⟨k1a,n1a⟩⟩:=kH f0 p1 g1 k0a n0a;obtain⟨s2,e2,hm⟩:=oB hm;refine qW 1 (w2 r1 k1a) (FN.apX (bL toks ip [40]) e2 p1) ?_;rintro _ H2 ⟨rfl,F2,p2,g2⟩;obtain⟨f2,⟨st2,r2⟩,⟨k2a,n2a⟩⟩:=kH f1 p2 g2 k1a n1a;obtain⟨s3,e3,hm⟩:=oB hm;refine qW 1 (w2 r2 k2a) (FG.apX (IH (.params ([41]))) e3 p2 ⟨k2a,n2a⟩) ?_;rintro _ H3 ⟨rfl,F3,p3,g3⟩;obtain⟨f3,⟨st3,r3⟩,⟨k3a,n3a⟩⟩:=kH f2 p3 g3 k2a n2a;obtain⟨s4,e4,hm⟩:=oB hm;refine qW 1 (w2 r3 k3a) (FN.apX (bL toks ip [61]) e4 p3) ?_;rintro _ H4 ⟨rfl,F4,p4,g4⟩;obtain⟨f4,⟨st4,r4⟩,⟨k4a,n4a⟩⟩:=kH f3 p4 g4 k3a n3a;obtain⟨s5,e5,hm⟩:=oB hm;refine qW 1 (w2 r4 k4a) (FG.apX (IH .expr) e5 p4 ⟨k4a,n4a⟩) ?_;rintro _ H5 ⟨rfl,F5,p5,g5⟩;obtain⟨f5,⟨st5,r5⟩,⟨k5a,n5a⟩⟩:=kH f4 p5 g5 k4a n4a;obtain⟨s6,e6,hm⟩:=oB hm;refine qW 1 (w2 r5 k5a) (FN.apX (bL toks ip [59]) e6 p5) ?_;rintro _ H6 ⟨rfl,F6,p6,g6⟩;obtain⟨f6,⟨st6,r6⟩,⟨k6a,n6a⟩⟩:=kH f5 p6 g6 k5a n5a;refine dL ?_;injection hm with hm;subst hm;exact bJ p6 f6
        ·
         rw[gI bt43]at hm;refine qK ?_;refine dL ?_;injection hm with hm;subst hm;exact bJ p0 f0
   ·
    rw[gI bt13]at hm;refine qE (a2 y3 (w2 r0 k0a)) ?_;refine qI (w2 r0 k0a) (λbt13=> ?_) (λbt13=> ?_)
    ·
     rw[fZ bt13]at hm;obtain⟨s1,e1,hm⟩:=oB hm;refine qW 2 (w2 r0 k0a) (FG.apX (aBf (n:=n) IH (k)) e1 p0 ⟨k0a,n0a⟩) ?_;rintro _ H1 ⟨rfl,F1,p1,g1⟩;obtain⟨f1,⟨st1,r1⟩,⟨k1a,n1a⟩⟩:=kH f0 p1 g1 k0a n0a;refine dL ?_;injection hm with hm;subst hm;exact bJ p1 f1
    ·
     rw[gI bt13]at hm;refine qE (a2 y3 (w2 r0 k0a)) ?_;refine qI (w2 r0 k0a) (λbt19=> ?_) (λbt19=> ?_)
     ·
      rw[fZ bt19]at hm;obtain⟨s1,e1,hm⟩:=oB hm;refine qW 1 (w2 r0 k0a) (FN.apX (cI toks ip) e1 p0) ?_;rintro _ H1 ⟨rfl,F1,p1,g1⟩;obtain⟨f1,⟨st1,r1⟩,⟨k1a,n1a⟩⟩:=kH f0 p1 g1 k0a n0a;obtain⟨s2,e2,hm⟩:=oB hm;refine qW 1 (w2 r1 k1a) (FG.apX (IV (n:=n) IH) e2 p1 ⟨k1a,n1a⟩) ?_;rintro _ H2 ⟨rfl,F2,p2,g2⟩;obtain⟨f2,⟨st2,r2⟩,⟨k2a,n2a⟩⟩:=kH f1 p2 g2 k1a n1a;refine dL ?_;injection hm with hm;subst hm;exact bJ p2 f2
     ·
      rw[gI bt19]at hm;refine qE (a2 y3 (w2 r0 k0a)) ?_;refine qI (w2 r0 k0a) (λbt25=> ?_) (λbt25=> ?_)
      ·
       rw[fZ bt25]at hm;obtain⟨s1,e1,hm⟩:=oB hm;refine qW 1 (w2 r0 k0a) (FG.apX (aGl (n:=n) IH) e1 p0 ⟨k0a,n0a⟩) ?_;rintro _ H1 ⟨rfl,F1,p1,g1⟩;obtain⟨f1,⟨st1,r1⟩,⟨k1a,n1a⟩⟩:=kH f0 p1 g1 k0a n0a;refine dL ?_;injection hm with hm;subst hm;exact bJ p1 f1
      ·
       rw[gI bt25]at hm;refine qE (a2 y3 (w2 r0 k0a)) ?_;refine qI (w2 r0 k0a) (λbt29=> ?_) (λbt29=> ?_)
       ·
        rw[fZ bt29]at hm;refine qL [0] (w2 r0 k0a) ?_;obtain⟨s1,e1,hm⟩:=oB hm;refine qW 1 (w2 r0 k0a) (FN.apX (cI toks ip) e1 p0) ?_;rintro _ H1 ⟨rfl,F1,p1,g1⟩;obtain⟨f1,⟨st1,r1⟩,⟨k1a,n1a⟩⟩:=kH f0 p1 g1 k0a n0a;obtain⟨s2,e2,hm⟩:=oB hm;refine qW 1 (w2 r1 k1a) (FN.apX (bL toks ip [58]) e2 p1) ?_;rintro _ H2 ⟨rfl,F2,p2,g2⟩;obtain⟨f2,⟨st2,r2⟩,⟨k2a,n2a⟩⟩:=kH f1 p2 g2 k1a n1a;obtain⟨s3,e3,hm⟩:=oB hm;refine qW 1 (w2 r2 k2a) (FG.apX (IH .typeExpr) e3 p2 ⟨k2a,n2a⟩) ?_;rintro _ H3 ⟨rfl,F3,p3,g3⟩;obtain⟨f3,⟨st3,r3⟩,⟨k3a,n3a⟩⟩:=kH f2 p3 g3 k2a n2a;obtain⟨s4,e4,hm⟩:=oB hm;refine qW 1 (w2 r3 k3a) (FN.apX (bL toks ip [61]) e4 p3) ?_;rintro _ H4 ⟨rfl,F4,p4,g4⟩;obtain⟨f4,⟨st4,r4⟩,⟨k4a,n4a⟩⟩:=kH f3 p4 g4 k3a n3a;obtain⟨s5,e5,hm⟩:=oB hm;refine qW 1 (w2 r4 k4a) (FG.apX (IH .expr) e5 p4 ⟨k4a,n4a⟩) ?_;rintro _ H5 ⟨rfl,F5,p5,g5⟩;obtain⟨f5,⟨st5,r5⟩,⟨k5a,n5a⟩⟩:=kH f4 p5 g5 k4a n4a;obtain⟨s6,e6,hm⟩:=oB hm;refine qW 1 (w2 r5 k5a) (FN.apX (bL toks ip [59]) e6 p5) ?_;rintro _ H6 ⟨rfl,F6,p6,g6⟩;obtain⟨f6,⟨st6,r6⟩,⟨k6a,n6a⟩⟩:=kH f5 p6 g6 k5a n5a;refine dL ?_;injection hm with hm;subst hm;exact bJ p6 f6
       ·
        rw[gI bt29]at hm;refine qL [0,4] (w2 r0 k0a) ?_;refine qE (a2 y3 (w2 r0 k0a)) ?_;refine qI (w2 r0 k0a) (λbt43=> ?_) (λbt43=> ?_)
        ·
         rw[fZ bt43]at hm;obtain⟨s1,e1,hm⟩:=oB hm;refine qW 1 (w2 r0 k0a) (FN.apX (cI toks ip) e1 p0) ?_;rintro _ H1 ⟨rfl,F1,p1,g1⟩;obtain⟨f1,⟨st1,r1⟩,⟨k1a,n1a⟩⟩:=kH f0 p1 g1 k0a n0a;obtain⟨s2,e2,hm⟩:=oB hm;refine qW 1 (w2 r1 k1a) (FN.apX (bL toks ip [40]) e2 p1) ?_;rintro _ H2 ⟨rfl,F2,p2,g2⟩;obtain⟨f2,⟨st2,r2⟩,⟨k2a,n2a⟩⟩:=kH f1 p2 g2 k1a n1a;obtain⟨s3,e3,hm⟩:=oB hm;refine qW 1 (w2 r2 k2a) (FG.apX (IH (.params ([41]))) e3 p2 ⟨k2a,n2a⟩) ?_;rintro _ H3 ⟨rfl,F3,p3,g3⟩;obtain⟨f3,⟨st3,r3⟩,⟨k3a,n3a⟩⟩:=kH f2 p3 g3 k2a n2a;obtain⟨s4,e4,hm⟩:=oB hm;refine qW 1 (w2 r3 k3a) (FN.apX (bL toks ip [61]) e4 p3) ?_;rintro _ H4 ⟨rfl,F4,p4,g4⟩;obtain⟨f4,⟨st4,r4⟩,⟨k4a,n4a⟩⟩:=kH f3 p4 g4 k3a n3a;obtain⟨s5,e5,hm⟩:=oB hm;refine qW 1 (w2 r4 k4a) (FG.apX (IH .expr) e5 p4 ⟨k4a,n4a⟩) ?_;rintro _ H5 ⟨rfl,F5,p5,g5⟩;obtain⟨f5,⟨st5,r5⟩,⟨k5a,n5a⟩⟩:=kH f4 p5 g5 k4a n4a;obtain⟨s6,e6,hm⟩:=oB hm;refine qW 1 (w2 r5 k5a) (FN.apX (bL toks ip [59]) e6 p5) ?_;rintro _ H6 ⟨rfl,F6,p6,g6⟩;obtain⟨f6,⟨st6,r6⟩,⟨k6a,n6a⟩⟩:=kH f5 p6 g6 k5a n5a;refine dL ?_;injection hm with hm;subst hm;exact bJ p6 f6
        ·
         rw[gI bt43]at hm;refine qK ?_;refine dL ?_;injection hm with hm;subst hm;exact bJ p0 f0
def m79(toks:List Tk)(n:Nat)(R:dP)(k:Int)(s0:PS):Option PS:=((cH toks [[112,117,98]]) s0).bind λs1=>((cJ toks) s1).bind λs2=>((R (.itemBody (k))) s2).bind λs3=>some s3
theorem aGq{toks:List Tk}{ip n:Nat}{R:dP}(IH:lD toks ip R)(b0 b1:Nat)(k:Int):FC Tryz.prog toks ip 98 [.optr b0 0, .optr b1 0] (m79 toks n R k) cM (eW [(0,gO),(b0, .row [.optr ip 0]),(b1, .row [.int .i64 k])]):=by
 refine eN λs0 s' F0 H0 hm p0 i0=> ?_;obtain⟨⟨k0a,n0a⟩,⟨k0b,n0b⟩,⟨k0c,n0c⟩,_⟩:=i0;obtain⟨st0,r0⟩:=p0.row;have hl:=aV p0.len;have f0:=Fr.refl F0 H0;unfold m79 at hm;refine aF (N:=10) Tryz.func98 rfl rfl z6 λhb'=> ?_;refine qT 2 (a4 y9 aJ fQ (w4 r0 k0a k0b k0c)) ?_;obtain⟨s1,e1,hm⟩:=oB hm;refine qN (w4 r0 k0a k0b k0c) (FN.apX (eG toks ip [[112,117,98]] z7) e1 p0) ?_;rintro _ H1 ⟨rfl,F1,p1,g1⟩;obtain⟨f1,⟨st1,r1⟩,⟨k1a,n1a⟩,⟨k1b,n1b⟩,⟨k1c,n1c⟩⟩:=KV f0 p1 g1 k0a n0a k0b n0b k0c n0c;refine qT 1 (a2 aJ (w4 r1 k1a k1b k1c)) ?_;obtain⟨s2,e2,hm⟩:=oB hm;refine qN (w4 r1 k1a k1b k1c) (FN.apX (cC toks ip) e2 p1) ?_;rintro _ H2 ⟨rfl,F2,p2,g2⟩;obtain⟨f2,⟨st2,r2⟩,⟨k2a,n2a⟩,⟨k2b,n2b⟩,⟨k2c,n2c⟩⟩:=KV f1 p2 g2 k1a n1a k1b n1b k1c n1c;refine qT 2 (a3 y3 aJ (w4 r2 k2a k2b k2c)) ?_;obtain⟨s3,e3,hm⟩:=oB hm;refine qN (w4 r2 k2a k2b k2c) (FG.apX (IH (.itemBody (k))) e3 p2 ⟨k2a,n2a⟩) ?_;rintro _ H3 ⟨rfl,F3,p3,g3⟩;obtain⟨f3,⟨st3,r3⟩,⟨k3a,n3a⟩,⟨k3b,n3b⟩,⟨k3c,n3c⟩⟩:=KV f2 p3 g3 k2a n2a k2b n2b k2c n2c;refine dL ?_;injection hm with hm;subst hm;exact bJ p3 f3
def m51(toks:List Tk)(n:Nat)(R:dP)(s0:PS):Option PS:=if eI (aG toks s0.pos) [[112,117,98]]=true then(oM toks s0).bind λsq1=>if(decide (bI (aG toks sq1.pos).text=0)|| !decide ((aG toks sq1.pos).kind=104))=true then((m77 toks n R) s0).bind λs3=>some s3 else((cF (bI (aG toks sq1.pos).text) (m79 toks n R (bI (aG toks sq1.pos).text))) s0).bind λs3=>some s3 else if(decide (bI (aG toks s0.pos).text=0)|| !decide ((aG toks s0.pos).kind=104))=true then((m77 toks n R) s0).bind λs1=>some s1 else((cF (bI (aG toks s0.pos).text) (m79 toks n R (bI (aG toks s0.pos).text))) s0).bind λs1=>some s1
theorem aOl{toks:List Tk}{ip n:Nat}{R:dP}(IH:lD toks ip R):FG toks ip 54 [.optr ip 0] (m51 toks n R) (CD .item):=by
 intro s0 s' F0 H0 hm p0 i0;obtain⟨⟨hg,n0a⟩,_⟩:=i0;obtain⟨st0,r0⟩:=p0.row;have q0:=aA r0;have hl:=aV p0.len;have f0:=Fr.refl F0 H0;have k0a:=aA hg [.row [.optr ip 0]];have b0a:=aA k0a;have k0b:(H0++ [.row [.optr ip 0]])[H0.length]? =some (.row [.optr ip 0]):=z6
 have n0b:=p0.new0;have b0b:=aA k0b;unfold m51 at hm;refine aF (N:=28) Tryz.func54 rfl rfl z6 λhb'=> ?_;have x1:=a3 r0 q0 hg;refine qE (a2 aJ x1) ?_;refine qT 1 (a2 aJ x1) ?_;refine qP x1 AU (xE (mB r0) hl p0.pos) ?_;refine qX (a2 lT x1) ?_;refine qT 2 (a4 y9 aJ fQ x1) ?_;refine qP x1 dJ (fM (mB r0) hl p0.pos [[112,117,98]] z7) ?_;refine oN ?_;refine qI x1 (λbt8=> ?_) (λbt8=> ?_)
 ·
  rw[fZ bt8]at hm;refine qT 1 (a2 aJ x1) ?_;obtain⟨sq1,e1,hm⟩:=oB hm;refine qA x1 IN (DX e1 p0 [.row [.optr ip 0], .row [.int .i64 (aG toks s0.pos).kind, .str (aG toks s0.pos).text]]) ?_;rintro _ H1 ⟨iq1,Fq1,rfl,pq1,g1⟩;obtain⟨F1,nf,p1,f1⟩:=rW p0 f0 g1;obtain⟨st1,r1⟩:=p1.row;have q1:=aA r1;obtain⟨k1a,n1a⟩:=cZ g1 (aA hg [.row [.optr ip 0], .row [.int .i64 (aG toks s0.pos).kind, .str (aG toks s0.pos).text]]) n0a nf;obtain⟨k1b,n1b⟩:=cZ g1 (show(H0++ [.row [.optr ip 0], .row [.int .i64 (aG toks s0.pos).kind, .str (aG toks s0.pos).text]])[H0.length]? =some (.row [.optr ip 0])by simp) p0.new0 nf;obtain⟨k1c,n1c⟩:=cZ g1 (show(H0++ [.row [.optr ip 0], .row [.int .i64 (aG toks s0.pos).kind, .str (aG toks s0.pos).text]])[H0.length+1]? =some (.row [.int .i64 (aG toks s0.pos).kind, .str (aG toks s0.pos).text])by simp) (p0.new 1) nf;obtain⟨stq1,rq1⟩:=pq1.row;have qq1:=aA rq1;have nb12:(H0.length+1=H1.length)=False:=by have:=lG k1c;simp;omega
  have x2:=a5 hg r1 q1 k1a (a3 k1b k1c nb12);refine qP x2 AU (xE (by first|exact rq1|exact qq1 _) hl pq1.pos) ?_;refine qX (a2 lT x2) ?_;refine wQ ?_;refine bG (λH2=>∃F2,eJ toks ip s0 F2 H2/\Fr F0 F2 H0 H2/\(H2[0]? =some gO/\0∉F2)/\(H2[H0.length]? =some (.row [.optr ip 0])/\H0.length∉F2)/\H2[H0.length+1]? =some (.row [.int .i64 (aG toks sq1.pos).kind, .str (aG toks sq1.pos).text])) ?_ ?_
  ·have hb:=lG k1c;have hne:∀b,b≠H0.length+1->∀o,(H1.set (H0.length+1) o)[b]? =H1[b]? :=λb hb o=>aS0 (Ne.symm hb);refine⟨F1,p1.fr λi hi=>hne i (λe=>n1c (e▸hi)) _,⟨by rw[lS];exact f1.len,λid h1 h2=>by rw[hne id z8];exact f1.same id h1 h2,f1.ids⟩,⟨by rw[hne 0 z8];exact k1a,n1a⟩,⟨by rw[hne _ z8];exact k1b,n1b⟩,by rw[aSz hb]⟩
  rintro H2 ⟨F2,p2,f2,⟨k2a,n2a⟩,⟨k2b,n2b⟩,kt2⟩;obtain⟨st2,r2⟩:=p2.row;have q2:=aA r2;have b2a:=aA k2a;have b2b:=aA k2b;have qt2:=aA kt2;refine wR ?_;have x3:=a5 hg nb12 r2 q2 (a5 k2a k2b kt2 b2a (a2 b2b qt2));refine qU 2 (a3 y9 lT x3) ?_;refine qP x3 aGn (ER (by first|exact k2a|exact b2a _) (aG toks sq1.pos).text) ?_;refine qX (a2 y3 x3) ?_;refine gE (a3 y3 lT x3) ?_;refine qI x2 (λbt21=> ?_) (λbt21=> ?_)
  ·
   rw[fZ bt21]at hm;refine qL [1] x2 ?_;refine wQ ?_;have k2a:=aA k2a [.row [.int .i64 (bI (aG toks sq1.pos).text)]];have k2b:=aA k2b [.row [.int .i64 (bI (aG toks sq1.pos).text)]];have k2c:(H2++ [.row [.int .i64 (bI (aG toks sq1.pos).text)]])[H2.length]? =some (.row [.int .i64 (bI (aG toks sq1.pos).text)]):=z6
   have n2c:=p2.new0;have b2a:=aA k2a;have b2b:=aA k2b;have b2c:=aA k2c;refine wR ?_;refine qU 1 (a2 aJ x3) ?_;obtain⟨s3,e3,hm⟩:=oB hm;refine ZA (a5 hg nb12 r2 q2 (a5 k2a k2b kt2 b2a (a2 b2b qt2))) aG2 ((by first|exact FG.ap0 (GS (n:=n) IH) e3 p2 ⟨k2a,n2a⟩|exact FG.ap' (GS (n:=n) IH) e3 p2 ⟨k2a,n2a⟩|exact FG.ap (GS (n:=n) IH) e3 p2 ⟨k2a,n2a⟩)) ?_;rintro _ H3 ⟨rfl,F3,p3,g3⟩;have f3:=f2.stX g3;obtain⟨st3,r3⟩:=p3.row;have q3:=aA r3;obtain⟨k3a,n3a⟩:=g3.gtX k2a n2a;have b3a:=aA k3a;obtain⟨k3b,n3b⟩:=g3.gtX k2b n2b;have b3b:=aA k3b;obtain⟨k3c,n3c⟩:=g3.gtX k2c n2c;have b3c:=aA k3c;refine oN ?_;refine wQ ?_;refine wT ⟨.inr rfl,_,rfl, ?_⟩;injection hm with hm;subst hm;exact bJ p3 f3
  ·
   rw[gI bt21]at hm;refine qK ?_;refine qL [1,3] x2 ?_;refine wQ ?_;have k2a:=aA k2a [.row [.int .i64 (bI (aG toks sq1.pos).text)]];have k2b:=aA k2b [.row [.int .i64 (bI (aG toks sq1.pos).text)]];have k2c:(H2++ [.row [.int .i64 (bI (aG toks sq1.pos).text)]])[H2.length]? =some (.row [.int .i64 (bI (aG toks sq1.pos).text)]):=z6
   have n2c:=p2.new0;have b2a:=aA k2a;have b2b:=aA k2b;have b2c:=aA k2c;refine wR ?_;refine qU 3 (a3 y3 aJ x3) ?_;obtain⟨s3,e3,hm⟩:=oB hm;refine qN (a5 hg nb12 kt2 qt2 (w3 r2 k2a k2b)) (FC.apX (cP toks ip (bI (aG toks sq1.pos).text) 98 [] [.optr (H0.length) 0, .optr (H2.length) 0] aG0 (dS [(0,gO),(H0.length, .row [.optr ip 0]),(H2.length, .row [.int .i64 (bI (aG toks sq1.pos).text)])]) (aGq (n:=n) IH (H0.length) (H2.length) (bI (aG toks sq1.pos).text))) e3 p2 ⟨⟨k2a,n2a⟩,⟨k2b,n2b⟩,⟨k2c,n2c⟩,trivial⟩) ?_;rintro _ H3 ⟨rfl,F3,p3,g3⟩;have f3:=f2.stX g3;obtain⟨st3,r3⟩:=p3.row;have q3:=aA r3;obtain⟨k3a,n3a⟩:=g3.gtX k2a n2a;have b3a:=aA k3a;obtain⟨k3b,n3b⟩:=g3.gtX k2b n2b;have b3b:=aA k3b;obtain⟨k3c,n3c⟩:=g3.gtX k2c n2c;have b3c:=aA k3c;refine dL ?_;injection hm with hm;subst hm;exact bJ p3 f3
 ·
  rw[gI bt8]at hm;refine qK ?_;refine qT 2 (a3 y9 lT x1) ?_;refine qP x1 aGn (ER (aA hg _) (aG toks s0.pos).text) ?_;refine qX (a2 y3 x1) ?_;refine wQ ?_;have k0c:(H0++ [.row [.optr ip 0], .row [.int .i64 (aG toks s0.pos).kind, .str (aG toks s0.pos).text], .row [.int .i64 (bI (aG toks s0.pos).text)]])[H0.length+2]? =some (.row [.int .i64 (bI (aG toks s0.pos).text)]):=z6
  have n0c:=p0.new 2;have b0c:=aA k0c;have k0b:(H0++ [.row [.optr ip 0], .row [.int .i64 (aG toks s0.pos).kind, .str (aG toks s0.pos).text], .row [.int .i64 (bI (aG toks s0.pos).text)]])[H0.length]? =some (.row [.optr ip 0]):=z6
  have b0b:=aA k0b;have k0a:=aA hg [.row [.optr ip 0], .row [.int .i64 (aG toks s0.pos).kind, .str (aG toks s0.pos).text], .row [.int .i64 (bI (aG toks s0.pos).text)]];have b0a:=aA k0a;refine vG (Zg (a5 y3 lT r0 q0 hg)) z7 (by repeat (first|exact fK.base _|with_reducible apply fK.keep|apply fK.drop)) ?_;refine qI x1 (λbt21=> ?_) (λbt21=> ?_)
  ·
   rw[fZ bt21]at hm;refine qL [1] x1 ?_;refine qT 1 (a2 aJ x1) ?_;obtain⟨s1,e1,hm⟩:=oB hm;refine ZA (a3 r0 q0 hg) aG2 ((by first|exact FG.ap0 (GS (n:=n) IH) e1 p0 ⟨k0a,n0a⟩|exact FG.ap' (GS (n:=n) IH) e1 p0 ⟨k0a,n0a⟩|exact FG.ap (GS (n:=n) IH) e1 p0 ⟨k0a,n0a⟩)) ?_;rintro _ H1 ⟨rfl,F1,p1,g1⟩;have f1:=f0.stX g1;obtain⟨st1,r1⟩:=p1.row;have q1:=aA r1;obtain⟨k1a,n1a⟩:=g1.gtX k0a n0a;have b1a:=aA k1a;obtain⟨k1b,n1b⟩:=g1.gtX k0b n0b;have b1b:=aA k1b;obtain⟨k1c,n1c⟩:=g1.gtX k0c n0c;have b1c:=aA k1c;refine oN ?_;refine wQ ?_;refine wT ⟨.inr rfl,_,rfl, ?_⟩;injection hm with hm;subst hm;exact bJ p1 f1
  ·
   rw[gI bt21]at hm;refine qK ?_;refine qL [1,3] x1 ?_;refine qT 3 (a3 y3 aJ x1) ?_;obtain⟨s1,e1,hm⟩:=oB hm;refine qN (a2 hg (w1 r0)) (FC.apX (cP toks ip (bI (aG toks s0.pos).text) 98 [] [.optr (H0.length) 0, .optr (H0.length+2) 0] aG0 (dS [(0,gO),(H0.length, .row [.optr ip 0]),(H0.length+2, .row [.int .i64 (bI (aG toks s0.pos).text)])]) (aGq (n:=n) IH (H0.length) (H0.length+2) (bI (aG toks s0.pos).text))) e1 p0 ⟨⟨k0a,n0a⟩,⟨k0b,n0b⟩,⟨k0c,n0c⟩,trivial⟩) ?_;rintro _ H1 ⟨rfl,F1,p1,g1⟩;have f1:=f0.stX g1;obtain⟨st1,r1⟩:=p1.row;have q1:=aA r1;obtain⟨k1a,n1a⟩:=g1.gtX k0a n0a;have b1a:=aA k1a;obtain⟨k1b,n1b⟩:=g1.gtX k0b n0b;have b1b:=aA k1b;obtain⟨k1c,n1c⟩:=g1.gtX k0c n0c;have b1c:=aA k1c;refine dL ?_;injection hm with hm;subst hm;exact bJ p1 f1
def TJ(toks:List Tk)(n:Nat)(R:dP):dP
 | .block=>aN1 toks n R| .statement=>aB8 toks n R| .letS=>aIc toks n R| .returnStmt=>aJe toks n R| .expr=>aE9 toks n R| .binary l=>aEl toks n R l| .unary=>aMm toks n R| .arguments=>aHg toks n R
 | .postfx=>aJo toks n R| .primary=>aL8 toks n R| .ifExpr=>aHv toks n R| .matchE=>aJw toks n R| .structLit=>aIn toks n R| .lambda=>aL1 toks n R| .pattern=>aNy toks n R| .path b=>aJk toks n R b
 | .typeExpr=>aFe toks n R| .typeParams=>aJy toks n R| .params c=>aI1 toks n R c| .function b=>aMt toks n R b| .itemBody k=>m82 toks n R k| .item=>m51 toks n R
def UJ(toks:List Tk)(n:Nat):Nat->dP
 |0=>λ_ _=>none
 |k+1=>TJ toks n (UJ toks n k)
theorem DG(toks:List Tk)(ip n:Nat):∀k,lD toks ip (UJ toks n k)
 |0=>λfn=>FG.none λ_=>rfl
 |k+1=>λfn=>match fn with
  | .block=>aI6 (n:=n) (DG toks ip n k)| .statement=>aNq (n:=n) (DG toks ip n k)| .letS=>aIv (n:=n) (DG toks ip n k)| .returnStmt=>aH2 (n:=n) (DG toks ip n k)| .expr=>YA (n:=n) (DG toks ip n k)
  | .binary l=>aHw (n:=n) (DG toks ip n k) l| .unary=>aJm (n:=n) (DG toks ip n k)| .arguments=>aJ3 (n:=n) (DG toks ip n k)| .postfx=>aMu (n:=n) (DG toks ip n k)| .primary=>aKt (n:=n) (DG toks ip n k)
  | .ifExpr=>aM1 (n:=n) (DG toks ip n k)| .matchE=>aM9 (n:=n) (DG toks ip n k)| .structLit=>aHu (n:=n) (DG toks ip n k)| .lambda=>aKb (n:=n) (DG toks ip n k)| .pattern=>aJx (n:=n) (DG toks ip n k)| .path b=>aKd (n:=n) (DG toks ip n k) b
  | .typeExpr=>aAe (n:=n) (DG toks ip n k)| .typeParams=>aHl (n:=n) (DG toks ip n k)| .params c=>aHm (n:=n) (DG toks ip n k) c| .function b=>aJh (n:=n) (DG toks ip n k) b| .itemBody j=>aP0 (n:=n) (DG toks ip n k) j| .item=>aOl (n:=n) (DG toks ip n k)
def oI(c:UInt8):Bool:=c==32||c==9||c==10||c==13
def uV(c:UInt8):Bool:=(decide (97<=c)&&decide (c<=122))||(decide (65<=c)&&decide (c<=90))||c==95
def iU(c:UInt8):Bool:=decide (48<=c)&&decide (c<=57)
def gH(c:UInt8):Bool:= !(c==10)
def iG(c:UInt8):Bool:=uV c||iU c
def dI(p:UInt8->Bool):List UInt8->Nat
 | []=>0
 |c::r=>if p c then dI p r+1 else 0
theorem tK(p:UInt8->Bool):∀s,dI p s<=s.length
 | []=>aSl _
 |c::r=>by have:=tK p r;simp only[dI,aS2];split<;>omega
theorem DM{p:UInt8->Bool}{c:UInt8}{r:List UInt8}:0<dI p (c::r)↔p c=true:=by
 simp only[dI];split<;>simp_all
theorem IA{p:UInt8->Bool}{s:List UInt8}{i:Nat}(h:i<s.length):dI p (s.drop i)=if p s[i]then dI p (s.drop (i+1))+1 else 0:=by
 rw[aUc h,dI]
def lA:Bool->List UInt8->Option Nat
 |_,[]=>none
 |e,c::r=>if c=10 then none else if c=34/\e=false then some 1 else(lA (decide (c=92)&& !e) r).map (· +1)
def AG:List UInt8->Option Nat
 | []=>none
 | [c]=>if c=34 then some 1 else none
 |c::d::r=>if c=10 then none else if c=34 then some 1 else if c=92/\d≠10 then(AG r).map (· +2)else(AG (d::r)).map (· +1)
theorem JP:∀s,AG s=lA false s
 | []=>rfl
 | [c]=>by
  simp only[AG,lA]
  by_cases h1:c=34
  ·subst h1;simp
  ·by_cases h2:c=10<;>simp[h1,h2]
 |c::d::r=>by
  have i1:=JP r;have i2:=JP (d::r);simp only[AG];rw[lA]
  by_cases h1:c=10
  ·simp[h1]
  ·rw[if_neg h1,if_neg h1]
   by_cases h2:c=34
   ·simp[h2]
   ·have e2:(c=34/\(false:Bool)=false)=False:=by simp[h2]
    simp only[h2,if_false,e2]
    by_cases h3:c=92
    ·by_cases h4:d=10
     ·have e3:(c=92/\d≠10)=False:=by simp[h4]
      simp only[e3,if_false];rw[i2];simp[lA,h3,h4]
     ·have e3:(c=92/\d≠10)=True:=by simp[h3,h4]
      simp only[e3,if_true];rw[i1];simp[lA,h3,h4,Option.map_map,Function.comp_def]
    ·have e3:(c=92/\d≠10)=False:=by simp[h3]
     simp only[e3,if_false];rw[i2];simp[h3]
theorem KJ:∀(s:List UInt8) (e:Bool) (k:Nat),lA e s=some k->1<=k/\k<=s.length
 | [],e,k,h=>by cases h
 |c::r,e,k,h=>by
  rw[lA]at h
  split at h
  ·cases h
  ·split at h
   ·cases h;simp
   ·cases hq:lA (decide (c=92)&& !e) r with
    |none=>rw[hq]at h;cases h
    |some m=>
     rw[hq]at h;simp only[aS1,Option.some.injEq]at h;have:=KJ r _ m hq;simp only[aS2];omega
def bytesOf(s:String):List UInt8:=s.toUTF8.data.toList
def kwL:List (List UInt8):= [[117,115,101],[112,117,98],[97,115],[102,110],[115,116,114,117,99,116],[101,110,117,109],[116,114,97,105,116],[105,109,112,108],[102,111,114],[99,111,110,115,116],[109,97,99,114,111],[108,101,116],[109,117,116],[119,104,105,108,101],[114,101,116,117,114,110],[109,97,116,99,104],[105,102],[101,108,115,101],[110,101,119],[116,114,117,101],[102,97,108,115,101],[116,121,112,101]]
def KP:List (List UInt8):= ["::", "=>", "->", "==", "&&", "||"].map bytesOf
def PX:List UInt8:= [40,41,123,125,91,93,60,62,44,59,58,46,61,43,45,42,47,33,38,124]
def bZ(s:List UInt8):Nat×Int:=
 match s with
 | []=>(0,0)
 |c::r=>
  if oI c then(dI oI s,101)
  else if s.take 2= [47,47]then(dI gH s,102)
  else if uV c then(if kwL.contains (s.take (dI iG s))then(dI iG s,104)else(dI iG s,103))
  else if iU c then(dI iU s,105)
  else if c=34 then(match lA false r with|some k=>(k+1,106)|none=>(dI gH s,108))
  else if s.length>1/\KP.contains (s.take 2)=true then(2,107)
  else if PX.contains c then(1,107)
  else(1,108)
theorem lP{s:List UInt8}(h:s≠ []):1<=(bZ s).1/\(bZ s).1<=s.length:=by
 cases s with
 |nil=>exact absurd rfl h
 |cons c r=>
  have key:∀p:UInt8->Bool,p c=true->1<=dI p (c::r)/\dI p (c::r)<=(c::r).length:=λp hp=>⟨DM.2 hp,tK _ _⟩;unfold bZ;simp only
  split
  ·exact key _ ‹_›
  ·split
   ·rename_i h2;refine key _ ?_;have:c=47:=by simpa using(List.cons.inj h2).1
    subst this;rfl
   ·split
    ·rename_i h3;have:=key iG (by unfold iG;rw[h3];rfl)
     split<;>exact this
    ·split
     ·exact key _ ‹_›
     ·split
      ·rename_i h5
       split
       ·rename_i k hk;have:=KJ _ _ _ hk;simp only[aS2];omega
       ·refine key _ ?_;subst h5;rfl
      ·split
       ·rename_i h6;simp only[aS2]at h6⊢;omega
       ·split<;>simp
def VK:Nat->List UInt8->List Tk
 |0,_=> []
 |n+1,s=>if s= []then []else⟨(bZ s).2,s.take (bZ s).1⟩::VK n (s.drop (bZ s).1)
theorem PY(n:Nat)(h:n<256):(UInt8.ofNat n).toNat=n:=by rw[UInt8.toNat_ofNat'];exact Nat.mod_eq_of_lt h
theorem wN(c:UInt8)(n:Nat)(h:n<256):decide ((c.toNat:Int)>=n)=decide (UInt8.ofNat n<=c):=by
 rw[decide_eq_decide,UInt8.le_iff_toNat_le,PY n h];omega
theorem wJ(c:UInt8)(n:Nat)(h:n<256):decide ((c.toNat:Int)<=n)=decide (c<=UInt8.ofNat n):=by
 rw[decide_eq_decide,UInt8.le_iff_toNat_le,PY n h];omega
theorem kV(c:UInt8)(n:Nat)(h:n<256):decide ((c.toNat:Int)=n)=(c==UInt8.ofNat n):=by
 have e:(c==UInt8.ofNat n)=decide (c=UInt8.ofNat n):=by rw[aTu];simp
 rw[e,decide_eq_decide,<-UInt8.toNat_inj,PY n h];omega
theorem EQ(c:UInt8):PC Tryz.prog 129 [.int .u8 c.toNat] (.bool (uV c)):=by
 have g97:decide ((c.toNat:Int)>=97)=decide ((97:UInt8)<=c):=wN c 97 z7;have l122:decide ((c.toNat:Int)<=122)=decide (c<=(122:UInt8)):=wJ c 122 z7;have g65:decide ((c.toNat:Int)>=65)=decide ((65:UInt8)<=c):=wN c 65 z7;have l90:decide ((c.toNat:Int)<=90)=decide (c<=(90:UInt8)):=wJ c 90 z7;have e95:decide ((c.toNat:Int)=95)=(c==95):=kV c 95 z7;have g48:decide ((c.toNat:Int)>=48)=decide ((48:UInt8)<=c):=wN c 48 z7;have l57:decide ((c.toNat:Int)<=57)=decide (c<=(57:UInt8)):=wJ c 57 z7;refine dN (N:=21) Tryz.func129 rfl rfl z6 (by simp[aZ.int,aZ.str]) (.bool _) ?_;refine nV ?_;refine gE y5 ?_;refine wQ ?_;refine wT ⟨.inr rfl,_,rfl, ?_⟩;simp only[jN,seval,aB,qC,g97,l122,g65,l90,e95,g48,l57]
 try rfl
theorem zI(c:UInt8):PC Tryz.prog 131 [.int .u8 c.toNat] (.bool (iU c)):=by
 have g97:decide ((c.toNat:Int)>=97)=decide ((97:UInt8)<=c):=wN c 97 z7;have l122:decide ((c.toNat:Int)<=122)=decide (c<=(122:UInt8)):=wJ c 122 z7;have g65:decide ((c.toNat:Int)>=65)=decide ((65:UInt8)<=c):=wN c 65 z7;have l90:decide ((c.toNat:Int)<=90)=decide (c<=(90:UInt8)):=wJ c 90 z7;have e95:decide ((c.toNat:Int)=95)=(c==95):=kV c 95 z7;have g48:decide ((c.toNat:Int)>=48)=decide ((48:UInt8)<=c):=wN c 48 z7;have l57:decide ((c.toNat:Int)<=57)=decide (c<=(57:UInt8)):=wJ c 57 z7;refine dN (N:=9) Tryz.func131 rfl rfl z6 (by simp[aZ.int,aZ.str]) (.bool _) ?_;refine nV ?_;refine gE y5 ?_;refine wQ ?_;refine wT ⟨.inr rfl,_,rfl, ?_⟩;simp only[jN,seval,aB,qC,g97,l122,g65,l90,e95,g48,l57]
 try rfl
theorem aCo(c:UInt8):PC Tryz.prog 185 [.int .u8 c.toNat] (.bool (iG c)):=by
 have g97:decide ((c.toNat:Int)>=97)=decide ((97:UInt8)<=c):=wN c 97 z7;have l122:decide ((c.toNat:Int)<=122)=decide (c<=(122:UInt8)):=wJ c 122 z7;have g65:decide ((c.toNat:Int)>=65)=decide ((65:UInt8)<=c):=wN c 65 z7;have l90:decide ((c.toNat:Int)<=90)=decide (c<=(90:UInt8)):=wJ c 90 z7;have e95:decide ((c.toNat:Int)=95)=(c==95):=kV c 95 z7;have g48:decide ((c.toNat:Int)>=48)=decide ((48:UInt8)<=c):=wN c 48 z7;have l57:decide ((c.toNat:Int)<=57)=decide (c<=(57:UInt8)):=wJ c 57 z7;refine dN (N:=29) Tryz.func185 rfl rfl z6 (by simp[aZ.int,aZ.str]) (.bool _) ?_;refine nV ?_;refine gE y5 ?_;refine wQ ?_;refine wT ⟨.inr rfl,_,rfl, ?_⟩;simp only[jN,seval,aB,qC,g97,l122,g65,l90,e95,g48,l57]
 try rfl
def iL(cl:Int)(c:UInt8):Bool:=if cl=0 then oI c else if cl=2 then iG c else if cl=3 then iU c else gH c
theorem RW(s:List UInt8)(hs:s.length<=maxLen)(cl:Int):PC Tryz.prog 114 [.str s,aB cl] (aB (dI (iL cl) s)):=by
 have em:maxLen=9223372036854775807:=z7
 refine dN (N:=53) Tryz.func114 rfl rfl z6 (by simp[aZ.int,aZ.str]) (.int _ _) ?_;refine nV ?_;refine nV ?_;refine qB ?_;refine iD (σ:=Nat) (λ(i:Nat)=> [(0, .str s),(1,aB cl),(5,aB (i:Int))]) ([]) (λ(i:Nat)=> []) (λ(i:Nat)=>s.length-i) (λ(i:Nat)=>i<=s.length/\dI (iL cl) s=i+dI (iL cl) (s.drop i)) (0) ([]) ⟨(Zf tN),(Zf tN),(Zf tN),trivial⟩ (Zf tN) (⟨z8,z6⟩) (λ_ _=>by first|exact aTn _| (simp only[aTi];omega)) ?_ ?_
 ·exact λi hg=>⟨by simp only[aT1];exact dF _,xR⟩
 ·intro i hg;refine qE (a2 y3 y9) ?_;refine GR (λbt11=> ?_) (λbt11=> ?_)
  ·
   have hi:i<s.length:=by have:=of_decide_eq_true bt11;omega
   have g1:=bS hi;have hd:=IA (p:=iL cl) hi;obtain⟨c,hc⟩:∃c,s[i]=c:=⟨_,rfl⟩;rw[hc]at hd;have g2:s[i]? =some c:=by rw[aTd hi,hc]
   have w1:IntKind.i64.wrap ((i:Int)+1)=((i+1:Nat):Int):=by rw[aY z8 z8];omega
   have e32:decide ((c.toNat:Int)=32)=(c==32):=kV c 32 z7;have e9:decide ((c.toNat:Int)=9)=(c==9):=kV c 9 z7;have e10:decide ((c.toNat:Int)=10)=(c==10):=kV c 10 z7;have e13:decide ((c.toNat:Int)=13)=(c==13):=kV c 13 z7;have g48:decide ((c.toNat:Int)>=48)=decide ((48:UInt8)<=c):=wN c 48 z7;have l57:decide ((c.toNat:Int)<=57)=decide (c<=(57:UInt8)):=wJ c 57 z7;refine qK ?_;refine qB ?_;refine qE (a4 y9 g1 g2 tN) ?_;refine qE (a2 y5 e10) ?_;refine nV ?_;refine qB ?_;refine qE y3 ?_;refine GR (λbt20=> ?_) (λbt20=> ?_)
   ·
    have hcl:cl=0:=of_decide_eq_true bt20;have hp:iL cl c=oI c:=by unfold iL;rw[if_pos hcl]
    refine gE (a5 y5 e32 e9 e10 e13) ?_;refine qL0 [0,1,5,7] ?_;refine nV ?_;refine GR (λbt49=> ?_) (λbt49=> ?_)
    ·
     have hf:iL cl c=false:=by rw[hp];have h:=bt49;first| (rw[aSf]at h;exact h)| (unfold gH;rw[h];rfl)
     have hv:(dI (iL cl) s:Int)=i:=by rw[hg.2,hd,hf];simp
     refine nV ?_;refine wQ ?_;refine wT ⟨.inr rfl,_,rfl, ?_⟩;simp only[jN,seval,aB,qC,hv]
     try rfl
    ·
     have hf:iL cl c=true:=by rw[hp];have h:=bt49;first| (rw[Bool.not_eq_false']at h;exact h)| (unfold gH;rw[h];rfl)
     have hv1:dI (iL cl) s=(i+1)+dI (iL cl) (s.drop (i+1)):=by rw[hg.2,hd,hf];simp;omega
     refine qK ?_;refine qE (a2 y3 w1) ?_
     try simp only[aW,aO]
     exact⟨i+1,_,by show s.length- (i+1)<s.length-i;omega,⟨rfl,rfl,rfl,trivial⟩,by simp only[jN,seval,aB,qC]<;>rfl,z8,hv1⟩
   ·
    have hcl0:¬cl=0:=of_decide_eq_false bt20;refine qE y3 ?_;refine GR (λbt36=> ?_) (λbt36=> ?_)
    ·
     have hcl:cl=2:=of_decide_eq_true bt36;have hp:iL cl c=iG c:=by unfold iL;rw[if_neg hcl0,if_pos hcl]
     refine qL0 [0,1,5,6] ?_;refine KT 1 ?_;refine KW aHy (aCo c _) ?_;refine OI ?_;refine nV ?_;refine GR (λbt49=> ?_) (λbt49=> ?_)
     ·
      have hf:iL cl c=false:=by rw[hp];have h:=bt49;first| (rw[aSf]at h;exact h)| (unfold gH;rw[h];rfl)
      have hv:(dI (iL cl) s:Int)=i:=by rw[hg.2,hd,hf];simp
      refine nV ?_;refine wQ ?_;refine wT ⟨.inr rfl,_,rfl, ?_⟩;simp only[jN,seval,aB,qC,hv]
      try rfl
     ·
      have hf:iL cl c=true:=by rw[hp];have h:=bt49;first| (rw[Bool.not_eq_false']at h;exact h)| (unfold gH;rw[h];rfl)
      have hv1:dI (iL cl) s=(i+1)+dI (iL cl) (s.drop (i+1)):=by rw[hg.2,hd,hf];simp;omega
      refine qK ?_;refine qE (a2 y3 w1) ?_
      try simp only[aW,aO]
      exact⟨i+1,_,by show s.length- (i+1)<s.length-i;omega,⟨rfl,rfl,rfl,trivial⟩,by simp only[jN,seval,aB,qC]<;>rfl,z8,hv1⟩
    ·
     have hcl2:¬cl=2:=of_decide_eq_false bt36;refine qL0 [0,1,5,6,7,19] ?_;refine qE y3 ?_;refine GR (λbt40=> ?_) (λbt40=> ?_)
     ·
      have hcl:cl=3:=of_decide_eq_true bt40;have hp:iL cl c=iU c:=by unfold iL;rw[if_neg hcl0,if_neg hcl2,if_pos hcl]
      refine gE (a3 y5 g48 l57) ?_;refine nV ?_;refine GR (λbt49=> ?_) (λbt49=> ?_)
      ·
       have hf:iL cl c=false:=by rw[hp];have h:=bt49;first| (rw[aSf]at h;exact h)| (unfold gH;rw[h];rfl)
       have hv:(dI (iL cl) s:Int)=i:=by rw[hg.2,hd,hf];simp
       refine nV ?_;refine wQ ?_;refine wT ⟨.inr rfl,_,rfl, ?_⟩;simp only[jN,seval,aB,qC,hv]
       try rfl
      ·
       have hf:iL cl c=true:=by rw[hp];have h:=bt49;first| (rw[Bool.not_eq_false']at h;exact h)| (unfold gH;rw[h];rfl)
       have hv1:dI (iL cl) s=(i+1)+dI (iL cl) (s.drop (i+1)):=by rw[hg.2,hd,hf];simp;omega
       refine qK ?_;refine qE (a2 y3 w1) ?_
       try simp only[aW,aO]
       exact⟨i+1,_,by show s.length- (i+1)<s.length-i;omega,⟨rfl,rfl,rfl,trivial⟩,by simp only[jN,seval,aB,qC]<;>rfl,z8,hv1⟩
     ·
      have hcl3:¬cl=3:=of_decide_eq_false bt40;have hp:iL cl c=gH c:=by unfold iL;rw[if_neg hcl0,if_neg hcl2,if_neg hcl3]
      refine qK ?_;refine nV ?_;refine GR (λbt49=> ?_) (λbt49=> ?_)
      ·
       have hf:iL cl c=false:=by rw[hp];have h:=bt49;first| (rw[aSf]at h;exact h)| (unfold gH;rw[h];rfl)
       have hv:(dI (iL cl) s:Int)=i:=by rw[hg.2,hd,hf];simp
       refine nV ?_;refine wQ ?_;refine wT ⟨.inr rfl,_,rfl, ?_⟩;simp only[jN,seval,aB,qC,hv]
       try rfl
      ·
       have hf:iL cl c=true:=by rw[hp];have h:=bt49;first| (rw[Bool.not_eq_false']at h;exact h)| (unfold gH;rw[h];rfl)
       have hv1:dI (iL cl) s=(i+1)+dI (iL cl) (s.drop (i+1)):=by rw[hg.2,hd,hf];simp;omega
       refine qK ?_;refine qE (a2 y3 w1) ?_
       try simp only[aW,aO]
       exact⟨i+1,_,by show s.length- (i+1)<s.length-i;omega,⟨rfl,rfl,rfl,trivial⟩,by simp only[jN,seval,aB,qC]<;>rfl,z8,hv1⟩
  ·
   have hi:i=s.length:=by have:=of_decide_eq_false bt11;omega
   have hv:(dI (iL cl) s:Int)=s.length:=by rw[hg.2,hi,List.drop_length];simp[dI]
   refine wQ ?_;refine bD ?_;simp only[aW,aO,reduceIte,Nat.reduceEqDiff,aUb,if_true,if_false];refine qE y9 ?_;refine wQ ?_;refine wT ⟨.inr rfl,_,rfl, ?_⟩;simp only[jN,seval,aB,qC,hv]
   try rfl
def ED(s:List UInt8):Nat:=match lA false (s.drop 1)with|some k=>k+1|none=>0
theorem DO(s:List UInt8)(hs:s.length<=maxLen)(p:UInt8->Bool)(f:FuncId)(hgo:aP Tryz.prog f=true)(hp:∀c:UInt8,PC Tryz.prog f [.int .u8 c.toNat] (.bool (p c)))(st:Nat)(hst:st<=s.length):PC Tryz.prog 126 [.str s,aB (st:Int), .fn (.func f) [] []] (aB ((st+dI p (s.drop st):Nat):Int)):=by
 have em:maxLen=9223372036854775807:=z7
 refine dN (N:=21) Tryz.func126 rfl rfl z6 (by simp[aZ.int,aZ.str,iC]) (.int _ _) ?_;refine nV ?_;refine qB ?_;refine iD (σ:=Nat) (λ(i:Nat)=> [(0, .str s),(1,aB (i:Int)),(2, .fn (.func f) [] [])]) ([]) (λ(i:Nat)=> []) (λ(i:Nat)=>s.length-i) (λ(i:Nat)=>i<=s.length/\st+dI p (s.drop st)=i+dI p (s.drop i)) (st) ([]) ⟨(Zf tN),(Zf tN),(Zf tN),trivial⟩ (Zf tN) (⟨z8,rfl⟩) (λ_ _=>by first|exact aTn _| (simp only[aTi];omega)) ?_ ?_
 ·exact λi hg=>⟨by simp only[aT1];exact dF _,xR⟩
 ·intro i hg;have hcs:i<s.length\/i=s.length:=z8
  rcases hcs with hi|hi
  ·
   have g1:=bS hi;obtain⟨c,hc⟩:∃c,s[i]=c:=⟨_,rfl⟩;have g2:s[i]? =some c:=by rw[aTd hi,hc]
   have w1:IntKind.i64.wrap ((i:Int)+1)=((i+1:Nat):Int):=by rw[aY z8 z8];omega
   have f1:((i:Int)<s.length)=True:=by simp;omega
   have f0:((0:Int)<=(i:Int))=True:=z6
   have hd:=IA (p:=p) hi;rw[hc]at hd;refine wQ ?_;refine wR ?_;refine bO ?_;have x1:=a5 f1 f0 g1 g2 (a2 w1 dT);refine OH 9 (a3 y3 y9 x1) ?_;refine RN x1 (by assumption) (λhc=>hp c _) ?_;refine ZgX x1 ?_;refine ZI x1 (λbt17=> ?_) (λbt17=> ?_)
   ·
    have hv1:st+dI p (s.drop st)=(i+1)+dI p (s.drop (i+1)):=by rw[hg.2,hd,if_pos bt17];omega
    refine qK ?_;refine qB ?_;refine ZE (a2 y3 x1) ?_
    try simp only[aW,aO]
    exact⟨i+1,_,by show s.length- (i+1)<s.length-i;omega,⟨rfl,rfl,rfl,trivial⟩,by simp only[jN,seval,aB,qC]<;>rfl,z8,hv1⟩
   ·
    have hv:st+dI p (s.drop st)=i:=by rw[hg.2,hd,bt17];simp
    refine wQ ?_;refine bD ?_;simp only[aW,aO,reduceIte,Nat.reduceEqDiff,aUb,if_true,if_false];refine ZE x1 ?_;refine wQ ?_;refine wT ⟨.inr rfl,_,rfl, ?_⟩;simp only[jN,seval,aB,qC,hv]
    try rfl
  ·
   have f1:((i:Int)<s.length)=False:=by simp;omega
   have hv:st+dI p (s.drop st)=i:=by rw[hg.2,hi,List.drop_length];simp[dI]
   refine wQ ?_;refine wR ?_;refine bO ?_;refine gT 8 (a4 y3 y9 f1 decide_false) ?_;refine gS (a2 f1 decide_false) ?_;refine gS (a2 f1 decide_false) ?_;refine gX (a2 f1 decide_false) ?_;refine qF (a2 f1 decide_false) ?_;refine wQ ?_;refine bD ?_;simp only[aW,aO,reduceIte,Nat.reduceEqDiff,aUb,if_true,if_false];refine qE (a2 f1 decide_false) ?_;refine wQ ?_;refine wT ⟨.inr rfl,_,rfl, ?_⟩;simp only[jN,seval,aB,qC,hv]
   try rfl
theorem UO(s:List UInt8)(hs:s.length<=maxLen)(h1:1<=s.length):PC Tryz.prog 117 [.str s] (aB (ED s:Int)):=by
 have em:maxLen=9223372036854775807:=z7
 refine dN (N:=35) Tryz.func117 rfl rfl z6 (by simp[aZ.int,aZ.str]) (.int _ _) ?_;refine nV ?_;refine nV ?_;refine nV ?_;refine qB ?_;refine iD (σ:=Nat×Bool) (λ(q:Nat×Bool)=> [(0, .str s),(3, .bool q.2),(4,aB (q.1:Int))]) ([]) (λ(q:Nat×Bool)=> []) (λ(q:Nat×Bool)=>s.length-q.1) (λ(q:Nat×Bool)=>1<=q.1/\q.1<=s.length/\lA false (s.drop 1)=(lA q.2 (s.drop q.1)).map (· +(q.1-1))) ((1,false)) ([]) ⟨(Zf tN),(Zf tN),(Zf tN),trivial⟩ (Zf tN) (⟨z6,by simpa using h1,z6⟩) (λ_ _=>by first|exact aTn _| (simp only[aTi];omega)) ?_ ?_
 ·exact λq hg=>⟨by simp only[aT1];exact dF _,xR⟩
 ·intro q hg;obtain⟨i,e⟩:=q;obtain⟨hq1,hq2,hq3⟩:=hg;simp only at hq1 hq2 hq3;have hcs:i<s.length\/i=s.length:=z8
  rcases hcs with hi|hi
  ·
   have g1:=bS hi;obtain⟨c,hc⟩:∃c,s[i]=c:=⟨_,rfl⟩;have g2:s[i]? =some c:=by rw[aTd hi,hc]
   have w1:IntKind.i64.wrap ((i:Int)+1)=((i+1:Nat):Int):=by rw[aY z8 z8];omega
   have f1:((i:Int)<s.length)=True:=by simp;omega
   have f0:((0:Int)<=(i:Int))=True:=z6
   have e10:decide ((c.toNat:Int)=10)=(c==10):=kV c 10 z7;have e34:decide ((c.toNat:Int)=34)=(c==34):=kV c 34 z7;have e92:decide ((c.toNat:Int)=92)=(c==92):=kV c 92 z7;have hd:s.drop i=c::s.drop (i+1):=by rw[aUc hi,hc]
   rw[hd,lA]at hq3;have x1:=a5 f1 f0 g1 g2 (a5 w1 e10 e34 e92 dT);refine tL (a4 y3 y5 y9 x1) ?_;refine ZI x1 (λbt14=> ?_) (λbt14=> ?_)
   ·
    have h10:¬c=10:=by simpa using bt14
    rw[if_neg h10]at hq3;refine qK ?_;refine qB ?_;refine tL (a3 y5 y9 x1) ?_;refine ZI x1 (λbt24=> ?_) (λbt24=> ?_)
    ·
     have h34:c=34/\e=false:=by simpa using bt24
     have hv:ED s=i+1:=by unfold ED;rw[hq3,if_pos h34];simp;omega
     refine ZL [0,3,4] x1 ?_;refine ZE (a2 y3 x1) ?_;refine wQ ?_;refine wT ⟨.inr rfl,_,rfl, ?_⟩;simp only[jN,seval,aB,qC,hv]
     try rfl
    ·
     have h34:¬(c=34/\e=false):=by simpa using bt24
     rw[if_neg h34]at hq3;refine qK ?_;refine ZL [0,3,4] x1 ?_;refine tL (a3 y5 y9 x1) ?_;refine ZE (a2 y3 x1) ?_
     try simp only[aW,aO]
     exact⟨(i+1,(c==92)&& !e),_,by show s.length- (i+1)<s.length-i;omega,⟨rfl,rfl,rfl,trivial⟩,by simp only[jN,seval,aB,qC]<;>rfl,by show 1<=i+1;omega,by show i+1<=s.length;omega,by rw[hq3,Option.map_map,show(decide (c=92)&& !e)=((c==92)&& !e)from rfl];congr 1;funext x;simp;omega⟩
   ·
    have h10:c=10:=by simpa using bt14
    have hv:ED s=0:=by unfold ED;rw[hq3,if_pos h10];rfl
    refine wQ ?_;refine bD ?_;simp only[aW,aO,reduceIte,Nat.reduceEqDiff,aUb,if_true,if_false];refine ZE x1 ?_;refine wQ ?_;refine wT ⟨.inr rfl,_,rfl, ?_⟩;simp only[jN,seval,aB,qC,hv]
    try rfl
  ·
   have f1:((i:Int)<s.length)=False:=by simp;omega
   have hv:ED s=0:=by unfold ED;rw[hq3,hi,List.drop_length];rfl
   refine wQ ?_;refine wR ?_;refine bO ?_;refine gT 7 (a4 y3 y9 f1 decide_false) ?_;refine gS (a2 f1 decide_false) ?_;refine gS (a2 f1 decide_false) ?_;refine gX (a2 f1 decide_false) ?_;refine qF (a2 f1 decide_false) ?_;refine wQ ?_;refine bD ?_;simp only[aW,aO,reduceIte,Nat.reduceEqDiff,aUb,if_true,if_false];refine qE (a2 f1 decide_false) ?_;refine wQ ?_;refine wT ⟨.inr rfl,_,rfl, ?_⟩;simp only[jN,seval,aB,qC,hv]
   try rfl
theorem tP(us:List (List UInt8))(v:List UInt8):(us.any λx=>decide (v=x))=us.contains v:=by
 induction us with
 |nil=>rfl
 |cons a l ih=>rw[List.any_cons,List.contains_cons,ih,show decide (v=a)=(v==a)from by rw[aTu];simp]
theorem aHn(c:UInt8):PC Tryz.prog 128 [.int .u8 c.toNat] (.bool (gH c)):=by
 have e10:decide ((c.toNat:Int)=10)=(c==10):=kV c 10 z7;refine dN (N:=5) Tryz.func128 rfl rfl z6 (by simp[aZ.int,aZ.str]) (.bool _) ?_;refine nV ?_;refine qE y5 ?_;refine wQ ?_;refine wT ⟨.inr rfl,_,rfl, ?_⟩;simp only[jN,seval,aB,qC,e10]
 try rfl
theorem aO2(c:UInt8):PC Tryz.prog 190 [.int .u8 c.toNat] (.bool (gH c)):=by
 have e10:decide ((c.toNat:Int)=10)=(c==10):=kV c 10 z7;refine dN (N:=5) Tryz.func190 rfl rfl z6 (by simp[aZ.int,aZ.str]) (.bool _) ?_;refine nV ?_;refine qE y5 ?_;refine wQ ?_;refine wT ⟨.inr rfl,_,rfl, ?_⟩;simp only[jN,seval,aB,qC,e10]
 try rfl
theorem aNl(c:UInt8):PC Tryz.prog 130 [.int .u8 c.toNat] (.bool (iG c)):=by
 refine dN (N:=9) Tryz.func130 rfl rfl z6 (by simp[aZ.int,aZ.str]) (.bool _) ?_;refine nV ?_;refine wQ ?_;refine wR ?_;refine bO ?_;refine gT 1 tN ?_;refine gP tN aBk (λhc=>EQ c _) ?_;refine gT 2 tN ?_;refine gP tN QZ (λhc=>zI c _) ?_;refine gX tN ?_;refine wQ ?_;refine wT ⟨.inr rfl,_,rfl, ?_⟩;simp only[jN,seval,aB,qC]
 try rfl
theorem aN2(us:List (List UInt8))(v:List UInt8)(hx:us.length<=maxLen):PC Tryz.prog 151 [.slice (us.map PV.str) .none, .str v] (aB (uN (λx=>decide (v=x)) us)):=by
 refine dN (N:=19) Tryz.func151 rfl rfl z6 (by simp[aZ.int,aZ.str,cQ]) (.int _ _) ?_;refine nV ?_;refine qE (a2 y9 fQ) ?_;refine wQ ?_;refine fN (σ:=Unit) (us.length) (λ(s:Unit)=> [(0, .slice (us.map PV.str) .none),(1, .str v)]) [0,1] ([]) (λ(s:Unit)=> []) (λ(i:Nat) (s:Unit)=>(us.take i).any (λx=>decide (v=x))=false) (()) ([]) rfl rfl rfl rfl rfl rfl rfl rfl rfl z7 z7 z7 (λ_=>rfl) (hx) ⟨(Zf tN),(Zf tN),(Zf tN),(Zf tN),trivial⟩ (Zf tN) z6 (λ_ _ _=>by first|exact aTn _| (simp only[aTi];omega)) ?_ ?_ ?_
 ·exact λi s hg=>⟨by first|exact dF _| (simp only[aT4];assumption)| (refine iK hb' z6 ?_;exact xH),xR⟩
 ·intro i s hi hg;have g1:=bS hi;have g2:=eH PV.str hi;refine qE (a3 g1 tN g2) ?_;refine qE (a5 y9 fQ g1 tN g2) ?_;refine qI (a3 g1 tN g2) (λb0=> ?_) (λb0=> ?_)
  ·
   refine qE (a3 g1 tN g2) ?_;refine wQ ?_;refine wT ⟨.inr rfl,_,rfl, ?_⟩;rw[JJ hi b0 hg];rfl
  ·
   refine qK ?_;exact⟨⟨rfl,rfl,trivial⟩,(),[],⟨rfl,rfl,trivial⟩,rfl,eS hi hg b0⟩
 ·intro s hg;rw[aUd]at hg;refine nV ?_;refine wQ ?_;refine wT ⟨.inr rfl,_,rfl, ?_⟩;rw[AH hg];rfl
theorem RO(us:List (List UInt8))(v:List UInt8)(hx:us.length<=maxLen):PC Tryz.prog 132 [.slice (us.map PV.str) .none, .str v] (.bool (us.contains v)):=by
 refine dN (N:=9) Tryz.func132 rfl rfl z6 (by simp[aZ.int,aZ.str,cQ]) (.bool _) ?_;refine nV ?_;refine KT 2 ?_;refine KW RH (aN2 us v hx _) ?_;refine qX y3 ?_;refine wQ ?_;refine wT ⟨.inr rfl,_,rfl, ?_⟩;rw[<-tP,<-vH];rfl
theorem aGo(us:List (List UInt8))(v:List UInt8)(hx:us.length<=maxLen):PC Tryz.prog 115 [.slice (us.map PV.str) .none, .str v] (.bool (us.contains v)):=by
 refine dN (N:=17) Tryz.func115 rfl rfl z6 (by simp[aZ.int,aZ.str,cQ]) (.bool _) ?_;refine nV ?_;refine qE (a2 y9 fQ) ?_;refine wQ ?_;refine fN (σ:=Unit) (us.length) (λ(s:Unit)=> [(0, .slice (us.map PV.str) .none),(1, .str v),(7, .slice (us.map PV.str) .none)]) [0,1,7] ([]) (λ(s:Unit)=> []) (λ(i:Nat) (s:Unit)=>(us.take i).any (λx=>decide (v=x))=false) (()) ([]) rfl rfl rfl rfl rfl rfl rfl rfl rfl z7 z7 z7 (λ_=>rfl) (hx) ⟨(Zf tN),(Zf tN),(Zf tN),(Zf tN),(Zf tN),trivial⟩ (Zf tN) z6 (λ_ _ _=>by first|exact aTn _| (simp only[aTi];omega)) ?_ ?_ ?_
 ·exact λi s hg=>⟨by first|exact dF _| (simp only[aT4];assumption)| (refine iK hb' z6 ?_;exact xH),xR⟩
 ·intro i s hi hg;have g1:=bS hi;have g2:=eH PV.str hi;refine qE (a5 y9 fQ g1 tN g2) ?_;refine qE (a4 y9 g1 tN g2) ?_;refine qI (a3 g1 tN g2) (λb0=> ?_) (λb0=> ?_)
  ·
   refine qE (a3 g1 tN g2) ?_;refine wQ ?_;refine wT ⟨.inr rfl,_,rfl, ?_⟩;have hv:us.contains v=true:=by rw[<-tP];exact List.any_eq_true.2 ⟨_,aTk hi,b0⟩
   simp only[jN,seval,aB,qC,hv]
  ·
   refine qK ?_;exact⟨⟨rfl,rfl,trivial⟩,(),[],⟨rfl,rfl,rfl,trivial⟩,rfl,eS hi hg b0⟩
 ·intro s hg;rw[aUd]at hg;have hv:us.contains v=false:=by rw[<-tP];exact hg
  refine nV ?_;refine wQ ?_;refine wT ⟨.inr rfl,_,rfl, ?_⟩;simp only[jN,seval,aB,qC,hv]
open Go.Proofs Go.RowKit
theorem aCe{V:cS}{vargs:Array Value}{p q:PV}(h:RL V vargs [p,q]):∃v0 v1,vargs= #[v0,v1]/\aL V v0 p/\aL V v1 q:=by
 obtain⟨hsz,hr⟩:=h;have h0:=hr 0 z6;have h1:=hr 1 z6;simp only[aSj,List.getElem_cons_succ]at h0 h1;have hs:vargs.size=2:=by simpa using hsz
 rw[aSo,aSt z8]at h0 h1;refine⟨vargs[0],vargs[1], ?_,h0,h1⟩;apply Array.ext<;>simp[hs];intro i hi hi2;match i,hi2 with|0,_=>rfl|1,_=>rfl
theorem BC(s:List UInt8)(c:UInt8):PC Tryz.prog 136 [.str s, .int .u8 c.toNat] (aB (Lib.indexByte s c)):=λH=>by
 refine oT λE vargs ho hH hrl=> ?_;obtain⟨v0,v1,rfl,h0,h1⟩:=aCe hrl;cases h0 with
 |str z=>
  generalize hk:(PV.int IntKind.u8 (c.toNat:Int))=p at h1;cases h1<;>cases hk;refine⟨_,aL.int _ _,(Tryz.strings_IndexByte z (c.toNat:Int) E.w).mono λe w' ⟨h1,h2⟩=>⟨?_,h2▸Below.refl _ _⟩⟩;rw[h1];simp
theorem MZ(s p:List UInt8):PC Tryz.prog 127 [.str s, .str p] (.bool (Lib.hasPrefix s p)):=λH=>by
 refine oT λE vargs ho hH hrl=> ?_;obtain⟨v0,v1,rfl,h0,h1⟩:=aCe hrl;cases h0 with
 |str z=>cases h1 with
  |str y=>exact⟨_,aL.bool _,(Tryz.strings_HasPrefix z y E.w).mono λe w' ⟨h1,h2⟩=>⟨h1,h2▸Below.refl _ _⟩⟩
end Go.Abs
namespace Go.Abs
open Go.Proofs Go.RowKit
abbrev G0:aC:=GC
theorem IJ(s:List UInt8)(hs:s.length<4294967281)(ha:∀b∈s,b.toNat<128)(hf:(Lib.fields s).length<=maxLen):PG G0 Tryz.prog 152 [.str s] (.slice ((Lib.fields s).map PV.str) .none):=λH hG=>yQ s hs ha hf (hG 0 _ rfl)
end Go.Abs
namespace Go.Abs
open Go.Proofs
theorem yA:Lib.fields [117,115,101,32,112,117,98,32,97,115,32,102,110,32,115,116,114,117,99,116,32,101,110,117,109,32,116,114,97,105,116,32,105,109,112,108,32,102,111,114,32,99,111,110,115,116,32,109,97,99,114,111,32,108,101,116,32,109,117,116,32,119,104,105,108,101,32,114,101,116,117,114,110,32,109,97,116,99,104,32,105,102,32,101,108,115,101,32,110,101,119,32,116,114,117,101,32,102,97,108,115,101,32,116,121,112,101]=kwL:=by kernel_rfl
theorem OZ:PG G0 Tryz.prog 133 [] (.slice (kwL.map PV.str) .none):=by
 have hk:=IJ [117,115,101,32,112,117,98,32,97,115,32,102,110,32,115,116,114,117,99,116,32,101,110,117,109,32,116,114,97,105,116,32,105,109,112,108,32,102,111,114,32,99,111,110,115,116,32,109,97,99,114,111,32,108,101,116,32,109,117,116,32,119,104,105,108,101,32,114,101,116,117,114,110,32,109,97,116,99,104,32,105,102,32,101,108,115,101,32,110,101,119,32,116,114,117,101,32,102,97,108,115,101,32,116,121,112,101] z7 z7 (by rw[yA];decide);rw[yA]at hk;refine RP (N:=2) Tryz.func133 rfl rfl z6 (cQ _ _) λH hG hb'=> ?_;refine nV ?_;refine wQ ?_;refine wR ?_;refine oP (KU tN) (mL tN) z7 EG (hk _ hG) ?_;refine OI ?_;refine wQ ?_;refine wT ⟨.inr rfl,_,_,rfl, ?_,ZW⟩;simp only[jN,seval,aB,qC]
 try rfl
theorem TP:Lib.fields [58,58,32,61,62,32,45,62,32,61,61,32,38,38,32,124,124]=KP:=by kernel_rfl
theorem aOr:PG G0 Tryz.prog 135 [] (.slice (KP.map PV.str) .none):=by
 have hk:=IJ [58,58,32,61,62,32,45,62,32,61,61,32,38,38,32,124,124] z7 z7 (by rw[TP];decide);rw[TP]at hk;refine RP (N:=2) Tryz.func135 rfl rfl z6 (cQ _ _) λH hG hb'=> ?_;refine nV ?_;refine wQ ?_;refine wR ?_;refine oP (KU tN) (mL tN) z7 EG (hk _ hG) ?_;refine OI ?_;refine wQ ?_;refine wT ⟨.inr rfl,_,_,rfl, ?_,ZW⟩;simp only[jN,seval,aB,qC]
 try rfl
def uY:List (List UInt8):= [[58,58],[61,62],[45,62],[61,61],[38,38],[124,124],[40],[41],[123],[125],[91],[93],[60],[62],[44],[59],[58],[46],[61],[43],[45],[42],[47],[33],[38],[124]]
theorem aG8:PC Tryz.prog 116 [] (.slice (kwL.map PV.str) .none):=by
 refine dN (N:=2) Tryz.func116 rfl rfl z6 (by simp[aZ.int,aZ.str]) (cQ _ _) ?_;refine nV ?_;refine qE (a2 y9 fQ) ?_;refine wQ ?_;refine wT ⟨.inr rfl,_,rfl, ?_⟩;simp only[jN,seval,aB,qC]
 try kernel_rfl
theorem aBs:PC Tryz.prog 118 [] (.slice (uY.map PV.str) .none):=by
 refine dN (N:=2) Tryz.func118 rfl rfl z6 (by simp[aZ.int,aZ.str]) (cQ _ _) ?_;refine nV ?_;refine qE (a2 y9 fQ) ?_;refine wQ ?_;refine wT ⟨.inr rfl,_,rfl, ?_⟩;simp only[jN,seval,aB,qC]
 try kernel_rfl
theorem nA:∀(l:List UInt8) (c:UInt8),decide (Lib.indexByte l c>=0)=l.contains c
 | [],c=>by simp[Lib.indexByte]
 |b::l,c=>by
  have ih:=nA l c;have hge:=Lib.indexByte_ge l c;rw[List.contains_cons,<-ih,Lib.indexByte]
  by_cases h:b=c
  ·subst h;simp
  ·have h1:(b==c)=false:=by simpa using h
   have h2:(c==b)=false:=by simpa using λe=>h e.symm
   rw[h1,h2];simp only[aTc,if_false,Bool.false_or]
   by_cases h3:Lib.indexByte l c= -1
   ·simp[h3]
   ·have:(Lib.indexByte l c== -1)=false:=by simpa using h3
    rw[this];simp only[aTc,if_false,decide_eq_decide];omega
theorem FW(c:UInt8): [32,9,10,13].contains c=oI c:=by
 rw[aTu];simp[oI,or_assoc]
theorem IF(c:UInt8):PC Tryz.prog 125 [.int .u8 c.toNat] (.bool (oI c)):=by
 have hk:=BC [32,9,10,13] c;have hn:=nA [32,9,10,13] c;rw[FW]at hn;refine dN (N:=6) Tryz.func125 rfl rfl z6 (by simp[aZ.int,aZ.str]) (.bool _) ?_;refine nV ?_;refine KT 1 ?_;refine KW QJ (hk _) ?_;refine qX y3 ?_;refine wQ ?_;refine wT ⟨.inr rfl,_,rfl, ?_⟩;simp only[jN,seval,aB,qC,hn]
 try rfl
theorem VM{s:List UInt8}{i:Nat}(h:i<s.length):AG (s.drop i)=if s[i]=10 then none else if s[i]=34 then some 1 else
  if s[i]=92/\(s.drop (i+1)).head?.getD 10≠10 then(AG (s.drop (i+2))).map (· +2)else(AG (s.drop (i+1))).map (· +1):=by
 rw[aUc h];obtain⟨c,hc⟩:∃c,s[i]=c:=⟨_,rfl⟩;rw[hc]
 by_cases h2:i+1<s.length
 ·have e2:s.drop (i+1)=s[i+1]::s.drop (i+2):=aUc h2;rw[e2,AG];rfl
 ·have e2:s.drop (i+1)= []:=List.drop_eq_nil_of_le z8;have e3:s.drop (i+2)= []:=List.drop_eq_nil_of_le z8;rw[e2,e3,AG]
  by_cases h10:c=10
  ·subst h10;simp[AG]
  ·simp[h10,AG]
def FJ(s:List UInt8):Nat×Int:=match lA false (s.drop 1)with|some k=>(k+1,106)|none=>(1+dI gH (s.drop 1),108)
theorem VG(s:List UInt8)(hs:s.length<=maxLen)(h1:1<=s.length):PC Tryz.prog 134 [.str s] (.tup [aB ((FJ s).1:Int),aB (FJ s).2]):=by
 have em:maxLen=9223372036854775807:=z7
 have hsc:=DO s hs gH 190 aJ1 aO2 1 h1;refine dN (N:=47) Tryz.func134 rfl rfl z6 (by simp[aZ.int,aZ.str]) (.tup _ (by simp[aZ.int])) ?_;refine nV ?_;refine nV ?_;refine qB ?_;refine iD (σ:=Nat) (λ(i:Nat)=> [(0, .str s),(4,aB (i:Int))]) ([]) (λ(i:Nat)=> []) (λ(i:Nat)=>s.length-i) (λ(i:Nat)=>1<=i/\i<=s.length/\lA false (s.drop 1)=(AG (s.drop i)).map (· +(i-1))) (1) ([]) ⟨(Zf tN),(Zf tN),trivial⟩ (Zf tN) (⟨z8,h1,by rw[JP];simp⟩) (λ_ _=>by first|exact aTn _| (simp only[aTi];omega)) ?_ ?_
 ·exact λi hg=>⟨by simp only[aT1];exact dF _,xR⟩
 ·intro i hg;obtain⟨hq1,hq2,hq3⟩:=hg;have hcs:i<s.length\/i=s.length:=z8
  rcases hcs with hi|hi
  ·
   have g1:=bS hi;have hd:=VM hi;obtain⟨c,hc⟩:∃c,s[i]=c:=⟨_,rfl⟩;rw[hc]at hd;have g2:s[i]? =some c:=by rw[aTd hi,hc]
   have w1:IntKind.i64.wrap ((i:Int)+1)=((i+1:Nat):Int):=by rw[aY z8 z8];omega
   have f1:((i:Int)<s.length)=True:=by simp;omega
   have f0:((0:Int)<=(i:Int))=True:=z6
   have e10:decide ((c.toNat:Int)=10)=(c==10):=kV c 10 z7;have e34:decide ((c.toNat:Int)=34)=(c==34):=kV c 34 z7;have e92:decide ((c.toNat:Int)=92)=(c==92):=kV c 92 z7;have x1:=a5 f1 f0 g1 g2 (a5 w1 e10 e34 e92 dT);refine tL (a4 y3 y5 y9 x1) ?_;refine ZI x1 (λbt14=> ?_) (λbt14=> ?_)
   ·
    have h10:¬c=10:=by simpa using bt14
    rw[if_neg h10]at hd;refine qK ?_;refine qB ?_;refine qB ?_;refine ZE (a3 y5 y9 x1) ?_;refine ZI x1 (λbt17=> ?_) (λbt17=> ?_)
    ·
     have h34:c=34:=by simpa using bt17
     have hv:FJ s=(i+1,106):=by unfold FJ;rw[hq3,hd,if_pos h34];simp;omega
     refine ZL [0,4] x1 ?_;refine ZE (a2 y3 x1) ?_;refine wQ ?_;refine wT ⟨.inr rfl,_,(cW (.tmp 2) (.tmp 3) rfl (aR z7) (aR z7)), ?_⟩;simp only[jN,seval,aB,qC,hv]
     try rfl
    ·
     have h34:¬c=34:=by simpa using bt17
     rw[if_neg h34]at hd;have hcd:c=92/\i+1<s.length\/¬c=92\/(c=92/\¬i+1<s.length):=by by_cases h:c=92<;>simp[h]<;>omega
     refine ZL [0,4] x1 ?_;rcases hcd with hk|hk|hk
     ·
      obtain⟨hk1,hk2⟩:=hk;have k92:(c==92)=true:=by simpa using hk1
      have k1:(((i+1:Nat):Int)<s.length)=True:=by simp;omega
      have k0:((0:Int)<=((i+1:Nat):Int))=True:=by simp;omega
      obtain⟨d,hdd⟩:∃d,s[i+1]=d:=⟨_,rfl⟩;have k2:s[i+1]? =some d:=by rw[aTd hk2,hdd]
      have d10:decide ((d.toNat:Int)=10)=(d==10):=kV d 10 z7;have hh:(s.drop (i+1)).head?.getD 10=d:=by rw[aUc hk2,hdd];rfl
      have w2:IntKind.i64.wrap (((i+1:Nat):Int)+1)=((i+2:Nat):Int):=by rw[aY z8 z8];omega
      rw[hh]at hd;have x2:=a5 k92 k1 k0 k2 (a3 d10 w2 x1);refine tL (a4 y3 y5 y9 x2) ?_;refine ZI x2 (λbt24=> ?_) (λbt24=> ?_)
      ·
       have hd10:¬d=10:=by simpa using bt24
       rw[if_pos ⟨hk1,hd10⟩]at hd;refine ZL [0,4] x2 ?_;refine ZE (a2 y3 x2) ?_;refine ZE (a2 y3 x2) ?_
       try simp only[aW,aO]
       exact⟨i+2,_,by show s.length- (i+2)<s.length-i;omega,⟨rfl,rfl,trivial⟩,by simp only[jN,seval,aB,qC]<;>rfl,z8,z8,by rw[hq3,hd,Option.map_map];congr 1;funext x;simp;omega⟩
      ·
       have hd10:d=10:=by simpa using bt24
       rw[if_neg (λq=>q.2 hd10)]at hd;refine qK ?_;refine ZL [0,4] x2 ?_;refine ZE (a2 y3 x2) ?_
       try simp only[aW,aO]
       exact⟨i+1,_,by show s.length- (i+1)<s.length-i;omega,⟨rfl,rfl,trivial⟩,by simp only[jN,seval,aB,qC]<;>rfl,z8,z8,by rw[hq3,hd,Option.map_map];congr 1;funext x;simp;omega⟩
     ·
      have k92:(c==92)=false:=by simpa using hk
      rw[if_neg (λq=>hk q.1)]at hd;refine wQ ?_;refine wR ?_;refine bO ?_;refine OH 15 (a5 y3 y5 y9 k92 x1) ?_;refine ZgS (a2 k92 x1) ?_;refine ZgS (a2 k92 x1) ?_;refine ZgX (a2 k92 x1) ?_;refine ZF (a2 k92 x1) ?_;refine qK ?_;refine ZL [0,4] (a2 k92 x1) ?_;refine ZE (a3 y3 k92 x1) ?_
      try simp only[aW,aO]
      exact⟨i+1,_,by show s.length- (i+1)<s.length-i;omega,⟨rfl,rfl,trivial⟩,by simp only[jN,seval,aB,qC]<;>rfl,z8,z8,by rw[hq3,hd,Option.map_map];congr 1;funext x;simp;omega⟩
     ·
      obtain⟨hk1,hk2⟩:=hk;have k92:(c==92)=true:=by simpa using hk1
      have k1:(((i+1:Nat):Int)<s.length)=False:=by simp;omega
      have hh:s.drop (i+1)= []:=List.drop_eq_nil_of_le z8;rw[if_neg (by rw[hh];simp)]at hd;refine wQ ?_;refine wR ?_;refine bO ?_;refine OH 15 (a5 y3 y5 y9 k92 (a3 k1 decide_false x1)) ?_;refine ZgS (a4 k92 k1 decide_false x1) ?_;refine ZgS (a4 k92 k1 decide_false x1) ?_;refine ZgX (a4 k92 k1 decide_false x1) ?_;refine ZF (a4 k92 k1 decide_false x1) ?_;refine qK ?_;refine ZL [0,4] (a4 k92 k1 decide_false x1) ?_;refine ZE (a5 y3 k92 k1 decide_false x1) ?_
      try simp only[aW,aO]
      exact⟨i+1,_,by show s.length- (i+1)<s.length-i;omega,⟨rfl,rfl,trivial⟩,by simp only[jN,seval,aB,qC]<;>rfl,z8,z8,by rw[hq3,hd,Option.map_map];congr 1;funext x;simp;omega⟩
   ·
    have h10:c=10:=by simpa using bt14
    have hv:FJ s=(1+dI gH (s.drop 1),108):=by unfold FJ;rw[hq3,hd,if_pos h10];rfl
    refine wQ ?_;refine bD ?_;simp only[aW,aO,reduceIte,Nat.reduceEqDiff,aUb,if_true,if_false];refine ZT 1 x1 ?_;refine ZP x1 AN (hsc _) ?_;refine ZX x1 ?_;refine wQ ?_;refine wT ⟨.inr rfl,_,(cW (.tmp 2) (.tmp 3) rfl (aR z7) (aR z7)), ?_⟩;simp only[jN,seval,aB,qC,hv]
    try rfl
  ·
   have f1:((i:Int)<s.length)=False:=by simp;omega
   have hv:FJ s=(1+dI gH (s.drop 1),108):=by unfold FJ;rw[hq3,hi,List.drop_length];rfl
   refine wQ ?_;refine wR ?_;refine bO ?_;refine gT 7 (a4 y3 y9 f1 decide_false) ?_;refine gS (a2 f1 decide_false) ?_;refine gS (a2 f1 decide_false) ?_;refine gX (a2 f1 decide_false) ?_;refine qF (a2 f1 decide_false) ?_;refine wQ ?_;refine bD ?_;simp only[aW,aO,reduceIte,Nat.reduceEqDiff,aUb,if_true,if_false];refine qT 1 (a2 f1 decide_false) ?_;refine qP (a2 f1 decide_false) AN (hsc _) ?_;refine qX (a2 f1 decide_false) ?_;refine wQ ?_;refine wT ⟨.inr rfl,_,(cW (.tmp 2) (.tmp 3) rfl (aR z7) (aR z7)), ?_⟩;simp only[jN,seval,aB,qC,hv]
   try rfl
theorem aQ7{H H':aC}(hG:EL G0 H)(h:H'[0]? =(H++aS6 0 AObj.unborn)[0]?):EL G0 H':=λk o hk=>by
 cases k with
 |zero=>rw[h];simpa using hG 0 o hk
 |succ k=>simp[G0,GC]at hk
theorem GF(s:List UInt8)(a b:UInt8):Lib.hasPrefix s [a,b]=decide (s.take 2= [a,b]):=by
 unfold Lib.hasPrefix
 match s with
 | []=>rfl
 | [x]=>simp[List.isPrefixOf]
 |x::y::r=>
  rw[aTu];simp[List.isPrefixOf];constructor<;>rintro⟨h1,h2⟩<;>exact⟨h1.symm,h2.symm⟩
theorem PA(c:UInt8)(r:List UInt8)(h:c=34):FJ (c::r)=match lA false r with|some k=>(k+1,106)|none=>(dI gH (c::r),108):=by
 subst h;unfold FJ;simp only[List.drop_succ_cons,aUh];cases q:lA false r with
 |none=>simp[dI,gH,Nat.add_comm]
 |some k=>rfl
theorem aDz(c:UInt8)(r:List UInt8)(hs:(c::r).length<=maxLen):PG G0 Tryz.prog 70 [.str (c::r)] (.tup [aB ((bZ (c::r)).1:Int),aB (bZ (c::r)).2]):=by
 have em:maxLen=9223372036854775807:=z7
 obtain⟨s,hse⟩:∃s,c::r=s:=⟨_,rfl⟩;have g2:s[0]? =some c:=by rw[<-hse];rfl
 have g1:(0<(s.length:Int))=True:=by rw[<-hse];simp
 have hst:=λh=>PA c r h;have h1:1<=s.length:=by rw[<-hse];simp
 rw[hse]at hs hst⊢;have hb:=lP (s:=s) (by rw[<-hse];simp);have k1:=DO s hs oI 125 YS IF 0 z8;rw[aTh,aUh]at k1;have k2:=DO s hs gH 128 aHf aHn 0 z8;rw[aTh,aUh]at k2;have k3:=DO s hs iG 130 aH8 aNl 0 z8;rw[aTh,aUh]at k3;have k4:=DO s hs iU 131 QZ zI 0 z8;rw[aTh,aUh]at k4;have hp:=MZ s [47,47];rw[GF]at hp;have hss:=VG s hs h1;have ho:PX= [40,41,123,125,91,93,60,62,44,59,58,46,61,43,45,42,47,33,38,124]:=by kernel_rfl
 have hib:=BC [40,41,123,125,91,93,60,62,44,59,58,46,61,43,45,42,47,33,38,124] c;have hin:=nA [40,41,123,125,91,93,60,62,44,59,58,46,61,43,45,42,47,33,38,124] c;have hfd:bZ s=if oI c then(dI oI s,101)else if s.take 2= [47,47]then(dI gH s,102)else if uV c then(if kwL.contains (s.take (dI iG s))then(dI iG s,104)else(dI iG s,103))else if iU c then(dI iU s,105)else if c=34 then FJ s else if s.length>1/\KP.contains (s.take 2)=true then(2,107)else if PX.contains c then(1,107)else(1,108):=by
  by_cases h:c=34
  ·rw[hst h,<-hse];rfl
  ·rw[<-hse];unfold bZ;simp only[h,if_false]
 rw[ho]at hfd;refine RP (N:=56) Tryz.func70 rfl rfl z6 (.tup _ (by simp[aZ.int])) λH hG hb'=> ?_;refine nV ?_;refine qE (a3 y9 g1 g2) ?_;refine qB ?_;refine KT 1 ?_;refine KW YS (IF c _) ?_;refine OI ?_;refine GR (λbt8=> ?_) (λbt8=> ?_)
 ·
  rw[hfd,if_pos bt8];refine KT 1 ?_;refine KW AN (k1 _) ?_;refine OI ?_;refine wQ ?_;refine wT ⟨.inr rfl,_,_,(cW (.tmp 2) (.tmp 3) rfl (aR z7) (aR z7)), ?_,ZW⟩;simp only[jN,seval,aB,qC]
  try rfl
 ·
  rw[if_neg (by rw[bt8];simp)]at hfd;refine KT 1 ?_;refine KW aMa (hp _) ?_;refine OI ?_;refine GR (λbt13=> ?_) (λbt13=> ?_)
  ·
   rw[hfd,if_pos (of_decide_eq_true bt13)];refine KT 1 ?_;refine KW AN (k2 _) ?_;refine OI ?_;refine wQ ?_;refine wT ⟨.inr rfl,_,_,(cW (.tmp 2) (.tmp 3) rfl (aR z7) (aR z7)), ?_,ZW⟩;simp only[jN,seval,aB,qC]
   try rfl
  ·
   rw[if_neg (of_decide_eq_false bt13)]at hfd;refine KT 1 ?_;refine KW aBk (EQ c _) ?_;refine OI ?_;refine GR (λbt18=> ?_) (λbt18=> ?_)
   ·
    rw[if_pos bt18]at hfd;obtain⟨n,hn⟩:∃n,dI iG s=n:=⟨_,rfl⟩;have hnl:=tK iG s;rw[hn]at hnl k3 hfd;have h3:((0:Int)<=n/\(n:Int)<=s.length)=True:=by simp;omega
    have h4:(n<=s.length)=True:=by simp;omega
    have h5:((n:Int)<=(s.length:Int))=True:=by simp;omega
    have h6:((0:Int)<=(n:Int))=True:=z6
    refine KT 1 ?_;refine KW AN (k3 _) ?_;refine OI ?_;refine qL0 [0,5] ?_;refine wQ ?_;refine lU 0 (by kernel_rfl) ?_;refine IC (bm:= [0,0,0,6,15]) ([0]) (by kernel_rfl) (by simp only[kC,seval,aB,qC,jS,h3,h4,h5,h6,tN,aUh]<;>with_reducible rfl) (by simp only[kC,seval,aB,qC,jS,h3,h4,h5,h6,tN,aUh]) z7 aLo (λH' hr=>OZ H' (aQ7 hG (hr 0 z6))) (by simp only[jD,jO,jN,seval,aB,qC,jS,h3,h4,h5,h6,tN,aUh]<;>first|done|rfl) ?_;refine tF (bm:= [0,0,0,6,15]) 3 (fresh:=(H.length)) (by kernel_rfl) (by simp only[jD,jO,jN,seval,y9,aB,qC,jS,h3,h4,h5,h6,tN,aUh]<;>with_reducible rfl) z7 z7 ?_;refine IC (bm:= [0,0,0,6,15]) ([]) (by kernel_rfl) (by simp only[kC,seval,aB,qC,jS,h3,h4,h5,h6,tN,aUh]<;>with_reducible rfl) (by simp only[kC,seval,aB,qC,jS,h3,h4,h5,h6,tN,aUh]) z7 PJ (λH' _=>RO kwL (s.take n) z7 H') (by simp only[jD,jO,jN,seval,aB,qC,jS,h3,h4,h5,h6,tN,aUh]<;>first|done|rfl) ?_;refine xV ?_;refine GR (λbt27=> ?_) (λbt27=> ?_)
    ·
     rw[if_pos bt27]at hfd;rw[hfd];refine nV ?_;refine wQ ?_;refine wT ⟨.inr rfl,_,_,(cW (.tmp 2) (.tmp 3) rfl (aR z7) (aR z7)), ?_,ZW⟩;simp only[jN,seval,aB,qC]
     try rfl
    ·
     rw[if_neg (by rw[bt27];simp)]at hfd;rw[hfd];refine qK ?_;refine nV ?_;refine wQ ?_;refine wT ⟨.inr rfl,_,_,(cW (.tmp 2) (.tmp 3) rfl (aR z7) (aR z7)), ?_,ZW⟩;simp only[jN,seval,aB,qC]
     try rfl
   ·
    rw[if_neg (by rw[bt18];simp)]at hfd;refine KT 1 ?_;refine KW QZ (zI c _) ?_;refine OI ?_;refine GR (λbt30=> ?_) (λbt30=> ?_)
    ·
     rw[hfd,if_pos bt30];refine qL0 [0] ?_;refine KT 1 ?_;refine KW AN (k4 _) ?_;refine OI ?_;refine wQ ?_;refine wT ⟨.inr rfl,_,_,(cW (.tmp 2) (.tmp 3) rfl (aR z7) (aR z7)), ?_,ZW⟩;simp only[jN,seval,aB,qC]
     try rfl
    ·
     rw[if_neg (by rw[bt30];simp)]at hfd;have e34:decide ((c.toNat:Int)=34)=(c==34):=kV c 34 z7;refine qL0 [0,4] ?_;refine qE (a2 y5 e34) ?_;refine GR (λbt35=> ?_) (λbt35=> ?_)
     ·
      rw[hfd,if_pos (by simpa using bt35)];refine KT 1 ?_;refine KW aL7 (hss _) ?_;refine OI ?_;refine wQ ?_;refine wT ⟨.inr rfl,_,_,(cW (.tmp 2) (.tmp 3) rfl (aR z7) (aR z7)), ?_,ZW⟩;simp only[jN,seval,aB,qC]
      try rfl
     ·
      rw[if_neg (by simpa using bt35)]at hfd;have h2:s.length>1\/¬s.length>1:=z8
      rcases h2 with h2|h2
      ·
       have l2:(1<(s.length:Int))=True:=by simp;omega
       have l3:(2<=(s.length:Int))=True:=by simp;omega
       refine wQ ?_;refine dA (by kernel_rfl) ?_;have x1:=a4 l2 l3 dT dZ;refine AZ 4 (a3 y3 y9 x1) ?_;refine ZpK x1 aIk (λhc=>aOr _ hG) ?_;refine vQ 2 (by simp only[jP,jO,jN,seval,y9,jS,aB,qC,l2,l3,decide_true,aUh]<;>with_reducible rfl) z7 ?_;refine ZpK x1 PJ (λhc=>RO KP (s.take 2) z7 _) ?_;refine FM x1 ?_;refine ZI x1 (λbt42=> ?_) (λbt42=> ?_)
       ·
        rw[hfd,if_pos ⟨h2,bt42⟩];refine ZE x1 ?_;refine wQ ?_;refine wT ⟨.inr rfl,_,_,(cW (.tmp 2) (.tmp 3) rfl (aR z7) (aR z7)), ?_,ZW⟩;simp only[jN,seval,aB,qC]
        try rfl
       ·
        rw[if_neg (by rw[bt42];simp)]at hfd;refine ZT 1 (a2 hin x1) ?_;refine ZP (a2 hin x1) QJ (hib _) ?_;refine ZX (a3 y3 hin x1) ?_;refine ZI x1 (λbt52=> ?_) (λbt52=> ?_)
        ·
         rw[hfd,if_pos bt52];refine ZL [] x1 ?_;refine ZE x1 ?_;refine wQ ?_;refine wT ⟨.inr rfl,_,_,(cW (.tmp 2) (.tmp 3) rfl (aR z7) (aR z7)), ?_,ZW⟩;simp only[jN,seval,aB,qC]
         try rfl
        ·
         rw[hfd,if_neg (by rw[bt52];simp)];refine qK ?_;refine ZL [] x1 ?_;refine ZE x1 ?_;refine wQ ?_;refine wT ⟨.inr rfl,_,_,(cW (.tmp 2) (.tmp 3) rfl (aR z7) (aR z7)), ?_,ZW⟩;simp only[jN,seval,aB,qC]
         try rfl
      ·
       have l2:(1<(s.length:Int))=False:=by simp;omega
       rw[if_neg (λq=>h2 q.1)]at hfd;refine wQ ?_;refine dA (by kernel_rfl) ?_;refine pT 4 (a4 y3 y9 l2 decide_false) ?_;refine pS (a2 l2 decide_false) ?_;refine pS (a2 l2 decide_false) ?_;refine pS (a2 l2 decide_false) ?_;refine pS (a2 l2 decide_false) ?_;refine pX (a2 l2 decide_false) ?_;refine qF (a2 l2 decide_false) ?_;refine qT 1 (a3 l2 decide_false hin) ?_;refine qP (a3 l2 decide_false hin) QJ (hib _) ?_;refine qX (a4 y3 l2 decide_false hin) ?_;refine qI (a2 l2 decide_false) (λbt52=> ?_) (λbt52=> ?_)
       ·
        rw[hfd,if_pos bt52];refine qL [] (a2 l2 decide_false) ?_;refine qE (a2 l2 decide_false) ?_;refine wQ ?_;refine wT ⟨.inr rfl,_,_,(cW (.tmp 2) (.tmp 3) rfl (aR z7) (aR z7)), ?_,ZW⟩;simp only[jN,seval,aB,qC]
        try rfl
       ·
        rw[hfd,if_neg (by rw[bt52];simp)];refine qK ?_;refine qL [] (a2 l2 decide_false) ?_;refine qE (a2 l2 decide_false) ?_;refine wQ ?_;refine wT ⟨.inr rfl,_,_,(cW (.tmp 2) (.tmp 3) rfl (aR z7) (aR z7)), ?_,ZW⟩;simp only[jN,seval,aB,qC]
        try rfl
theorem aFm{s:List UInt8}(hs:s.length<=maxLen)(h:s≠ []):PG G0 Tryz.prog 70 [.str s] (.tup [aB ((bZ s).1:Int),aB (bZ s).2]):=by
 cases s with
 |nil=>exact absurd rfl h
 |cons c r=>exact aDz c r hs
theorem HJ:∀(n m:Nat) (s:List UInt8),s.length<=n->s.length<=m->VK n s=VK m s
 |0,0,s,_,_=>rfl
 |0,m+1,s,h,_=>by rw[aTx.1 (by omega:s.length=0)];rfl
 |n+1,0,s,_,h=>by rw[aTx.1 (by omega:s.length=0)];rfl
 |n+1,m+1,s,h1,h2=>by
  unfold VK
  by_cases h:s= []
  ·rw[if_pos h,if_pos h]
  ·rw[if_neg h,if_neg h];have hb:=lP h;rw[HJ n m _ (by rw[aS8];omega) (by rw[aS8];omega)]
def toks(s:List UInt8):List Tk:=VK s.length s
theorem yW:toks []= []:=rfl
theorem vZ{s:List UInt8}(h:s≠ []):toks s=⟨(bZ s).2,s.take (bZ s).1⟩::toks (s.drop (bZ s).1):=by
 have hb:=lP h;unfold toks;obtain⟨n,hn⟩:∃n,s.length=n+1:=⟨s.length-1,z8⟩
 conv=>lhs;rw[hn];unfold VK
 rw[if_neg h,HJ n (s.drop (bZ s).1).length _ (by rw[aS8];omega) (aSl _)]
theorem aAp(s:List UInt8)(hs:s.length<=maxLen):PG G0 Tryz.prog 52 [.str s] (.tup [.slice ((if(s.length:Int)>2000 then []else toks s).map Tk.enc) .none,aB (if(s.length:Int)>2000 then 2 else 0)]):=by
 have em:maxLen=9223372036854775807:=z7
 refine RP (N:=30) Tryz.func52 rfl rfl z6 (.tup _ (by simp[aZ.int,jR])) λH hG hb'=> ?_;refine nV ?_;refine qE (a2 y3 y9) ?_;refine GR (λbt9=> ?_) (λbt9=> ?_)
 ·
  rw[if_pos (of_decide_eq_true bt9),if_pos (of_decide_eq_true bt9)];refine nV ?_;refine wQ ?_;refine wT ⟨.inr rfl,_,_,(cW (.tmp 2) (.tmp 3) rfl (aR z7) (aR z7)), ?_,ZW⟩;simp only[jN,seval,aB,qC]
  try rfl
 ·
  rw[if_neg (of_decide_eq_false bt9),if_neg (of_decide_eq_false bt9)];have hl2:=of_decide_eq_false bt9;refine qK ?_;refine nV ?_;refine wQ ?_;refine sO 4 2 (es:= []) (KU tN) ?_;refine fB ?_;refine iD (σ:=List Tk×List UInt8) (λ(q:List Tk×List UInt8)=> [(0, .str q.2),(4, .slice (q.1.map Tk.enc) (.tok H.length))]) (H) (λ(q:List Tk×List UInt8)=> [.buf q.1.length 2]) (λ(q:List Tk×List UInt8)=>q.2.length) (λ(q:List Tk×List UInt8)=>q.1.length+q.2.length<=s.length/\toks s=q.1++toks q.2) (([],s)) ([]) ⟨(Zf tN),(Zf tN),trivial⟩ (Zf tN) (⟨z6,z6⟩) (λ_ _=>by first|exact aTn _| (simp only[aTi];omega)) ?_ ?_
  ·exact λq hg=>⟨by refine iK hb' z6 ?_;exact jF.cons trivial (dF _),by repeat (first|exact kI.nil|refine kI.cons (by first|exact iV _ (by simp only[aTi,aS2,aT5];omega)|exact Tk.bel _ _|exact cR _|exact cT _|exact aZ.int _ _|exact aZ.bool _|exact aZ.str _|exact aZ.nilp|exact aZ.nilfn|exact aZ.optr _ _ z6|exact cR _|exact cT _|exact iC _ _|assumption) ?_)⟩
  ·intro q hg;obtain⟨ts,r⟩:=q;obtain⟨hq1,hq2⟩:=hg;simp only at hq1 hq2;refine qE (a2 y3 y9) ?_;refine GR (λbt12=> ?_) (λbt12=> ?_)
   ·
    have hne:r≠ []:=by rintro rfl;simp at bt12
    have hb:=lP hne;have hst:=vZ hne;have hf:=aFm (s:=r) z8 hne;obtain⟨n,hn⟩:∃n,(bZ r).1=n:=⟨_,rfl⟩;obtain⟨kd,hkd⟩:∃kd,(bZ r).2=kd:=⟨_,rfl⟩;rw[hn]at hb hf hst;rw[hkd]at hf hst;have h3:((0:Int)<=n/\(n:Int)<=r.length)=True:=by simp;omega
    have h4:(n<=r.length)=True:=by simp;omega
    have hap:=YR (us:=ts) (u:=⟨kd,r.take n⟩) (id:=H.length) (tl:=.full) z8;refine qK ?_;refine qB ?_;refine KT 1 ?_;refine KW aPl (hf _ (hG.app _)) ?_;refine OI ?_;refine wQ ?_;refine eE (by simp only[kA,seval,y9,JZ,lT,aB,qC,jS,h3,h4,hap,tN,aUh]<;>with_reducible rfl) z7 ?_;refine qL0 [0,4,5] ?_;refine wQ ?_;refine eE (by simp only[kA,seval,y9,aB,qC,jS,h3,h4,tN,aUd]<;>with_reducible rfl) z7 ?_
    try simp only[aW,aO]
    exact⟨(ts++ [⟨kd,r.take n⟩],r.drop n),_,by show(r.drop n).length<r.length;rw[aS8];omega,⟨rfl,rfl,trivial⟩,by simp only[jN,seval,aB,qC,aTi,aSi]<;>rfl,by simp only[aTi,aSi,aS8];omega,by rw[hq2,hst];simp⟩
   ·
    have hr:r= []:=by cases r with|nil=>rfl|cons a l=>simp at bt12<;>omega
    have hv:toks s=ts:=by rw[hq2,hr,yW,aT4]
    rw[hv];refine wQ ?_;refine bD ?_;simp only[aW,aO,reduceIte,Nat.reduceEqDiff,aUb,if_true,if_false];refine nV ?_;refine wQ ?_;refine wT ⟨.inr rfl,_,_,(cW (.tmp 2) (.tmp 3) rfl (aR z7) (aR z7)), ?_,ZW⟩;simp only[jN,seval,aB,qC]
    try rfl
def aF9(s:PS):Option St:=match s.stack with
 | [f]=>some ⟨f.kind,[],f.kids⟩
 |_=>none
theorem aBi{s:PS}{t:St}(h:aF9 s=some t):∃f,s.stack= [f]/\t=⟨f.kind,[],f.kids⟩:=by
 unfold aF9 at h
 split at h
 ·rename_i f hst;injection h with h;exact⟨f,hst,h.symm⟩
 ·cases h
def uR(tk:List Tk)(k n:Nat):Option St:=((dO (λs1=> !JW tk s1) (λs1=>(UJ tk n k .item s1).bind λs2=>some s2) n ⟨0,[⟨1,[]⟩],false⟩).bind λs1=>(BG tk s1).bind aF9)
theorem SD(src:List UInt8)(k n:Nat){t:St}{H0:aC}(hs:src.length<=maxLen)(h2000:(src.length:Int)<=2000)(hlim:(toks src).length<=iB)(hG:EL G0 H0)(hm:uR (toks src) k n=some t):aN Tryz.prog 26 [.str src] H0 λr H'=>r= .tup [t.enc,aB 0]/\Fr [] [] H0 H':=by
 have hk:=aAp src hs;rw[if_neg z8,if_neg z8]at hk;generalize toks src=tk at hk hm hlim;unfold uR at hm;refine aF (N:=34) Tryz.func26 rfl rfl z6 λhb'=> ?_;refine qE (a3 dM fS fR) ?_;refine qT 1 (a2 fS fR) ?_;refine qP (a2 fS fR) aG7 (hk _ (λk o h=>aA (hG k o h) _)) ?_;refine qX (a2 fS fR) ?_;refine qE (a3 y26 fS fR) ?_;refine qF (a2 fS fR) ?_;refine qK ?_;refine qT 2 (a3 dM fS fR) ?_;refine NV (t:=65) (n:=1) (es:= [.agg [.int .i64 1, .str [], .slice [] .full]]) (by simp only[kC,seval,aB,qC]) rfl z7 eB tY rfl z7 z7 z7 (by simp only[kC,seval,aB,qC,iF,dM,fS,fR]<;>first|done|rfl) ?_;have ea1:∀(a b:AObj),(H0++ [a])++ [b]=H0++ [a,b]:=λa b=>z6
 have ea2:∀a:AObj,List.length (H0++ [a])=H0.length+1:=λa=>z6
 rw[ea1,ea2];refine qX (a3 gF fS fR) ?_;refine wQ ?_;have p0:eJ tk (H0.length+2) ⟨0,[⟨1,[]⟩],false⟩ [H0.length+2,H0.length+1] (H0++ [.row [.int .i64 0, .str [], .slice [] .full], .row (aH [.agg [.int .i64 1, .str [], .slice [] .full]]), .row [.slice (tk.map Tk.enc) .none, .int .i64 ((0:Nat):Int), .msl (H0.length+1) 0 1 1]]):=⟨H0.length+1,1,[.int .i64 1, .str [], .slice [] .full],[],[],z6,by simp[aH,PV.cells],rfl,z7,mN.cons (f:=⟨1,[]⟩) .nil .nil (λi hi=>by cases hi),rfl,z8,z6,z6,z6,hlim⟩;have hG0:=hG 0 _ rfl;have k0a:=aA hG0 [.row [.int .i64 0, .str [], .slice [] .full], .row (aH [.agg [.int .i64 1, .str [], .slice [] .full]]), .row [.slice (tk.map Tk.enc) .none, .int .i64 ((0:Nat):Int), .msl (H0.length+1) 0 1 1]];have hH0:=lG hG0;have n0a:0∉ [H0.length+2,H0.length+1]:=z6
 have k0b:(H0++ [.row [.int .i64 0, .str [], .slice [] .full], .row (aH [.agg [.int .i64 1, .str [], .slice [] .full]]), .row [.slice (tk.map Tk.enc) .none, .int .i64 ((0:Nat):Int), .msl (H0.length+1) 0 1 1]])[H0.length]? =some (.row [.int .i64 0, .str [], .slice [] .full]):=z6
 have n0b:H0.length∉ [H0.length+2,H0.length+1]:=z6
 have f0:=Fr.refl [H0.length+2,H0.length+1] (H0++ [.row [.int .i64 0, .str [], .slice [] .full], .row (aH [.agg [.int .i64 1, .str [], .slice [] .full]]), .row [.slice (tk.map Tk.enc) .none, .int .i64 ((0:Nat):Int), .msl (H0.length+1) 0 1 1]]);obtain⟨sL,eL,hmA⟩:=oB hm;obtain⟨s9,e9,hmB⟩:=oB hmA;have hl:=aV p0.len;refine fB ?_;refine eC (σ:=Nat×PS×List Nat) (λ(z:Nat×PS×List Nat)=> [(2, .optr H0.length 0),(6, .optr (H0.length+2) 0)]) (λ(z:Nat×PS×List Nat)=>λH1=>dO (λs1=> !JW tk s1) (λs1=>(UJ tk n k .item s1).bind λs2=>some s2) z.1 z.2.1=some sL/\eJ tk (H0.length+2) z.2.1 z.2.2 H1/\Fr [H0.length+2,H0.length+1] z.2.2 (H0++ [.row [.int .i64 0, .str [], .slice [] .full], .row (aH [.agg [.int .i64 1, .str [], .slice [] .full]]), .row [.slice (tk.map Tk.enc) .none, .int .i64 ((0:Nat):Int), .msl (H0.length+1) 0 1 1]]) H1/\(H1[0]? =some gO/\0∉z.2.2)/\(H1[H0.length]? =some (.row [.int .i64 0, .str [], .slice [] .full])/\H0.length∉z.2.2)) (λ(z:Nat×PS×List Nat)=>z.1) ((n,⟨0,[⟨1,[]⟩],false⟩,[H0.length+2,H0.length+1])) ⟨(Zf (a2 fS fR)),(Zf (a2 fS fR)),trivial⟩ (⟨eL,p0,f0,⟨k0a,n0a⟩,⟨k0b,n0b⟩⟩) ?_;intro z H1 hg;obtain⟨k1,s1,F1⟩:=z;obtain⟨hk1,p1,f1,⟨k1a,n1a⟩,⟨k1b,n1b⟩⟩:=hg;simp only at hk1 p1 f1 k1a n1a k1b n1b;obtain⟨st1,r1⟩:=p1.row;cases k1 with
 |zero=>cases hk1
 |succ k1=> ?_
 unfold dO at hk1;refine qT 1 (a3 fS fR (w3 r1 k1a k1b)) ?_;refine qP (a3 fS fR (w3 r1 k1a k1b)) TC (CA (mB r1) hl p1.pos) ?_;refine qX (a3 fS fR (w3 r1 k1a k1b)) ?_;refine qI (a3 fS fR (w3 r1 k1a k1b)) (λbt23=> ?_) (λbt23=> ?_)
 ·
  rw[fZ bt23]at hk1;obtain⟨sB,hm1,hk1⟩:=oB hk1;obtain⟨s2,e2,hm1⟩:=oB hm1;injection hm1 with hm1;subst hm1;refine qK ?_;refine qB ?_;refine qW 1 (a3 fS fR (w3 r1 k1a k1b)) ((by exact FG.ap0 (DG tk (H0.length+2) n k .item) e2 p1 ⟨k1a,n1a⟩)) ?_;rintro _ H2 ⟨rfl,F2,p2,g2⟩;have f2:=f1.trans g2;obtain⟨k2a,n2a⟩:=g2.gtX k1a n1a;obtain⟨k2b,n2b⟩:=g2.gtX k1b n1b
  try simp only[aW,aO]
  exact⟨(k1,_,F2),aT9 _,⟨rfl,rfl,trivial⟩,hk1,p2,f2,⟨k2a,n2a⟩,⟨k2b,n2b⟩⟩
 ·
  rw[gI bt23]at hk1;injection hk1 with hk1;subst hk1;refine wQ ?_;refine bD ?_;simp only[aW,aO,reduceIte,Nat.reduceEqDiff,aUb,if_true,if_false];refine qW 1 (a3 fS fR (w3 r1 k1a k1b)) ((xW tk (H0.length+2)).ap0 e9 p1) ?_;rintro _ H2 ⟨rfl,F2,p2,g2⟩;have f2:=f1.trans g2;obtain⟨k2a,n2a⟩:=g2.gtX k1a n1a;obtain⟨k2b,n2b⟩:=g2.gtX k1b n1b;refine wQ ?_;obtain⟨⟨fk,fks⟩,hst,rfl⟩:=aBi hmB;obtain⟨is,c,R,ids,cid,cv,cells0,rest,sp⟩:=p2.split hst;have h1:=sp.h1;have h2:=sp.h2;have htop:=sp.top;have hch:=sp.ch;have heF:=sp.eF;simp only at hch;have h4:=sp.h4;have h3:=sp.h3;simp only[aT5,Nat.zero_mul,aUh,aTh]at htop h1 h4;have gD1:(R.take 3).map PV.drop1= [.int .i64 fk, .str [],cv.drop1]:=by rw[htop];rfl
  have gL3:(R.take 3).length=3:=by rw[htop];rfl
  have b3:(3<=R.length)=True:=by simp;omega
  have hcl:=hch.cell.1;have hdd:=hch.cell.2.1;have hd0:=hch.cell.2.2;have hne1:(H0.length=H2.length)=False:=by have:=lG k2b;simp;omega
  refine eE (Za (a5 nG dM gF fS (a5 fR k2a k2b h1 (a5 h2 gD1 gL3 b3 (a4 hcl hdd hd0 hne1))))) z7 ?_;refine wQ ?_;have hb1:=lG k2b;have hs1:∀o,(H2.set H0.length o)[H0.length]? =some o:=λo=>aSz hb1;have hold:∀i,i<H0.length->H2[i]? =H0[i]? :=λi hi=>by
   rw[f2.same i (by simp;omega) (by simp;omega),aSv hi]
  cases hch with
  |nil=>
   refine wT ⟨.inr rfl,_,(cW (.cell 2 67) (.tmp 3) rfl (fO MM z7 (Zl hs1)) (aR z7)), ?_⟩;refine⟨?_,by have:=f2.len;simp at this⊢;omega,λi hi _=> ?_,λi hi=>by cases hi⟩
   ·rw[St.enc_eq];rfl
   ·rw[aS0 z8];exact hold i hi
  | @msl ic c' kids rest' hH hcl' hmx=>
   obtain⟨es,e1,e2,e3⟩:=PI (c'-fks.length) rest' z8;have hicF:ic∈F2:=by rw[heF];simp
   have hicn:ic≠H0.length:=λe=>n2b (e▸hicF);have hic2:H0.length<=ic:=by
    rcases aSk ic H0.length with h|h
    ·have:=f2.ids ic hicF (by simp;omega);simp at this;omega
    ·exact h
   have hrow:((H2.set H0.length (.row [.int .i64 fk, .str [], .msl ic 0 fks.length c'])))[ic]? =some (.row (aH (fks.map St.enc++es))):=by rw[aS0 (Ne.symm hicn),hH,cN,e2]
   refine zO ic fks.length 3 H0.length (fks.map St.enc++es) hrow z6 (λe he=> ?_) (aSz hb1) (Ne.symm hicn) (cs':= [.int .i64 fk, .str [], .slice (fks.map St.enc) .none]) rfl (λi h1 h2=> ?_) ?_
   ·rcases aTs.1 he with he|he
    ·obtain⟨v,_,rfl⟩:=aTq.1 he;exact v.enc_len
    ·exact e3 e he
   ·match i,h1,h2 with
    |0,_,_=>exact .same _
    |1,_,_=>exact .same _
    |2,_,_=>
     have:(fks.map St.enc++es).take fks.length=fks.map St.enc:=by rw[List.take_append_of_le_length z6,aUf z6]
     have h:=Fz.msl (id:=ic) (k:=fks.length) (es:=fks.map St.enc++es) c' z8;rw[this]at h;exact h
   have hbx:(((H2.set H0.length (.row [.int .i64 fk, .str [], .msl ic 0 fks.length c'])).set ic EA).set H0.length (.row [.int .i64 fk, .str [], .slice (fks.map St.enc) .none]))[H0.length]? =some (.row [.int .i64 fk, .str [], .slice (fks.map St.enc) .none]):=aSz (by simpa using hb1);refine wT ⟨.inr rfl,_,(cW (.cell 2 67) (.tmp 3) rfl (fO MM z7 (Zl hbx)) (aR z7)), ?_⟩;refine⟨?_,by have:=f2.len;simp at this⊢;omega,λi hi _=> ?_,λi hi=>by cases hi⟩
   ·rw[St.enc_eq];rfl
   ·rw[aS0 z8,aS0 z8,aS0 z8];exact hold i hi
def ZS(P:Program)(t:TypeId):Option (Nat×TypeId×TI):=
 match P.underlying t with
 |some (.array n e)=>(cV P e).map λi=>(n,e,i)
 |_=>none
theorem IK{P:Program}{t:TypeId}{n:Nat}{e:TypeId}{i:TI}(h:ZS P t=some (n,e,i)):P.underlying t=some (.array n e)/\cV P e=some i:=by
 unfold ZS at h
 split at h
 ·rename_i n' e' hu;cases hi:cV P e' with
  |none=>rw[hi]at h;cases h
  |some j=>rw[hi]at h;cases h;exact⟨hu,hi⟩
 ·cases h
section
variable{P:Program}{N nb:Nat}{ops:Array Oper}{Q:dG}
end
end Go.Abs
