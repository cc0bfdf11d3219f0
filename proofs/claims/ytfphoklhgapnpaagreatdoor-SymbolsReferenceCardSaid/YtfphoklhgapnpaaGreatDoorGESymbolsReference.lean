/- Part 10 of a proof of the law SymbolsReference: Go data as trees, the walks of the functions that the law reaches, the plain laws. -/
import Derived.Test.YtfphoklhgapnpaaGreatDoorGDSymbolsReference
import Derived.Laws.StructEq
open List renaming all_eq_true->aRo,append_assoc->aR4,append_nil->aR0,cons_append->aQf,drop_eq_getElem_cons->aR6,drop_zero->aSb,getD_eq_getElem?_getD->aRb,getElem?_append_left->aQt,getElem?_append_right->aQu,getElem?_cons_zero->aRl,getElem?_eq_getElem->aRa,getElem?_map->aQ8,getElem?_set->aSc,getElem?_set_ne->aQy,getElem?_set_self->aQx,getElem_mem->aRh,length_append->aRf,length_cons->aQ0,length_drop->aQ5,length_map->aQp,length_nil->aR1,length_singleton->aQh,length_take->aQ6,mem_append->aRp,mem_cons->aRs,mem_map->aRn,mem_range->aRx,mem_singleton->aRz,nil_append->aRy,not_mem_nil->aR2,replicate->aQ3,set_append_right->aRu,take_length->aR7,take_of_length_le->aR8
open Nat renaming le_refl->aQj,lt_or_ge->aQi,lt_succ_self->aR3,succ_ne_self->aR5,zero_add->aRe,zero_le->aRk
open Go.Sem renaming run_bind->aQ1,run_pure->aQ4
open Bool renaming and_eq_true->aQd,eq_iff_iff->aRr,false_eq_true->aQ9,not_false->aRm,not_true->aRq
open Go.Result renaming andThen_ok->aQ2
open Array renaming getD_eq_getD_getElem?->aQm,getElem?_eq_getElem->aQr
open Option renaming getD_some->aQs,map_some->aQz
set_option linter.unusedVariables false
set_option linter.unusedSimpArgs false
set_option maxRecDepth 4000
namespace Go.Abs
open Go.Proofs
def m96(toks:List Tk)(n:Nat)(R:dK)(s0:PS):Option PS:=((cI toks) s0).bind λs1=>(dJ (λs2=>(!decide ((aG toks s2.pos).kind=100)&& !eC (aG toks s2.pos) yL)) (λs2=>((cI toks) s2).bind λs3=>some s3) n s1).bind λs2=>some s2
theorem aMw{toks:List Tk}{ip n:Nat}{R:dK}(IH:kG toks ip R)(b0:Nat):FC Tryz.prog toks ip 153 [.optr b0 0] (m96 toks n R) cE (eX [(0,gO),(b0, .row [.optr ip 0])]):=by
 refine eQ λs0 s' F0 H0 hm p0 i0=> ?_;obtain⟨⟨k0a,n0a⟩,⟨k0b,n0b⟩,_⟩:=i0;obtain⟨st0,r0⟩:=p0.row;have hl:=aW p0.len;have f0:=Fr.refl F0 H0;unfold m96 at hm;refine aF (N:=14) Tryz.func153 rfl rfl z6 λhb'=> ?_;refine qT 1 (a2 aJ (w3 r0 k0a k0b)) ?_;obtain⟨s1,e1,hm⟩:=oB hm;refine qN (w3 r0 k0a k0b) (FN.apX (bU toks ip) e1 p0) ?_;rintro _ H1 ⟨rfl,F1,p1,g1⟩;obtain⟨f1,⟨st1,r1⟩,⟨k1a,n1a⟩,⟨k1b,n1b⟩⟩:=hU f0 p1 g1 k0a n0a k0b n0b;have q1:=aB r1;have b1a:=aB k1a;have b1b:=aB k1b;refine wQ ?_;obtain⟨sL2,eL2,hm⟩:=oB hm;have hmo2:=hm;clear hm;refine cV ?_;refine cL (σ:=Nat×PS×List Nat) (λ(z:Nat×PS×List Nat)=> [(0, .optr (b0) 0),(1, .optr ip 0)]) (λ(z:Nat×PS×List Nat)=>λH2=>dJ (λs2=>(!decide ((aG toks s2.pos).kind=100)&& !eC (aG toks s2.pos) yL)) (λs2=>((cI toks) s2).bind λs3=>some s3) z.1 z.2.1=some sL2/\eG toks ip z.2.1 z.2.2 H2/\Fr F0 z.2.2 H0 H2/\(H2[0]? =some (gO)/\(0)∉z.2.2)/\(H2[b0]? =some (.row [.optr ip 0])/\(b0)∉z.2.2)) (λ(z:Nat×PS×List Nat)=>z.1) ((n,s1,F1)) ⟨(by first|rfl| (simp only[jN,seval,aA,qC,r1,q1,k1a,b1a,k1b,b1b]<;>first|done|with_reducible rfl)),(by first|rfl| (simp only[jN,seval,aA,qC,r1,q1,k1a,b1a,k1b,b1b]<;>first|done|with_reducible rfl)),trivial⟩ (⟨eL2,(by first|exact p1|exact p1.app _|exact p1.flg false),(by first|exact f1|exact f1.app _),⟨(by first|exact k1a|exact b1a _),n1a⟩,⟨(by first|exact k1b|exact b1b _),n1b⟩⟩) ?_;intro z H2 hg;obtain⟨k2,s2,F2⟩:=z;obtain⟨hk2,p2,f2,⟨k2a,n2a⟩,⟨k2b,n2b⟩⟩:=hg;simp only at hk2 p2 f2 k2a n2a k2b n2b;obtain⟨st2,r2⟩:=p2.row;have b2a:=aB k2a;cases k2 with
 |zero=>cases hk2
 |succ k2=> ?_
 refine wQ ?_;refine eA (by kernel_rfl) ?_;refine pT 1 (a2 aJ (w3 r2 k2a k2b)) ?_;refine pK (w3 r2 k2a k2b) RY (λhc=>AW (lD r2) hl p2.pos) ?_;refine pT 3 (a2 aJ (w3 r2 k2a k2b)) ?_;refine pK (w3 r2 k2a k2b) PA (λhc=>pE (by first|exact k2a|exact b2a _)) ?_;refine pK (w3 r2 k2a k2b) dF (λhc=>fL (lD r2) hl p2.pos (yL) z7) ?_;refine pX (w3 r2 k2a k2b) ?_;refine qI (w3 r2 k2a k2b) (λbt11=> ?_) (λbt11=> ?_)
 ·
  unfold dJ at hk2;rw[fX bt11]at hk2;obtain⟨sB2,hm,hk2⟩:=oB hk2;refine qK ?_;refine qB ?_;refine qT 1 (a2 aJ (w3 r2 k2a k2b)) ?_;obtain⟨s3,e3,hm⟩:=oB hm;refine qN (w3 r2 k2a k2b) (FN.apX (bU toks ip) e3 p2) ?_;rintro _ H3 ⟨rfl,F3,p3,g3⟩;obtain⟨f3,⟨st3,r3⟩,⟨k3a,n3a⟩,⟨k3b,n3b⟩⟩:=hU f2 p3 g3 k2a n2a k2b n2b
  try simp only[aY,aT]
  injection hm with hm;subst hm;exact⟨(k2,_,F3),aR3 _,⟨rfl,rfl,trivial⟩,hk2,p3,f3,⟨k3a,n3a⟩,⟨k3b,n3b⟩⟩
 ·
  unfold dJ at hk2;rw[fZ bt11]at hk2;injection hk2 with hk2;subst hk2;have hm:=hmo2;refine wQ ?_;refine bG ?_;simp only[aY,aT,reduceIte,Nat.reduceEqDiff,aR5,if_true,if_false];refine dH ?_;injection hm with hm;subst hm;exact bD p2 f2
def m77(toks:List Tk)(n:Nat)(R:dK)(s0:PS):Option PS:=((bY 46 (m96 toks n R)) s0).bind λs1=>some s1
theorem FH{toks:List Tk}{ip n:Nat}{R:dK}(IH:kG toks ip R):FG toks ip 96 [.optr ip 0] (m77 toks n R) cE:=by
 intro s0 s' F0 H0 hm p0 i0;obtain⟨⟨hg,n0a⟩,_⟩:=i0;obtain⟨st0,r0⟩:=p0.row;have q0:=aB r0;have hl:=aW p0.len;have f0:=Fr.refl F0 H0;have k0a:=aB hg [.row [.optr ip 0]];have b0a:=aB k0a;have k0b:(H0++ [.row [.optr ip 0]])[H0.length]? =some (.row [.optr ip 0]):=z6
 have n0b:=p0.new0;have b0b:=aB k0b;unfold m77 at hm;refine aF (N:=5) Tryz.func96 rfl rfl z6 λhb'=> ?_;refine qE (a4 aJ r0 q0 hg) ?_;refine qT 2 (a4 aJ r0 q0 hg) ?_;obtain⟨s1,e1,hm⟩:=oB hm;refine qN (a2 hg (w1 r0)) (FC.apX (cK toks ip 46 153 [] [.optr (H0.length) 0] aJt (dM [(0,gO),(H0.length, .row [.optr ip 0])]) (aMw (n:=n) IH (H0.length))) e1 p0 ⟨⟨k0a,n0a⟩,⟨k0b,n0b⟩,trivial⟩) ?_;rintro _ H1 ⟨rfl,F1,p1,g1⟩;have f1:=f0.stX g1;obtain⟨st1,r1⟩:=p1.row;have q1:=aB r1;obtain⟨k1a,n1a⟩:=g1.gtX k0a n0a;have b1a:=aB k1a;obtain⟨k1b,n1b⟩:=g1.gtX k0b n0b;have b1b:=aB k1b;refine dH ?_;injection hm with hm;subst hm;exact bD p1 f1
def m82(toks:List Tk)(n:Nat)(R:dK)(k:Int)(s0:PS):Option PS:=if decide (k=2)=true then(((m86 toks n) s0).bind λs1=>some s1)else(if decide (k=3)=true then(((R (.function true)) s0).bind λs1=>some s1)else(if decide (k=4)=true then(if decide (k=4)=true then(((aDf toks n R (k)) s0).bind λs1=>some s1)else(if decide (k=6)=true then(((bE toks) s0).bind λs1=>((VG toks n R) s1).bind λs2=>some s2)else(if decide (k=7)=true then(((m91 toks n R) s0).bind λs1=>some s1)else(if decide (k=8)=true then(((bE toks) s0).bind λs1=>((bK toks [58]) s1).bind λs2=>((R .typeExpr) s2).bind λs3=>((bK toks [61]) s3).bind λs4=>((R .expr) s4).bind λs5=>((bK toks [59]) s5).bind λs6=>some s6)else(if decide (k=9)=true then(((bE toks) s0).bind λs1=>((bK toks [40]) s1).bind λs2=>((R (.params ([41]))) s2).bind λs3=>((bK toks [61]) s3).bind λs4=>((R .expr) s4).bind λs5=>((bK toks [59]) s5).bind λs6=>some s6)else(some s0))))))else(if decide (k=5)=true then(((aDf toks n R (k)) s0).bind λs1=>some s1)else(if decide (k=6)=true then(((bE toks) s0).bind λs1=>((VG toks n R) s1).bind λs2=>some s2)else(if decide (k=7)=true then(((m91 toks n R) s0).bind λs1=>some s1)else(if decide (k=8)=true then(((bE toks) s0).bind λs1=>((bK toks [58]) s1).bind λs2=>((R .typeExpr) s2).bind λs3=>((bK toks [61]) s3).bind λs4=>((R .expr) s4).bind λs5=>((bK toks [59]) s5).bind λs6=>some s6)else(if decide (k=9)=true then(((bE toks) s0).bind λs1=>((bK toks [40]) s1).bind λs2=>((R (.params ([41]))) s2).bind λs3=>((bK toks [61]) s3).bind λs4=>((R .expr) s4).bind λs5=>((bK toks [59]) s5).bind λs6=>some s6)else(some s0))))))))
theorem aOf{toks:List Tk}{ip n:Nat}{R:dK}(IH:kG toks ip R)(k:Int):FG toks ip 101 [.optr ip 0, .int .i64 k] (m82 toks n R k) (BA (.itemBody k)):=by
 intro s0 s' F0 H0 hm p0 i0;obtain⟨⟨hg,n0a⟩,_⟩:=i0;obtain⟨st0,r0⟩:=p0.row;have hl:=aW p0.len;have f0:=Fr.refl F0 H0;have k0a:=hg;unfold m82 at hm;refine aF (N:=57) Tryz.func101 rfl rfl z6 λhb'=> ?_;refine qE (w2 r0 k0a) ?_;refine qB ?_;refine qE (a2 y3 (w2 r0 k0a)) ?_;refine qI (w2 r0 k0a) (λbt5=> ?_) (λbt5=> ?_)
 ·
  rw[fX bt5]at hm;obtain⟨s1,e1,hm⟩:=oB hm;refine qW 1 (w2 r0 k0a) (FG.apX (aMy (n:=n)) e1 p0 ⟨k0a,n0a⟩) ?_;rintro _ H1 ⟨rfl,F1,p1,g1⟩;obtain⟨f1,⟨st1,r1⟩,⟨k1a,n1a⟩⟩:=jK f0 p1 g1 k0a n0a;refine dH ?_;injection hm with hm;subst hm;exact bD p1 f1
 ·
  rw[fZ bt5]at hm;refine qE (a2 y3 (w2 r0 k0a)) ?_;refine qI (w2 r0 k0a) (λbt9=> ?_) (λbt9=> ?_)
  ·
   rw[fX bt9]at hm;obtain⟨s1,e1,hm⟩:=oB hm;refine qW 1 (w2 r0 k0a) (FG.apX (IH (.function true)) e1 p0 ⟨k0a,n0a⟩) ?_;rintro _ H1 ⟨rfl,F1,p1,g1⟩;obtain⟨f1,⟨st1,r1⟩,⟨k1a,n1a⟩⟩:=jK f0 p1 g1 k0a n0a;refine dH ?_;injection hm with hm;subst hm;exact bD p1 f1
  ·
   rw[fZ bt9]at hm;refine qE (a2 y3 (w2 r0 k0a)) ?_;refine qI (w2 r0 k0a) (λbt13=> ?_) (λbt13=> ?_)
   ·
    rw[fX bt13]at hm;refine qK ?_;refine qI (w2 r0 k0a) (λbt13=> ?_) (λbt13=> ?_)
    ·
     rw[fX bt13]at hm;obtain⟨s1,e1,hm⟩:=oB hm;refine qW 2 (w2 r0 k0a) (FG.apX (aAo (n:=n) IH (k)) e1 p0 ⟨k0a,n0a⟩) ?_;rintro _ H1 ⟨rfl,F1,p1,g1⟩;obtain⟨f1,⟨st1,r1⟩,⟨k1a,n1a⟩⟩:=jK f0 p1 g1 k0a n0a;refine dH ?_;injection hm with hm;subst hm;exact bD p1 f1
    ·
     rw[fZ bt13]at hm;refine qE (a2 y3 (w2 r0 k0a)) ?_;refine qI (w2 r0 k0a) (λbt19=> ?_) (λbt19=> ?_)
     ·
      rw[fX bt19]at hm;obtain⟨s1,e1,hm⟩:=oB hm;refine qW 1 (w2 r0 k0a) (FN.apX (cB toks ip) e1 p0) ?_;rintro _ H1 ⟨rfl,F1,p1,g1⟩;obtain⟨f1,⟨st1,r1⟩,⟨k1a,n1a⟩⟩:=jK f0 p1 g1 k0a n0a;obtain⟨s2,e2,hm⟩:=oB hm;refine qW 1 (w2 r1 k1a) (FG.apX (HW (n:=n) IH) e2 p1 ⟨k1a,n1a⟩) ?_;rintro _ H2 ⟨rfl,F2,p2,g2⟩;obtain⟨f2,⟨st2,r2⟩,⟨k2a,n2a⟩⟩:=jK f1 p2 g2 k1a n1a;refine dH ?_;injection hm with hm;subst hm;exact bD p2 f2
     ·
      rw[fZ bt19]at hm;refine qE (a2 y3 (w2 r0 k0a)) ?_;refine qI (w2 r0 k0a) (λbt25=> ?_) (λbt25=> ?_)
      ·
       rw[fX bt25]at hm;obtain⟨s1,e1,hm⟩:=oB hm;refine qW 1 (w2 r0 k0a) (FG.apX (aE8 (n:=n) IH) e1 p0 ⟨k0a,n0a⟩) ?_;rintro _ H1 ⟨rfl,F1,p1,g1⟩;obtain⟨f1,⟨st1,r1⟩,⟨k1a,n1a⟩⟩:=jK f0 p1 g1 k0a n0a;refine dH ?_;injection hm with hm;subst hm;exact bD p1 f1
      ·
       rw[fZ bt25]at hm;refine qE (a2 y3 (w2 r0 k0a)) ?_;refine qI (w2 r0 k0a) (λbt29=> ?_) (λbt29=> ?_)
       ·
        rw[fX bt29]at hm;obtain⟨s1,e1,hm⟩:=oB hm;refine qW 1 (w2 r0 k0a) (FN.apX (cB toks ip) e1 p0) ?_;rintro _ H1 ⟨rfl,F1,p1,g1⟩;obtain⟨f1,⟨st1,r1⟩,⟨k1a,n1a⟩⟩:=jK f0 p1 g1 k0a n0a;refine qL [0] (w2 r1 k1a) ?_;obtain⟨s2,e2,hm⟩:=oB hm;refine qW 1 (w2 r1 k1a) (FN.apX (bF toks ip [58]) e2 p1) ?_;rintro _ H2 ⟨rfl,F2,p2,g2⟩;obtain⟨f2,⟨st2,r2⟩,⟨k2a,n2a⟩⟩:=jK f1 p2 g2 k1a n1a;obtain⟨s3,e3,hm⟩:=oB hm;refine qW 1 (w2 r2 k2a) (FG.apX (IH .typeExpr) e3 p2 ⟨k2a,n2a⟩) ?_;rintro _ H3 ⟨rfl,F3,p3,g3⟩;obtain⟨f3,⟨st3,r3⟩,⟨k3a,n3a⟩⟩:=jK f2 p3 g3 k2a n2a;obtain⟨s4,e4,hm⟩:=oB hm;refine qW 1 (w2 r3 k3a) (FN.apX (bF toks ip [61]) e4 p3) ?_;rintro _ H4 ⟨rfl,F4,p4,g4⟩;obtain⟨f4,⟨st4,r4⟩,⟨k4a,n4a⟩⟩:=jK f3 p4 g4 k3a n3a;obtain⟨s5,e5,hm⟩:=oB hm;refine qW 1 (w2 r4 k4a) (FG.apX (IH .expr) e5 p4 ⟨k4a,n4a⟩) ?_;rintro _ H5 ⟨rfl,F5,p5,g5⟩;obtain⟨f5,⟨st5,r5⟩,⟨k5a,n5a⟩⟩:=jK f4 p5 g5 k4a n4a;obtain⟨s6,e6,hm⟩:=oB hm;refine qW 1 (w2 r5 k5a) (FN.apX (bF toks ip [59]) e6 p5) ?_;rintro _ H6 ⟨rfl,F6,p6,g6⟩;obtain⟨f6,⟨st6,r6⟩,⟨k6a,n6a⟩⟩:=jK f5 p6 g6 k5a n5a;refine dH ?_;injection hm with hm;subst hm;exact bD p6 f6
       ·
        rw[fZ bt29]at hm;refine qE (a2 y3 (w2 r0 k0a)) ?_;refine qI (w2 r0 k0a) (λbt43=> ?_) (λbt43=> ?_)
        ·
         rw[fX bt43]at hm;refine qL [0] (w2 r0 k0a) ?_;obtain⟨s1,e1,hm⟩:=oB hm;refine qW 1 (w2 r0 k0a) (FN.apX (cB toks ip) e1 p0) ?_;rintro _ H1 ⟨rfl,F1,p1,g1⟩;obtain⟨f1,⟨st1,r1⟩,⟨k1a,n1a⟩⟩:=jK f0 p1 g1 k0a n0a;obtain⟨s2,e2,hm⟩:=oB hm;refine qW 1 (w2 r1 k1a) (FN.apX (bF toks ip [40]) e2 p1) ?_;rintro _ H2 ⟨rfl,F2,p2,g2⟩;obtain⟨f2,⟨st2,r2⟩,⟨k2a,n2a⟩⟩:=jK f1 p2 g2 k1a n1a;obtain⟨s3,e3,hm⟩:=oB hm;refine qW 1 (w2 r2 k2a) (FG.apX (IH (.params ([41]))) e3 p2 ⟨k2a,n2a⟩) ?_;rintro _ H3 ⟨rfl,F3,p3,g3⟩;obtain⟨f3,⟨st3,r3⟩,⟨k3a,n3a⟩⟩:=jK f2 p3 g3 k2a n2a;obtain⟨s4,e4,hm⟩:=oB hm;refine qW 1 (w2 r3 k3a) (FN.apX (bF toks ip [61]) e4 p3) ?_;rintro _ H4 ⟨rfl,F4,p4,g4⟩;obtain⟨f4,⟨st4,r4⟩,⟨k4a,n4a⟩⟩:=jK f3 p4 g4 k3a n3a;obtain⟨s5,e5,hm⟩:=oB hm;refine qW 1 (w2 r4 k4a) (FG.apX (IH .expr) e5 p4 ⟨k4a,n4a⟩) ?_;rintro _ H5 ⟨rfl,F5,p5,g5⟩;obtain⟨f5,⟨st5,r5⟩,⟨k5a,n5a⟩⟩:=jK f4 p5 g5 k4a n4a;obtain⟨s6,e6,hm⟩:=oB hm;refine qW 1 (w2 r5 k5a) (FN.apX (bF toks ip [59]) e6 p5) ?_;rintro _ H6 ⟨rfl,F6,p6,g6⟩;obtain⟨f6,⟨st6,r6⟩,⟨k6a,n6a⟩⟩:=jK f5 p6 g6 k5a n5a;refine dH ?_;injection hm with hm;subst hm;exact bD p6 f6
        ·
         rw[fZ bt43]at hm;refine qK ?_;refine dH ?_;injection hm with hm;subst hm;exact bD p0 f0
   ·
    rw[fZ bt13]at hm;refine qE (a2 y3 (w2 r0 k0a)) ?_;refine qI (w2 r0 k0a) (λbt13=> ?_) (λbt13=> ?_)
    ·
     rw[fX bt13]at hm;obtain⟨s1,e1,hm⟩:=oB hm;refine qW 2 (w2 r0 k0a) (FG.apX (aAo (n:=n) IH (k)) e1 p0 ⟨k0a,n0a⟩) ?_;rintro _ H1 ⟨rfl,F1,p1,g1⟩;obtain⟨f1,⟨st1,r1⟩,⟨k1a,n1a⟩⟩:=jK f0 p1 g1 k0a n0a;refine dH ?_;injection hm with hm;subst hm;exact bD p1 f1
    ·
     rw[fZ bt13]at hm;refine qE (a2 y3 (w2 r0 k0a)) ?_;refine qI (w2 r0 k0a) (λbt19=> ?_) (λbt19=> ?_)
     ·
      rw[fX bt19]at hm;obtain⟨s1,e1,hm⟩:=oB hm;refine qW 1 (w2 r0 k0a) (FN.apX (cB toks ip) e1 p0) ?_;rintro _ H1 ⟨rfl,F1,p1,g1⟩;obtain⟨f1,⟨st1,r1⟩,⟨k1a,n1a⟩⟩:=jK f0 p1 g1 k0a n0a;obtain⟨s2,e2,hm⟩:=oB hm;refine qW 1 (w2 r1 k1a) (FG.apX (HW (n:=n) IH) e2 p1 ⟨k1a,n1a⟩) ?_;rintro _ H2 ⟨rfl,F2,p2,g2⟩;obtain⟨f2,⟨st2,r2⟩,⟨k2a,n2a⟩⟩:=jK f1 p2 g2 k1a n1a;refine dH ?_;injection hm with hm;subst hm;exact bD p2 f2
     ·
      rw[fZ bt19]at hm;refine qE (a2 y3 (w2 r0 k0a)) ?_;refine qI (w2 r0 k0a) (λbt25=> ?_) (λbt25=> ?_)
      ·
       rw[fX bt25]at hm;obtain⟨s1,e1,hm⟩:=oB hm;refine qW 1 (w2 r0 k0a) (FG.apX (aE8 (n:=n) IH) e1 p0 ⟨k0a,n0a⟩) ?_;rintro _ H1 ⟨rfl,F1,p1,g1⟩;obtain⟨f1,⟨st1,r1⟩,⟨k1a,n1a⟩⟩:=jK f0 p1 g1 k0a n0a;refine dH ?_;injection hm with hm;subst hm;exact bD p1 f1
      ·
       rw[fZ bt25]at hm;refine qE (a2 y3 (w2 r0 k0a)) ?_;refine qI (w2 r0 k0a) (λbt29=> ?_) (λbt29=> ?_)
       ·
        rw[fX bt29]at hm;refine qL [0] (w2 r0 k0a) ?_;obtain⟨s1,e1,hm⟩:=oB hm;refine qW 1 (w2 r0 k0a) (FN.apX (cB toks ip) e1 p0) ?_;rintro _ H1 ⟨rfl,F1,p1,g1⟩;obtain⟨f1,⟨st1,r1⟩,⟨k1a,n1a⟩⟩:=jK f0 p1 g1 k0a n0a;obtain⟨s2,e2,hm⟩:=oB hm;refine qW 1 (w2 r1 k1a) (FN.apX (bF toks ip [58]) e2 p1) ?_;rintro _ H2 ⟨rfl,F2,p2,g2⟩;obtain⟨f2,⟨st2,r2⟩,⟨k2a,n2a⟩⟩:=jK f1 p2 g2 k1a n1a;obtain⟨s3,e3,hm⟩:=oB hm;refine qW 1 (w2 r2 k2a) (FG.apX (IH .typeExpr) e3 p2 ⟨k2a,n2a⟩) ?_;rintro _ H3 ⟨rfl,F3,p3,g3⟩;obtain⟨f3,⟨st3,r3⟩,⟨k3a,n3a⟩⟩:=jK f2 p3 g3 k2a n2a;obtain⟨s4,e4,hm⟩:=oB hm;refine qW 1 (w2 r3 k3a) (FN.apX (bF toks ip [61]) e4 p3) ?_;rintro _ H4 ⟨rfl,F4,p4,g4⟩;obtain⟨f4,⟨st4,r4⟩,⟨k4a,n4a⟩⟩:=jK f3 p4 g4 k3a n3a;obtain⟨s5,e5,hm⟩:=oB hm;refine qW 1 (w2 r4 k4a) (FG.apX (IH .expr) e5 p4 ⟨k4a,n4a⟩) ?_;rintro _ H5 ⟨rfl,F5,p5,g5⟩;obtain⟨f5,⟨st5,r5⟩,⟨k5a,n5a⟩⟩:=jK f4 p5 g5 k4a n4a;obtain⟨s6,e6,hm⟩:=oB hm;refine qW 1 (w2 r5 k5a) (FN.apX (bF toks ip [59]) e6 p5) ?_;rintro _ H6 ⟨rfl,F6,p6,g6⟩;obtain⟨f6,⟨st6,r6⟩,⟨k6a,n6a⟩⟩:=jK f5 p6 g6 k5a n5a;refine dH ?_;injection hm with hm;subst hm;exact bD p6 f6
       ·
        rw[fZ bt29]at hm;refine qL [0,4] (w2 r0 k0a) ?_;refine qE (a2 y3 (w2 r0 k0a)) ?_;refine qI (w2 r0 k0a) (λbt43=> ?_) (λbt43=> ?_)
        ·
         rw[fX bt43]at hm;obtain⟨s1,e1,hm⟩:=oB hm;refine qW 1 (w2 r0 k0a) (FN.apX (cB toks ip) e1 p0) ?_;rintro _ H1 ⟨rfl,F1,p1,g1⟩;obtain⟨f1,⟨st1,r1⟩,⟨k1a,n1a⟩⟩:=jK f0 p1 g1 k0a n0a;obtain⟨s2,e2,hm⟩:=oB hm;refine qW 1 (w2 r1 k1a) (FN.apX (bF toks ip [40]) e2 p1) ?_;rintro _ H2 ⟨rfl,F2,p2,g2⟩;obtain⟨f2,⟨st2,r2⟩,⟨k2a,n2a⟩⟩:=jK f1 p2 g2 k1a n1a;obtain⟨s3,e3,hm⟩:=oB hm;refine qW 1 (w2 r2 k2a) (FG.apX (IH (.params ([41]))) e3 p2 ⟨k2a,n2a⟩) ?_;rintro _ H3 ⟨rfl,F3,p3,g3⟩;obtain⟨f3,⟨st3,r3⟩,⟨k3a,n3a⟩⟩:=jK f2 p3 g3 k2a n2a;obtain⟨s4,e4,hm⟩:=oB hm;refine qW 1 (w2 r3 k3a) (FN.apX (bF toks ip [61]) e4 p3) ?_;rintro _ H4 ⟨rfl,F4,p4,g4⟩;obtain⟨f4,⟨st4,r4⟩,⟨k4a,n4a⟩⟩:=jK f3 p4 g4 k3a n3a;obtain⟨s5,e5,hm⟩:=oB hm;refine qW 1 (w2 r4 k4a) (FG.apX (IH .expr) e5 p4 ⟨k4a,n4a⟩) ?_;rintro _ H5 ⟨rfl,F5,p5,g5⟩;obtain⟨f5,⟨st5,r5⟩,⟨k5a,n5a⟩⟩:=jK f4 p5 g5 k4a n4a;obtain⟨s6,e6,hm⟩:=oB hm;refine qW 1 (w2 r5 k5a) (FN.apX (bF toks ip [59]) e6 p5) ?_;rintro _ H6 ⟨rfl,F6,p6,g6⟩;obtain⟨f6,⟨st6,r6⟩,⟨k6a,n6a⟩⟩:=jK f5 p6 g6 k5a n5a;refine dH ?_;injection hm with hm;subst hm;exact bD p6 f6
        ·
         rw[fZ bt43]at hm;refine qK ?_;refine dH ?_;injection hm with hm;subst hm;exact bD p0 f0
def m79(toks:List Tk)(n:Nat)(R:dK)(k:Int)(s0:PS):Option PS:=((cA toks [[112,117,98]]) s0).bind λs1=>((cI toks) s1).bind λs2=>((R (.itemBody (k))) s2).bind λs3=>some s3
theorem aFb{toks:List Tk}{ip n:Nat}{R:dK}(IH:kG toks ip R)(b0 b1:Nat)(k:Int):FC Tryz.prog toks ip 98 [.optr b0 0, .optr b1 0] (m79 toks n R k) cE (eX [(0,gO),(b0, .row [.optr ip 0]),(b1, .row [.int .i64 k])]):=by
 refine eQ λs0 s' F0 H0 hm p0 i0=> ?_;obtain⟨⟨k0a,n0a⟩,⟨k0b,n0b⟩,⟨k0c,n0c⟩,_⟩:=i0;obtain⟨st0,r0⟩:=p0.row;have hl:=aW p0.len;have f0:=Fr.refl F0 H0;unfold m79 at hm;refine aF (N:=10) Tryz.func98 rfl rfl z6 λhb'=> ?_;refine qT 2 (a4 y9 aJ iG (w4 r0 k0a k0b k0c)) ?_;obtain⟨s1,e1,hm⟩:=oB hm;refine qN (w4 r0 k0a k0b k0c) (FN.apX (dZ toks ip [[112,117,98]] z7) e1 p0) ?_;rintro _ H1 ⟨rfl,F1,p1,g1⟩;obtain⟨f1,⟨st1,r1⟩,⟨k1a,n1a⟩,⟨k1b,n1b⟩,⟨k1c,n1c⟩⟩:=KB f0 p1 g1 k0a n0a k0b n0b k0c n0c;refine qT 1 (a2 aJ (w4 r1 k1a k1b k1c)) ?_;obtain⟨s2,e2,hm⟩:=oB hm;refine qN (w4 r1 k1a k1b k1c) (FN.apX (bU toks ip) e2 p1) ?_;rintro _ H2 ⟨rfl,F2,p2,g2⟩;obtain⟨f2,⟨st2,r2⟩,⟨k2a,n2a⟩,⟨k2b,n2b⟩,⟨k2c,n2c⟩⟩:=KB f1 p2 g2 k1a n1a k1b n1b k1c n1c;refine qT 2 (a3 y3 aJ (w4 r2 k2a k2b k2c)) ?_;obtain⟨s3,e3,hm⟩:=oB hm;refine qN (w4 r2 k2a k2b k2c) (FG.apX (IH (.itemBody (k))) e3 p2 ⟨k2a,n2a⟩) ?_;rintro _ H3 ⟨rfl,F3,p3,g3⟩;obtain⟨f3,⟨st3,r3⟩,⟨k3a,n3a⟩,⟨k3b,n3b⟩,⟨k3c,n3c⟩⟩:=KB f2 p3 g3 k2a n2a k2b n2b k2c n2c;refine dH ?_;injection hm with hm;subst hm;exact bD p3 f3
def m51(toks:List Tk)(n:Nat)(R:dK)(s0:PS):Option PS:=if eC (aG toks s0.pos) [[112,117,98]]=true then(nR toks s0).bind λsq1=>if(decide (bC (aG toks sq1.pos).text=0)|| !decide ((aG toks sq1.pos).kind=104))=true then((m77 toks n R) s0).bind λs3=>some s3 else((bY (bC (aG toks sq1.pos).text) (m79 toks n R (bC (aG toks sq1.pos).text))) s0).bind λs3=>some s3 else if(decide (bC (aG toks s0.pos).text=0)|| !decide ((aG toks s0.pos).kind=104))=true then((m77 toks n R) s0).bind λs1=>some s1 else((bY (bC (aG toks s0.pos).text) (m79 toks n R (bC (aG toks s0.pos).text))) s0).bind λs1=>some s1
theorem aMx{toks:List Tk}{ip n:Nat}{R:dK}(IH:kG toks ip R):FG toks ip 54 [.optr ip 0] (m51 toks n R) (BA .item):=by
 intro s0 s' F0 H0 hm p0 i0;obtain⟨⟨hg,n0a⟩,_⟩:=i0;obtain⟨st0,r0⟩:=p0.row;have q0:=aB r0;have hl:=aW p0.len;have f0:=Fr.refl F0 H0;have k0a:=aB hg [.row [.optr ip 0]];have b0a:=aB k0a;have k0b:(H0++ [.row [.optr ip 0]])[H0.length]? =some (.row [.optr ip 0]):=z6
 have n0b:=p0.new0;have b0b:=aB k0b;unfold m51 at hm;refine aF (N:=28) Tryz.func54 rfl rfl z6 λhb'=> ?_;refine qE (a4 aJ r0 q0 hg) ?_;refine qT 1 (a4 aJ r0 q0 hg) ?_;refine qP (a3 r0 q0 hg) zL (vQ (lD r0) hl p0.pos) ?_;refine qX (a4 vF r0 q0 hg) ?_;refine qT 2 (a5 y9 aJ iG r0 (a2 q0 hg)) ?_;refine qP (a3 r0 q0 hg) dF (fL (lD r0) hl p0.pos [[112,117,98]] z7) ?_;refine oN ?_;refine qI (a3 r0 q0 hg) (λbt8=> ?_) (λbt8=> ?_)
 ·
  rw[fX bt8]at hm;refine qT 1 (a4 aJ r0 q0 hg) ?_;obtain⟨sq1,e1,hm⟩:=oB hm;refine qA (a3 r0 q0 hg) HJ (CP e1 p0 [.row [.optr ip 0], .row [.int .i64 (aG toks s0.pos).kind, .str (aG toks s0.pos).text]]) ?_;rintro _ H1 ⟨iq1,Fq1,rfl,pq1,g1⟩;obtain⟨F1,nf,p1,f1⟩:=rG p0 f0 g1;obtain⟨st1,r1⟩:=p1.row;have q1:=aB r1;obtain⟨k1a,n1a⟩:=cT g1 (aB hg [.row [.optr ip 0], .row [.int .i64 (aG toks s0.pos).kind, .str (aG toks s0.pos).text]]) n0a nf;obtain⟨k1b,n1b⟩:=cT g1 (show(H0++ [.row [.optr ip 0], .row [.int .i64 (aG toks s0.pos).kind, .str (aG toks s0.pos).text]])[H0.length]? =some (.row [.optr ip 0])by simp) p0.new0 nf;obtain⟨k1c,n1c⟩:=cT g1 (show(H0++ [.row [.optr ip 0], .row [.int .i64 (aG toks s0.pos).kind, .str (aG toks s0.pos).text]])[H0.length+1]? =some (.row [.int .i64 (aG toks s0.pos).kind, .str (aG toks s0.pos).text])by simp) (p0.new 1) nf;obtain⟨stq1,rq1⟩:=pq1.row;have qq1:=aB rq1;have nb12:(H0.length+1=H1.length)=False:=by have:=lG k1c;simp;omega
  refine qP (a5 hg r1 q1 k1a (a3 k1b k1c nb12)) zL (vQ (by first|exact rq1|exact qq1 _) hl pq1.pos) ?_;refine qX (a5 vF hg r1 q1 (a4 k1a k1b k1c nb12)) ?_;refine wQ ?_;refine dQ (λH2=>∃F2,eG toks ip s0 F2 H2/\Fr F0 F2 H0 H2/\(H2[0]? =some gO/\0∉F2)/\(H2[H0.length]? =some (.row [.optr ip 0])/\H0.length∉F2)/\H2[H0.length+1]? =some (.row [.int .i64 (aG toks sq1.pos).kind, .str (aG toks sq1.pos).text])) ?_ ?_
  ·have hb:=lG k1c;have hne:∀b,b≠H0.length+1->∀o,(H1.set (H0.length+1) o)[b]? =H1[b]? :=λb hb o=>aQy (Ne.symm hb);refine⟨F1,p1.fr λi hi=>hne i (λe=>n1c (e▸hi)) _,⟨by rw[lS];exact f1.len,λid h1 h2=>by rw[hne id z8];exact f1.same id h1 h2,f1.ids⟩,⟨by rw[hne 0 z8];exact k1a,n1a⟩,⟨by rw[hne _ z8];exact k1b,n1b⟩,by rw[aQx hb]⟩
  rintro H2 ⟨F2,p2,f2,⟨k2a,n2a⟩,⟨k2b,n2b⟩,kt2⟩;obtain⟨st2,r2⟩:=p2.row;have q2:=aB r2;have b2a:=aB k2a;have b2b:=aB k2b;have qt2:=aB kt2;refine wR ?_;refine qU 2 (a5 y9 vF hg nb12 (a5 r2 q2 k2a k2b (a4 kt2 b2a b2b qt2))) ?_;refine qP (a5 hg nb12 r2 q2 (a5 k2a k2b kt2 b2a (a2 b2b qt2))) aFa (DM (by first|exact k2a|exact b2a _) (aG toks sq1.pos).text) ?_;refine qX (a5 y3 hg nb12 r2 (a5 q2 k2a k2b kt2 (a3 b2a b2b qt2))) ?_;refine gE (a5 y3 vF hg nb12 (a5 r2 q2 k2a k2b (a4 kt2 b2a b2b qt2))) ?_;refine qI (a5 hg r1 q1 k1a (a3 k1b k1c nb12)) (λbt21=> ?_) (λbt21=> ?_)
  ·
   rw[fX bt21]at hm;refine qL [1] (a5 hg r1 q1 k1a (a3 k1b k1c nb12)) ?_;refine wQ ?_;have k2a:=aB k2a [.row [.int .i64 (bC (aG toks sq1.pos).text)]];have k2b:=aB k2b [.row [.int .i64 (bC (aG toks sq1.pos).text)]];have k2c:(H2++ [.row [.int .i64 (bC (aG toks sq1.pos).text)]])[H2.length]? =some (.row [.int .i64 (bC (aG toks sq1.pos).text)]):=z6
   have n2c:=p2.new0;have b2a:=aB k2a;have b2b:=aB k2b;have b2c:=aB k2c;refine wR ?_;refine qU 1 (a5 aJ hg nb12 r2 (a5 q2 k2a k2b kt2 (a3 b2a b2b qt2))) ?_;obtain⟨s3,e3,hm⟩:=oB hm;refine oC (by simp only[kC,seval,aA,qC,hg,nb12,r2,q2,k2a,k2b,kt2,b2a,b2b,qt2]<;>with_reducible rfl) (by simp only[kC,seval,aA,qC,hg,nb12,r2,q2,k2a,k2b,kt2,b2a,b2b,qt2]) z7 aFv ((by first|exact FG.ap0 (FH (n:=n) IH) e3 p2 ⟨k2a,n2a⟩|exact FG.ap' (FH (n:=n) IH) e3 p2 ⟨k2a,n2a⟩|exact FG.ap (FH (n:=n) IH) e3 p2 ⟨k2a,n2a⟩)) ?_;rintro _ H3 ⟨rfl,F3,p3,g3⟩;have f3:=f2.stX g3;obtain⟨st3,r3⟩:=p3.row;have q3:=aB r3;obtain⟨k3a,n3a⟩:=g3.gtX k2a n2a;have b3a:=aB k3a;obtain⟨k3b,n3b⟩:=g3.gtX k2b n2b;have b3b:=aB k3b;obtain⟨k3c,n3c⟩:=g3.gtX k2c n2c;have b3c:=aB k3c;refine oN ?_;refine wQ ?_;refine wT ⟨.inr rfl,_,rfl, ?_⟩;injection hm with hm;subst hm;exact bD p3 f3
  ·
   rw[fZ bt21]at hm;refine qK ?_;refine qL [1,3] (a5 hg r1 q1 k1a (a3 k1b k1c nb12)) ?_;refine wQ ?_;have k2a:=aB k2a [.row [.int .i64 (bC (aG toks sq1.pos).text)]];have k2b:=aB k2b [.row [.int .i64 (bC (aG toks sq1.pos).text)]];have k2c:(H2++ [.row [.int .i64 (bC (aG toks sq1.pos).text)]])[H2.length]? =some (.row [.int .i64 (bC (aG toks sq1.pos).text)]):=z6
   have n2c:=p2.new0;have b2a:=aB k2a;have b2b:=aB k2b;have b2c:=aB k2c;refine wR ?_;refine qU 3 (a5 y3 aJ hg nb12 (a5 r2 q2 k2a k2b (a4 kt2 b2a b2b qt2))) ?_;obtain⟨s3,e3,hm⟩:=oB hm;refine qN (a5 hg nb12 kt2 qt2 (w3 r2 k2a k2b)) (FC.apX (cK toks ip (bC (aG toks sq1.pos).text) 98 [] [.optr (H0.length) 0, .optr (H2.length) 0] aFs (dM [(0,gO),(H0.length, .row [.optr ip 0]),(H2.length, .row [.int .i64 (bC (aG toks sq1.pos).text)])]) (aFb (n:=n) IH (H0.length) (H2.length) (bC (aG toks sq1.pos).text))) e3 p2 ⟨⟨k2a,n2a⟩,⟨k2b,n2b⟩,⟨k2c,n2c⟩,trivial⟩) ?_;rintro _ H3 ⟨rfl,F3,p3,g3⟩;have f3:=f2.stX g3;obtain⟨st3,r3⟩:=p3.row;have q3:=aB r3;obtain⟨k3a,n3a⟩:=g3.gtX k2a n2a;have b3a:=aB k3a;obtain⟨k3b,n3b⟩:=g3.gtX k2b n2b;have b3b:=aB k3b;obtain⟨k3c,n3c⟩:=g3.gtX k2c n2c;have b3c:=aB k3c;refine dH ?_;injection hm with hm;subst hm;exact bD p3 f3
 ·
  rw[fZ bt8]at hm;refine qK ?_;refine qT 2 (a5 y9 vF r0 q0 hg) ?_;refine qP (a3 r0 q0 hg) aFa (DM (aB hg _) (aG toks s0.pos).text) ?_;refine qX (a4 y3 r0 q0 hg) ?_;refine wQ ?_;have k0c:(H0++ [.row [.optr ip 0], .row [.int .i64 (aG toks s0.pos).kind, .str (aG toks s0.pos).text], .row [.int .i64 (bC (aG toks s0.pos).text)]])[H0.length+2]? =some (.row [.int .i64 (bC (aG toks s0.pos).text)]):=z6
  have n0c:=p0.new 2;have b0c:=aB k0c;have k0b:(H0++ [.row [.optr ip 0], .row [.int .i64 (aG toks s0.pos).kind, .str (aG toks s0.pos).text], .row [.int .i64 (bC (aG toks s0.pos).text)]])[H0.length]? =some (.row [.optr ip 0]):=z6
  have b0b:=aB k0b;have k0a:=aB hg [.row [.optr ip 0], .row [.int .i64 (aG toks s0.pos).kind, .str (aG toks s0.pos).text], .row [.int .i64 (bC (aG toks s0.pos).text)]];have b0a:=aB k0a;refine sR (by simp only[jG,jO,jN,seval,y3,vF,aA,qC,r0,q0,hg]<;>with_reducible rfl) z7 (by repeat (first|exact dI.base _|with_reducible apply dI.keep|apply dI.drop)) ?_;refine qI (a3 r0 q0 hg) (λbt21=> ?_) (λbt21=> ?_)
  ·
   rw[fX bt21]at hm;refine qL [1] (a3 r0 q0 hg) ?_;refine qT 1 (a4 aJ r0 q0 hg) ?_;obtain⟨s1,e1,hm⟩:=oB hm;refine oC (by simp only[kC,seval,aA,qC,r0,q0,hg]<;>with_reducible rfl) (by simp only[kC,seval,aA,qC,r0,q0,hg]) z7 aFv ((by first|exact FG.ap0 (FH (n:=n) IH) e1 p0 ⟨k0a,n0a⟩|exact FG.ap' (FH (n:=n) IH) e1 p0 ⟨k0a,n0a⟩|exact FG.ap (FH (n:=n) IH) e1 p0 ⟨k0a,n0a⟩)) ?_;rintro _ H1 ⟨rfl,F1,p1,g1⟩;have f1:=f0.stX g1;obtain⟨st1,r1⟩:=p1.row;have q1:=aB r1;obtain⟨k1a,n1a⟩:=g1.gtX k0a n0a;have b1a:=aB k1a;obtain⟨k1b,n1b⟩:=g1.gtX k0b n0b;have b1b:=aB k1b;obtain⟨k1c,n1c⟩:=g1.gtX k0c n0c;have b1c:=aB k1c;refine oN ?_;refine wQ ?_;refine wT ⟨.inr rfl,_,rfl, ?_⟩;injection hm with hm;subst hm;exact bD p1 f1
  ·
   rw[fZ bt21]at hm;refine qK ?_;refine qL [1,3] (a3 r0 q0 hg) ?_;refine qT 3 (a5 y3 aJ r0 q0 hg) ?_;obtain⟨s1,e1,hm⟩:=oB hm;refine qN (a2 hg (w1 r0)) (FC.apX (cK toks ip (bC (aG toks s0.pos).text) 98 [] [.optr (H0.length) 0, .optr (H0.length+2) 0] aFs (dM [(0,gO),(H0.length, .row [.optr ip 0]),(H0.length+2, .row [.int .i64 (bC (aG toks s0.pos).text)])]) (aFb (n:=n) IH (H0.length) (H0.length+2) (bC (aG toks s0.pos).text))) e1 p0 ⟨⟨k0a,n0a⟩,⟨k0b,n0b⟩,⟨k0c,n0c⟩,trivial⟩) ?_;rintro _ H1 ⟨rfl,F1,p1,g1⟩;have f1:=f0.stX g1;obtain⟨st1,r1⟩:=p1.row;have q1:=aB r1;obtain⟨k1a,n1a⟩:=g1.gtX k0a n0a;have b1a:=aB k1a;obtain⟨k1b,n1b⟩:=g1.gtX k0b n0b;have b1b:=aB k1b;obtain⟨k1c,n1c⟩:=g1.gtX k0c n0c;have b1c:=aB k1c;refine dH ?_;injection hm with hm;subst hm;exact bD p1 f1
def SI(toks:List Tk)(n:Nat)(R:dK):dK
 | .block=>aMj toks n R| .statement=>aBh toks n R| .letS=>aG1 toks n R| .returnStmt=>aHx toks n R| .expr=>aDu toks n R| .binary l=>aDa toks n R l| .unary=>aK4 toks n R| .arguments=>aF8 toks n R
 | .postfx=>aH6 toks n R| .primary=>aKm toks n R| .ifExpr=>aGn toks n R| .matchE=>aIc toks n R| .structLit=>aG9 toks n R| .lambda=>aKi toks n R| .pattern=>aMf toks n R| .path b=>aH3 toks n R b
 | .typeExpr=>aDz toks n R| .typeParams=>aIe toks n R| .params c=>aHm toks n R c| .function b=>aLa toks n R b| .itemBody k=>m82 toks n R k| .item=>m51 toks n R
def TK(toks:List Tk)(n:Nat):Nat->dK
 |0=>λ_ _=>none
 |k+1=>SI toks n (TK toks n k)
theorem BY(toks:List Tk)(ip n:Nat):∀k,kG toks ip (TK toks n k)
 |0=>λfn=>FG.none λ_=>rfl
 |k+1=>λfn=>match fn with
  | .block=>aHq (n:=n) (BY toks ip n k)| .statement=>aL6 (n:=n) (BY toks ip n k)| .letS=>aHh (n:=n) (BY toks ip n k)| .returnStmt=>aGs (n:=n) (BY toks ip n k)| .expr=>WX (n:=n) (BY toks ip n k)
  | .binary l=>aGo (n:=n) (BY toks ip n k) l| .unary=>aH4 (n:=n) (BY toks ip n k)| .arguments=>aIj (n:=n) (BY toks ip n k)| .postfx=>aLb (n:=n) (BY toks ip n k)| .primary=>aJa (n:=n) (BY toks ip n k)
  | .ifExpr=>aLi (n:=n) (BY toks ip n k)| .matchE=>aLr (n:=n) (BY toks ip n k)| .structLit=>aGm (n:=n) (BY toks ip n k)| .lambda=>aIt (n:=n) (BY toks ip n k)| .pattern=>aId (n:=n) (BY toks ip n k)| .path b=>aIv (n:=n) (BY toks ip n k) b
  | .typeExpr=>YR (n:=n) (BY toks ip n k)| .typeParams=>aGd (n:=n) (BY toks ip n k)| .params c=>aGf (n:=n) (BY toks ip n k) c| .function b=>aH0 (n:=n) (BY toks ip n k) b| .itemBody j=>aOf (n:=n) (BY toks ip n k) j| .item=>aMx (n:=n) (BY toks ip n k)
def zS(c:UInt8):Bool:=c==32||c==9||c==10||c==13
def IW(c:UInt8):Bool:=(decide (97<=c)&&decide (c<=122))||(decide (65<=c)&&decide (c<=90))||c==95
def rZ(c:UInt8):Bool:=decide (48<=c)&&decide (c<=57)
def sW(c:UInt8):Bool:= !(c==10)
def sU(c:UInt8):Bool:=IW c||rZ c
def iO(p:UInt8->Bool):List UInt8->Nat
 | []=>0
 |c::r=>if p c then iO p r+1 else 0
theorem JE(p:UInt8->Bool):∀s,iO p s<=s.length
 | []=>aQj _
 |c::r=>by have:=JE p r;simp only[iO,aQ0];split<;>omega
theorem XV{p:UInt8->Bool}{c:UInt8}{r:List UInt8}:0<iO p (c::r)↔p c=true:=by
 simp only[iO];split<;>simp_all
theorem UZ{p:UInt8->Bool}{s:List UInt8}{i:Nat}(h:i<s.length):iO p (s.drop i)=if p s[i]then iO p (s.drop (i+1))+1 else 0:=by
 rw[aR6 h,iO]
def xK:Bool->List UInt8->Option Nat
 |_,[]=>none
 |e,c::r=>if c=10 then none else if c=34/\e=false then some 1 else(xK (decide (c=92)&& !e) r).map (· +1)
def yV:List UInt8->Option Nat
 | []=>none
 | [c]=>if c=34 then some 1 else none
 |c::d::r=>if c=10 then none else if c=34 then some 1 else if c=92/\d≠10 then(yV r).map (· +2)else(yV (d::r)).map (· +1)
theorem IT:∀s,yV s=xK false s
 | []=>rfl
 | [c]=>by
  simp only[yV,xK]
  by_cases h1:c=34
  ·subst h1;simp
  ·by_cases h2:c=10<;>simp[h1,h2]
 |c::d::r=>by
  have i1:=IT r;have i2:=IT (d::r);simp only[yV];rw[xK]
  by_cases h1:c=10
  ·simp[h1]
  ·rw[if_neg h1,if_neg h1]
   by_cases h2:c=34
   ·simp[h2]
   ·have e2:(c=34/\(false:Bool)=false)=False:=by simp[h2]
    simp only[h2,if_false,e2]
    by_cases h3:c=92
    ·by_cases h4:d=10
     ·have e3:(c=92/\d≠10)=False:=by simp[h4]
      simp only[e3,if_false];rw[i2];simp[xK,h3,h4]
     ·have e3:(c=92/\d≠10)=True:=by simp[h3,h4]
      simp only[e3,if_true];rw[i1];simp[xK,h3,h4,Option.map_map,Function.comp_def]
    ·have e3:(c=92/\d≠10)=False:=by simp[h3]
     simp only[e3,if_false];rw[i2];simp[h3]
theorem SU:∀(s:List UInt8) (e:Bool) (k:Nat),xK e s=some k->1<=k/\k<=s.length
 | [],e,k,h=>by cases h
 |c::r,e,k,h=>by
  rw[xK]at h
  split at h
  ·cases h
  ·split at h
   ·cases h;simp
   ·cases hq:xK (decide (c=92)&& !e) r with
    |none=>rw[hq]at h;cases h
    |some m=>
     rw[hq]at h;simp only[aQz,Option.some.injEq]at h;have:=SU r _ m hq;simp only[aQ0];omega
def bytesOf(s:String):List UInt8:=s.toUTF8.data.toList
def kwL:List (List UInt8):= [[117,115,101],[112,117,98],[97,115],[102,110],[115,116,114,117,99,116],[101,110,117,109],[116,114,97,105,116],[105,109,112,108],[102,111,114],[99,111,110,115,116],[109,97,99,114,111],[108,101,116],[109,117,116],[119,104,105,108,101],[114,101,116,117,114,110],[109,97,116,99,104],[105,102],[101,108,115,101],[110,101,119],[116,114,117,101],[102,97,108,115,101],[116,121,112,101]]
def aBp:List (List UInt8):= ["::", "=>", "->", "==", "&&", "||"].map bytesOf
def aJf:List UInt8:= [40,41,123,125,91,93,60,62,44,59,58,46,61,43,45,42,47,33,38,124]
def dL(s:List UInt8):Nat×Int:=
 match s with
 | []=>(0,0)
 |c::r=>
  if zS c then(iO zS s,101)
  else if s.take 2= [47,47]then(iO sW s,102)
  else if IW c then(if kwL.contains (s.take (iO sU s))then(iO sU s,104)else(iO sU s,103))
  else if rZ c then(iO rZ s,105)
  else if c=34 then(match xK false r with|some k=>(k+1,106)|none=>(iO sW s,108))
  else if s.length>1/\aBp.contains (s.take 2)=true then(2,107)
  else if aJf.contains c then(1,107)
  else(1,108)
theorem oJ{s:List UInt8}(h:s≠ []):1<=(dL s).1/\(dL s).1<=s.length:=by
 cases s with
 |nil=>exact absurd rfl h
 |cons c r=>
  have key:∀p:UInt8->Bool,p c=true->1<=iO p (c::r)/\iO p (c::r)<=(c::r).length:=λp hp=>⟨XV.2 hp,JE _ _⟩;unfold dL;simp only
  split
  ·exact key _ ‹_›
  ·split
   ·rename_i h2;refine key _ ?_;have:c=47:=by simpa using(List.cons.inj h2).1
    subst this;rfl
   ·split
    ·rename_i h3;have:=key sU (by unfold sU;rw[h3];rfl)
     split<;>exact this
    ·split
     ·exact key _ ‹_›
     ·split
      ·rename_i h5
       split
       ·rename_i k hk;have:=SU _ _ _ hk;simp only[aQ0];omega
       ·refine key _ ?_;subst h5;rfl
      ·split
       ·rename_i h6;simp only[aQ0]at h6⊢;omega
       ·split<;>simp
def UM:Nat->List UInt8->List Tk
 |0,_=> []
 |n+1,s=>if s= []then []else⟨(dL s).2,s.take (dL s).1⟩::UM n (s.drop (dL s).1)
theorem PE(n:Nat)(h:n<256):(UInt8.ofNat n).toNat=n:=by rw[UInt8.toNat_ofNat'];exact Nat.mod_eq_of_lt h
theorem GA(c:UInt8)(n:Nat)(h:n<256):decide ((c.toNat:Int)>=n)=decide (UInt8.ofNat n<=c):=by
 rw[decide_eq_decide,UInt8.le_iff_toNat_le,PE n h];omega
theorem FJ(c:UInt8)(n:Nat)(h:n<256):decide ((c.toNat:Int)<=n)=decide (c<=UInt8.ofNat n):=by
 rw[decide_eq_decide,UInt8.le_iff_toNat_le,PE n h];omega
theorem wM(c:UInt8)(n:Nat)(h:n<256):decide ((c.toNat:Int)=n)=(c==UInt8.ofNat n):=by
 have e:(c==UInt8.ofNat n)=decide (c=UInt8.ofNat n):=by rw[aRr];simp
 rw[e,decide_eq_decide,<-UInt8.toNat_inj,PE n h];omega
theorem DL(c:UInt8):PC Tryz.prog 129 [.int .u8 c.toNat] (.bool (IW c)):=by
 have g97:decide ((c.toNat:Int)>=97)=decide ((97:UInt8)<=c):=GA c 97 z7;have l122:decide ((c.toNat:Int)<=122)=decide (c<=(122:UInt8)):=FJ c 122 z7;have g65:decide ((c.toNat:Int)>=65)=decide ((65:UInt8)<=c):=GA c 65 z7;have l90:decide ((c.toNat:Int)<=90)=decide (c<=(90:UInt8)):=FJ c 90 z7;have e95:decide ((c.toNat:Int)=95)=(c==95):=wM c 95 z7;have g48:decide ((c.toNat:Int)>=48)=decide ((48:UInt8)<=c):=GA c 48 z7;have l57:decide ((c.toNat:Int)<=57)=decide (c<=(57:UInt8)):=FJ c 57 z7;refine fI (N:=21) Tryz.func129 rfl rfl z6 (by simp[bW.int,bW.str]) (.bool _) ?_;refine wI ?_;refine gE y5 ?_;refine wQ ?_;refine wT ⟨.inr rfl,_,rfl, ?_⟩;simp only[jN,seval,aA,qC,g97,l122,g65,l90,e95,g48,l57]
 try rfl
theorem xY(c:UInt8):PC Tryz.prog 131 [.int .u8 c.toNat] (.bool (rZ c)):=by
 have g97:decide ((c.toNat:Int)>=97)=decide ((97:UInt8)<=c):=GA c 97 z7;have l122:decide ((c.toNat:Int)<=122)=decide (c<=(122:UInt8)):=FJ c 122 z7;have g65:decide ((c.toNat:Int)>=65)=decide ((65:UInt8)<=c):=GA c 65 z7;have l90:decide ((c.toNat:Int)<=90)=decide (c<=(90:UInt8)):=FJ c 90 z7;have e95:decide ((c.toNat:Int)=95)=(c==95):=wM c 95 z7;have g48:decide ((c.toNat:Int)>=48)=decide ((48:UInt8)<=c):=GA c 48 z7;have l57:decide ((c.toNat:Int)<=57)=decide (c<=(57:UInt8)):=FJ c 57 z7;refine fI (N:=9) Tryz.func131 rfl rfl z6 (by simp[bW.int,bW.str]) (.bool _) ?_;refine wI ?_;refine gE y5 ?_;refine wQ ?_;refine wT ⟨.inr rfl,_,rfl, ?_⟩;simp only[jN,seval,aA,qC,g97,l122,g65,l90,e95,g48,l57]
 try rfl
theorem CG(s:List UInt8)(hs:s.length<=maxLen)(p:UInt8->Bool)(f:FuncId)(hgo:aR Tryz.prog f=true)(hp:∀c:UInt8,PC Tryz.prog f [.int .u8 c.toNat] (.bool (p c)))(st:Nat)(hst:st<=s.length):PC Tryz.prog 126 [.str s,aA (st:Int), .fn (.func f) [] []] (aA ((st+iO p (s.drop st):Nat):Int)):=by
 have em:maxLen=9223372036854775807:=z7
 refine fI (N:=21) Tryz.func126 rfl rfl z6 (by simp[bW.int,bW.str,uV]) (.int _ _) ?_;refine wI ?_;refine qB ?_;refine uQ (σ:=Nat) (λ(i:Nat)=> [(0, .str s),(1,aA (i:Int)),(2, .fn (.func f) [] [])]) ([]) (λ(i:Nat)=> []) (λ(i:Nat)=>s.length-i) (λ(i:Nat)=>i<=s.length/\st+iO p (s.drop st)=i+iO p (s.drop i)) (st) ([]) ⟨(by first|rfl| (simp only[jN,seval,aA,qC]<;>first|done|with_reducible rfl)),(by first|rfl| (simp only[jN,seval,aA,qC]<;>first|done|with_reducible rfl)),(by first|rfl| (simp only[jN,seval,aA,qC]<;>first|done|with_reducible rfl)),trivial⟩ (by first|rfl| (simp only[jN,seval,aA,qC]<;>first|done|with_reducible rfl)) (⟨z8,rfl⟩) (λ_ _=>by first|exact aRk _| (simp only[aRf];omega)) ?_ ?_
 ·exact λi hg=>⟨by simp only[aRy];exact eP _,xR⟩
 ·intro i hg;have hcs:i<s.length\/i=s.length:=z8
  rcases hcs with hi|hi
  ·
   have g1:=bA hi;obtain⟨c,hc⟩:∃c,s[i]=c:=⟨_,rfl⟩;have g2:s[i]? =some c:=by rw[aRa hi,hc]
   have w1:IntKind.i64.wrap ((i:Int)+1)=((i+1:Nat):Int):=by rw[aZ z8 z8];omega
   have f1:((i:Int)<s.length)=True:=by simp;omega
   have f0:((0:Int)<=(i:Int))=True:=z6
   have hd:=UZ (p:=p) hi;rw[hc]at hd;refine wQ ?_;refine wR ?_;refine bH ?_;refine lP 9 (by simp only[jG,jO,jN,seval,y3,y9,aA,qC,f1,f0,g1,g2,w1,decide_true,tN]<;>with_reducible rfl) z7 ?_;refine gF (by simp only[kE,seval,aA,qC,f1,f0,g1,g2,w1,decide_true,tN]<;>with_reducible rfl) (by simp only[kE,seval,aA,qC,f1,f0,g1,g2,w1,decide_true,tN]<;>with_reducible rfl) (by simp only[kE,seval,aA,qC,f1,f0,g1,g2,w1,decide_true,tN]) z7 (by assumption) (λhc=>hp c _) ?_;refine uJ (by simp only[jG,jO,jN,seval,aA,qC,f1,f0,g1,g2,w1,decide_true,tN]<;>with_reducible rfl) z7 (by repeat (first|exact dI.base _|with_reducible apply dI.keep|apply dI.drop)) ?_;refine wQ ?_;refine wC rfl (by simp only[jN,seval,aA,qC,f1,f0,g1,g2,w1,decide_true,tN]<;>with_reducible rfl) (λbt17=> ?_) (λbt17=> ?_)
   ·
    have hv1:st+iO p (s.drop st)=(i+1)+iO p (s.drop (i+1)):=by rw[hg.2,hd,if_pos bt17];omega
    refine qK ?_;refine qB ?_;refine wQ ?_;refine eE (by simp only[kA,seval,y3,aA,qC,f1,f0,g1,g2,w1,decide_true,tN]<;>with_reducible rfl) z7 ?_
    try simp only[aY,aT]
    exact⟨i+1,_,by show s.length- (i+1)<s.length-i;omega,⟨rfl,rfl,rfl,trivial⟩,by simp only[jN,seval,aA,qC]<;>rfl,z8,hv1⟩
   ·
    have hv:st+iO p (s.drop st)=i:=by rw[hg.2,hd,bt17];simp
    refine wQ ?_;refine bG ?_;simp only[aY,aT,reduceIte,Nat.reduceEqDiff,aR5,if_true,if_false];refine wQ ?_;refine eE (by simp only[kA,seval,aA,qC,f1,f0,g1,g2,w1,decide_true,tN]<;>with_reducible rfl) z7 ?_;refine wQ ?_;refine wT ⟨.inr rfl,_,rfl, ?_⟩;simp only[jN,seval,aA,qC,hv]
    try rfl
  ·
   have f1:((i:Int)<s.length)=False:=by simp;omega
   have hv:st+iO p (s.drop st)=i:=by rw[hg.2,hi,List.drop_length];simp[iO]
   refine wQ ?_;refine wR ?_;refine bH ?_;refine gT 8 (a4 y3 y9 f1 decide_false) ?_;refine gS (a2 f1 decide_false) ?_;refine gS (a2 f1 decide_false) ?_;refine gX (a2 f1 decide_false) ?_;refine qF (a2 f1 decide_false) ?_;refine wQ ?_;refine bG ?_;simp only[aY,aT,reduceIte,Nat.reduceEqDiff,aR5,if_true,if_false];refine qE (a2 f1 decide_false) ?_;refine wQ ?_;refine wT ⟨.inr rfl,_,rfl, ?_⟩;simp only[jN,seval,aA,qC,hv]
   try rfl
theorem JL(us:List (List UInt8))(v:List UInt8):(us.any λx=>decide (v=x))=us.contains v:=by
 induction us with
 |nil=>rfl
 |cons a l ih=>rw[List.any_cons,List.contains_cons,ih,show decide (v=a)=(v==a)from by rw[aRr];simp]
theorem aGg(c:UInt8):PC Tryz.prog 128 [.int .u8 c.toNat] (.bool (sW c)):=by
 have e10:decide ((c.toNat:Int)=10)=(c==10):=wM c 10 z7;refine fI (N:=5) Tryz.func128 rfl rfl z6 (by simp[bW.int,bW.str]) (.bool _) ?_;refine wI ?_;refine qE y5 ?_;refine wQ ?_;refine wT ⟨.inr rfl,_,rfl, ?_⟩;simp only[jN,seval,aA,qC,e10]
 try rfl
theorem aNg(c:UInt8):PC Tryz.prog 190 [.int .u8 c.toNat] (.bool (sW c)):=by
 have e10:decide ((c.toNat:Int)=10)=(c==10):=wM c 10 z7;refine fI (N:=5) Tryz.func190 rfl rfl z6 (by simp[bW.int,bW.str]) (.bool _) ?_;refine wI ?_;refine qE y5 ?_;refine wQ ?_;refine wT ⟨.inr rfl,_,rfl, ?_⟩;simp only[jN,seval,aA,qC,e10]
 try rfl
theorem aL1(c:UInt8):PC Tryz.prog 130 [.int .u8 c.toNat] (.bool (sU c)):=by
 refine fI (N:=9) Tryz.func130 rfl rfl z6 (by simp[bW.int,bW.str]) (.bool _) ?_;refine wI ?_;refine wQ ?_;refine wR ?_;refine bH ?_;refine gT 1 tN ?_;refine gP tN aAt (λhc=>DL c _) ?_;refine gT 2 tN ?_;refine gP tN QG (λhc=>xY c _) ?_;refine gX tN ?_;refine wQ ?_;refine wT ⟨.inr rfl,_,rfl, ?_⟩;simp only[jN,seval,aA,qC]
 try rfl
theorem aMk(us:List (List UInt8))(v:List UInt8)(hx:us.length<=maxLen):PC Tryz.prog 151 [.slice (us.map PV.str) .none, .str v] (aA (mF (λx=>decide (v=x)) us)):=by
 refine fI (N:=19) Tryz.func151 rfl rfl z6 (by simp[bW.int,bW.str,fV]) (.int _ _) ?_;refine wI ?_;refine qE (a2 y9 iG) ?_;refine wQ ?_;refine dS (σ:=Unit) (us.length) (λ(s:Unit)=> [(0, .slice (us.map PV.str) .none),(1, .str v)]) [0,1] ([]) (λ(s:Unit)=> []) (λ(i:Nat) (s:Unit)=>(us.take i).any (λx=>decide (v=x))=false) (()) ([]) rfl rfl rfl rfl rfl rfl rfl rfl rfl z7 z7 z7 (λ_=>rfl) (hx) ⟨(by first|rfl| (simp only[jN,seval,aA,qC]<;>first|done|with_reducible rfl)),(by first|rfl| (simp only[jN,seval,aA,qC]<;>first|done|with_reducible rfl)),(by first|rfl| (simp only[jN,seval,aA,qC]<;>first|done|with_reducible rfl)),(by first|rfl| (simp only[jN,seval,aA,qC]<;>first|done|with_reducible rfl)),trivial⟩ (by first|rfl| (simp only[jN,seval,aA,qC]<;>first|done|with_reducible rfl)) z6 (λ_ _ _=>by first|exact aRk _| (simp only[aRf];omega)) ?_ ?_ ?_
 ·exact λi s hg=>⟨by first|exact eP _| (simp only[aR0];assumption)| (refine fB hb' z6 ?_;exact xH),xR⟩
 ·intro i s hi hg;have g1:=bA hi;have g2:=bS PV.str hi;refine qE (a3 g1 tN g2) ?_;refine qE (a5 y9 iG g1 tN g2) ?_;refine qI (a3 g1 tN g2) (λb0=> ?_) (λb0=> ?_)
  ·
   refine qE (a3 g1 tN g2) ?_;refine wQ ?_;refine wT ⟨.inr rfl,_,rfl, ?_⟩;rw[pP hi b0 hg];rfl
  ·
   refine qK ?_;exact⟨⟨rfl,rfl,trivial⟩,(),[],⟨rfl,rfl,trivial⟩,rfl,eD hi hg b0⟩
 ·intro s hg;rw[aR7]at hg;refine wI ?_;refine wQ ?_;refine wT ⟨.inr rfl,_,rfl, ?_⟩;rw[mM hg];rfl
theorem QQ(us:List (List UInt8))(v:List UInt8)(hx:us.length<=maxLen):PC Tryz.prog 132 [.slice (us.map PV.str) .none, .str v] (.bool (us.contains v)):=by
 refine fI (N:=9) Tryz.func132 rfl rfl z6 (by simp[bW.int,bW.str,fV]) (.bool _) ?_;refine wI ?_;refine NP 2 ?_;refine TA QJ (aMk us v hx _) ?_;refine qX y3 ?_;refine wQ ?_;refine wT ⟨.inr rfl,_,rfl, ?_⟩;rw[<-JL,<-kT];rfl
open Go.Proofs Go.RowKit
theorem aBq{V:cQ}{vargs:Array Value}{p q:PV}(h:RL V vargs [p,q]):∃v0 v1,vargs= #[v0,v1]/\aM V v0 p/\aM V v1 q:=by
 obtain⟨hsz,hr⟩:=h;have h0:=hr 0 z6;have h1:=hr 1 z6;simp only[List.getElem_cons_zero,List.getElem_cons_succ]at h0 h1;have hs:vargs.size=2:=by simpa using hsz
 rw[aQm,aQr z8]at h0 h1;refine⟨vargs[0],vargs[1], ?_,h0,h1⟩;apply Array.ext<;>simp[hs];intro i hi hi2;match i,hi2 with|0,_=>rfl|1,_=>rfl
theorem zY(s:List UInt8)(c:UInt8):PC Tryz.prog 136 [.str s, .int .u8 c.toNat] (aA (Lib.indexByte s c)):=λH=>by
 refine wU λE vargs ho hH hrl=> ?_;obtain⟨v0,v1,rfl,h0,h1⟩:=aBq hrl;cases h0 with
 |str z=>
  generalize hk:(PV.int IntKind.u8 (c.toNat:Int))=p at h1;cases h1<;>cases hk;refine⟨_,aM.int _ _,(Tryz.strings_IndexByte z (c.toNat:Int) E.w).mono λe w' ⟨h1,h2⟩=>⟨?_,h2▸Below.refl _ _⟩⟩;rw[h1];simp
theorem ME(s p:List UInt8):PC Tryz.prog 127 [.str s, .str p] (.bool (Lib.hasPrefix s p)):=λH=>by
 refine wU λE vargs ho hH hrl=> ?_;obtain⟨v0,v1,rfl,h0,h1⟩:=aBq hrl;cases h0 with
 |str z=>cases h1 with
  |str y=>exact⟨_,aM.bool _,(Tryz.strings_HasPrefix z y E.w).mono λe w' ⟨h1,h2⟩=>⟨h1,h2▸Below.refl _ _⟩⟩
end Go.Abs
namespace Go.Abs
open Go.Proofs Go.RowKit
abbrev G0:aC:=GC
theorem GX(s:List UInt8)(hs:s.length<4294967281)(ha:∀b∈s,b.toNat<128)(hf:(Lib.fields s).length<=maxLen):PG G0 Tryz.prog 152 [.str s] (.slice ((Lib.fields s).map PV.str) .none):=λH hG=>DI s hs ha hf (hG 0 _ rfl)
end Go.Abs
namespace Go.Abs
open Go.Proofs
theorem wO:Lib.fields [117,115,101,32,112,117,98,32,97,115,32,102,110,32,115,116,114,117,99,116,32,101,110,117,109,32,116,114,97,105,116,32,105,109,112,108,32,102,111,114,32,99,111,110,115,116,32,109,97,99,114,111,32,108,101,116,32,109,117,116,32,119,104,105,108,101,32,114,101,116,117,114,110,32,109,97,116,99,104,32,105,102,32,101,108,115,101,32,110,101,119,32,116,114,117,101,32,102,97,108,115,101,32,116,121,112,101]=kwL:=by kernel_rfl
theorem OO:PG G0 Tryz.prog 133 [] (.slice (kwL.map PV.str) .none):=by
 have hk:=GX [117,115,101,32,112,117,98,32,97,115,32,102,110,32,115,116,114,117,99,116,32,101,110,117,109,32,116,114,97,105,116,32,105,109,112,108,32,102,111,114,32,99,111,110,115,116,32,109,97,99,114,111,32,108,101,116,32,109,117,116,32,119,104,105,108,101,32,114,101,116,117,114,110,32,109,97,116,99,104,32,105,102,32,101,108,115,101,32,110,101,119,32,116,114,117,101,32,102,97,108,115,101,32,116,121,112,101] z7 z7 (by rw[wO];decide);rw[wO]at hk;refine KM (N:=2) Tryz.func133 rfl rfl z6 (fV _ _) λH hG hb'=> ?_;refine wI ?_;refine wQ ?_;refine wR ?_;refine oP (by simp only[kC,seval,aA,qC]<;>rfl) (by simp only[kC,seval,aA,qC]) z7 IU (hk _ hG) ?_;refine SB ?_;refine wQ ?_;refine wT ⟨.inr rfl,_,_,rfl, ?_,ZW⟩;simp only[jN,seval,aA,qC]
 try rfl
theorem SL:Lib.fields [58,58,32,61,62,32,45,62,32,61,61,32,38,38,32,124,124]=aBp:=by kernel_rfl
theorem aM4:PG G0 Tryz.prog 135 [] (.slice (aBp.map PV.str) .none):=by
 have hk:=GX [58,58,32,61,62,32,45,62,32,61,61,32,38,38,32,124,124] z7 z7 (by rw[SL];decide);rw[SL]at hk;refine KM (N:=2) Tryz.func135 rfl rfl z6 (fV _ _) λH hG hb'=> ?_;refine wI ?_;refine wQ ?_;refine wR ?_;refine oP (by simp only[kC,seval,aA,qC]<;>rfl) (by simp only[kC,seval,aA,qC]) z7 IU (hk _ hG) ?_;refine SB ?_;refine wQ ?_;refine wT ⟨.inr rfl,_,_,rfl, ?_,ZW⟩;simp only[jN,seval,aA,qC]
 try rfl
theorem mR:∀(l:List UInt8) (c:UInt8),decide (Lib.indexByte l c>=0)=l.contains c
 | [],c=>by simp[Lib.indexByte]
 |b::l,c=>by
  have ih:=mR l c;have hge:=Lib.indexByte_ge l c;rw[List.contains_cons,<-ih,Lib.indexByte]
  by_cases h:b=c
  ·subst h;simp
  ·have h1:(b==c)=false:=by simpa using h
   have h2:(c==b)=false:=by simpa using λe=>h e.symm
   rw[h1,h2];simp only[aQ9,if_false,Bool.false_or]
   by_cases h3:Lib.indexByte l c= -1
   ·simp[h3]
   ·have:(Lib.indexByte l c== -1)=false:=by simpa using h3
    rw[this];simp only[aQ9,if_false,decide_eq_decide];omega
theorem EO(c:UInt8): [32,9,10,13].contains c=zS c:=by
 rw[aRr];simp[zS,or_assoc]
theorem GU(c:UInt8):PC Tryz.prog 125 [.int .u8 c.toNat] (.bool (zS c)):=by
 have hk:=zY [32,9,10,13] c;have hn:=mR [32,9,10,13] c;rw[EO]at hn;refine fI (N:=6) Tryz.func125 rfl rfl z6 (by simp[bW.int,bW.str]) (.bool _) ?_;refine wI ?_;refine NP 1 ?_;refine TA PR (hk _) ?_;refine qX y3 ?_;refine wQ ?_;refine wT ⟨.inr rfl,_,rfl, ?_⟩;simp only[jN,seval,aA,qC,hn]
 try rfl
theorem UP{s:List UInt8}{i:Nat}(h:i<s.length):yV (s.drop i)=if s[i]=10 then none else if s[i]=34 then some 1 else
  if s[i]=92/\(s.drop (i+1)).head?.getD 10≠10 then(yV (s.drop (i+2))).map (· +2)else(yV (s.drop (i+1))).map (· +1):=by
 rw[aR6 h];obtain⟨c,hc⟩:∃c,s[i]=c:=⟨_,rfl⟩;rw[hc]
 by_cases h2:i+1<s.length
 ·have e2:s.drop (i+1)=s[i+1]::s.drop (i+2):=aR6 h2;rw[e2,yV];rfl
 ·have e2:s.drop (i+1)= []:=List.drop_eq_nil_of_le z8;have e3:s.drop (i+2)= []:=List.drop_eq_nil_of_le z8;rw[e2,e3,yV]
  by_cases h10:c=10
  ·subst h10;simp[yV]
  ·simp[h10,yV]
def EE(s:List UInt8):Nat×Int:=match xK false (s.drop 1)with|some k=>(k+1,106)|none=>(1+iO sW (s.drop 1),108)
theorem UI(s:List UInt8)(hs:s.length<=maxLen)(h1:1<=s.length):PC Tryz.prog 134 [.str s] (.tup [aA ((EE s).1:Int),aA (EE s).2]):=by
 have em:maxLen=9223372036854775807:=z7
 have hsc:=CG s hs sW 190 aIi aNg 1 h1;refine fI (N:=47) Tryz.func134 rfl rfl z6 (by simp[bW.int,bW.str]) (.tup _ (by simp[bW.int])) ?_;refine wI ?_;refine wI ?_;refine qB ?_;refine uQ (σ:=Nat) (λ(i:Nat)=> [(0, .str s),(4,aA (i:Int))]) ([]) (λ(i:Nat)=> []) (λ(i:Nat)=>s.length-i) (λ(i:Nat)=>1<=i/\i<=s.length/\xK false (s.drop 1)=(yV (s.drop i)).map (· +(i-1))) (1) ([]) ⟨(by first|rfl| (simp only[jN,seval,aA,qC]<;>first|done|with_reducible rfl)),(by first|rfl| (simp only[jN,seval,aA,qC]<;>first|done|with_reducible rfl)),trivial⟩ (by first|rfl| (simp only[jN,seval,aA,qC]<;>first|done|with_reducible rfl)) (⟨z8,h1,by rw[IT];simp⟩) (λ_ _=>by first|exact aRk _| (simp only[aRf];omega)) ?_ ?_
 ·exact λi hg=>⟨by simp only[aRy];exact eP _,xR⟩
 ·intro i hg;obtain⟨hq1,hq2,hq3⟩:=hg;have hcs:i<s.length\/i=s.length:=z8
  rcases hcs with hi|hi
  ·
   have g1:=bA hi;have hd:=UP hi;obtain⟨c,hc⟩:∃c,s[i]=c:=⟨_,rfl⟩;rw[hc]at hd;have g2:s[i]? =some c:=by rw[aRa hi,hc]
   have w1:IntKind.i64.wrap ((i:Int)+1)=((i+1:Nat):Int):=by rw[aZ z8 z8];omega
   have f1:((i:Int)<s.length)=True:=by simp;omega
   have f0:((0:Int)<=(i:Int))=True:=z6
   have e10:decide ((c.toNat:Int)=10)=(c==10):=wM c 10 z7;have e34:decide ((c.toNat:Int)=34)=(c==34):=wM c 34 z7;have e92:decide ((c.toNat:Int)=92)=(c==92):=wM c 92 z7;refine wQ ?_;refine sR (by simp only[jG,jO,jN,seval,y3,y5,y9,aA,qC,f1,f0,g1,g2,w1,e10,e34,e92,decide_true,tN]<;>with_reducible rfl) z7 (by repeat (first|exact dI.base _|with_reducible apply dI.keep|apply dI.drop)) ?_;refine wQ ?_;refine wC rfl (by simp only[jN,seval,aA,qC,f1,f0,g1,g2,w1,e10,e34,e92,decide_true,tN]<;>with_reducible rfl) (λbt14=> ?_) (λbt14=> ?_)
   ·
    have h10:¬c=10:=by simpa using bt14
    rw[if_neg h10]at hd;refine qK ?_;refine qB ?_;refine qB ?_;refine wQ ?_;refine eE (by simp only[kA,seval,y5,y9,aA,qC,f1,f0,g1,g2,w1,e10,e34,e92,decide_true,tN]<;>with_reducible rfl) z7 ?_;refine wQ ?_;refine wC rfl (by simp only[jN,seval,aA,qC,f1,f0,g1,g2,w1,e10,e34,e92,decide_true,tN]<;>with_reducible rfl) (λbt17=> ?_) (λbt17=> ?_)
    ·
     have h34:c=34:=by simpa using bt17
     have hv:EE s=(i+1,106):=by unfold EE;rw[hq3,hd,if_pos h34];simp;omega
     refine wL [0,4] (by simp only[jN,seval,aA,qC,f1,f0,g1,g2,w1,e10,e34,e92,decide_true,tN]<;>with_reducible rfl) ?_;refine wQ ?_;refine eE (by simp only[kA,seval,y3,aA,qC,f1,f0,g1,g2,w1,e10,e34,e92,decide_true,tN]<;>with_reducible rfl) z7 ?_;refine wQ ?_;refine wT ⟨.inr rfl,_,(cC (.tmp 2) (.tmp 3) rfl (aP z7) (aP z7)), ?_⟩;simp only[jN,seval,aA,qC,hv]
     try rfl
    ·
     have h34:¬c=34:=by simpa using bt17
     rw[if_neg h34]at hd;have hcd:c=92/\i+1<s.length\/¬c=92\/(c=92/\¬i+1<s.length):=by by_cases h:c=92<;>simp[h]<;>omega
     refine wL [0,4] (by simp only[jN,seval,aA,qC,f1,f0,g1,g2,w1,e10,e34,e92,decide_true,tN]<;>with_reducible rfl) ?_;rcases hcd with hk|hk|hk
     ·
      obtain⟨hk1,hk2⟩:=hk;have k92:(c==92)=true:=by simpa using hk1
      have k1:(((i+1:Nat):Int)<s.length)=True:=by simp;omega
      have k0:((0:Int)<=((i+1:Nat):Int))=True:=by simp;omega
      obtain⟨d,hdd⟩:∃d,s[i+1]=d:=⟨_,rfl⟩;have k2:s[i+1]? =some d:=by rw[aRa hk2,hdd]
      have d10:decide ((d.toNat:Int)=10)=(d==10):=wM d 10 z7;have hh:(s.drop (i+1)).head?.getD 10=d:=by rw[aR6 hk2,hdd];rfl
      have w2:IntKind.i64.wrap (((i+1:Nat):Int)+1)=((i+2:Nat):Int):=by rw[aZ z8 z8];omega
      rw[hh]at hd;refine wQ ?_;refine sR (by simp only[jG,jO,jN,seval,y3,y5,y9,aA,qC,f1,f0,g1,g2,w1,e10,e34,e92,decide_true,tN,k92,k1,k0,k2,d10,w2]<;>with_reducible rfl) z7 (by repeat (first|exact dI.base _|with_reducible apply dI.keep|apply dI.drop)) ?_;refine wQ ?_;refine wC rfl (by simp only[jN,seval,aA,qC,f1,f0,g1,g2,w1,e10,e34,e92,decide_true,tN,k92,k1,k0,k2,d10,w2]<;>with_reducible rfl) (λbt24=> ?_) (λbt24=> ?_)
      ·
       have hd10:¬d=10:=by simpa using bt24
       rw[if_pos ⟨hk1,hd10⟩]at hd;refine wL [0,4] (by simp only[jN,seval,aA,qC,f1,f0,g1,g2,w1,e10,e34,e92,decide_true,tN,k92,k1,k0,k2,d10,w2]<;>with_reducible rfl) ?_;refine wQ ?_;refine eE (by simp only[kA,seval,y3,aA,qC,f1,f0,g1,g2,w1,e10,e34,e92,decide_true,tN,k92,k1,k0,k2,d10,w2]<;>with_reducible rfl) z7 ?_;refine wQ ?_;refine eE (by simp only[kA,seval,y3,aA,qC,f1,f0,g1,g2,w1,e10,e34,e92,decide_true,tN,k92,k1,k0,k2,d10,w2]<;>with_reducible rfl) z7 ?_
       try simp only[aY,aT]
       exact⟨i+2,_,by show s.length- (i+2)<s.length-i;omega,⟨rfl,rfl,trivial⟩,by simp only[jN,seval,aA,qC]<;>rfl,z8,z8,by rw[hq3,hd,Option.map_map];congr 1;funext x;simp;omega⟩
      ·
       have hd10:d=10:=by simpa using bt24
       rw[if_neg (λq=>q.2 hd10)]at hd;refine qK ?_;refine wL [0,4] (by simp only[jN,seval,aA,qC,f1,f0,g1,g2,w1,e10,e34,e92,decide_true,tN,k92,k1,k0,k2,d10,w2]<;>with_reducible rfl) ?_;refine wQ ?_;refine eE (by simp only[kA,seval,y3,aA,qC,f1,f0,g1,g2,w1,e10,e34,e92,decide_true,tN,k92,k1,k0,k2,d10,w2]<;>with_reducible rfl) z7 ?_
       try simp only[aY,aT]
       exact⟨i+1,_,by show s.length- (i+1)<s.length-i;omega,⟨rfl,rfl,trivial⟩,by simp only[jN,seval,aA,qC]<;>rfl,z8,z8,by rw[hq3,hd,Option.map_map];congr 1;funext x;simp;omega⟩
     ·
      have k92:(c==92)=false:=by simpa using hk
      rw[if_neg (λq=>hk q.1)]at hd;refine wQ ?_;refine wR ?_;refine bH ?_;refine lP 15 (by simp only[jG,jO,jN,seval,y3,y5,y9,aA,qC,f1,f0,g1,g2,w1,e10,e34,e92,decide_true,tN,k92]<;>with_reducible rfl) z7 ?_;refine oT (r:=.tup []) (by simp only[kE,seval,aA,qC,f1,f0,g1,g2,w1,e10,e34,e92,decide_true,tN,k92]<;>with_reducible rfl) ?_;refine oT (r:=.tup []) (by simp only[kE,seval,aA,qC,f1,f0,g1,g2,w1,e10,e34,e92,decide_true,tN,k92]<;>with_reducible rfl) ?_;refine uJ (by simp only[jG,jO,jN,seval,aA,qC,f1,f0,g1,g2,w1,e10,e34,e92,decide_true,tN,k92]<;>with_reducible rfl) z7 (by repeat (first|exact dI.base _|with_reducible apply dI.keep|apply dI.drop)) ?_;refine wQ ?_;refine wF rfl (by simp only[jN,seval,aA,qC,f1,f0,g1,g2,w1,e10,e34,e92,decide_true,tN,k92]<;>with_reducible rfl) ?_;refine qK ?_;refine wL [0,4] (by simp only[jN,seval,aA,qC,f1,f0,g1,g2,w1,e10,e34,e92,decide_true,tN,k92]<;>with_reducible rfl) ?_;refine wQ ?_;refine eE (by simp only[kA,seval,y3,aA,qC,f1,f0,g1,g2,w1,e10,e34,e92,decide_true,tN,k92]<;>with_reducible rfl) z7 ?_
      try simp only[aY,aT]
      exact⟨i+1,_,by show s.length- (i+1)<s.length-i;omega,⟨rfl,rfl,trivial⟩,by simp only[jN,seval,aA,qC]<;>rfl,z8,z8,by rw[hq3,hd,Option.map_map];congr 1;funext x;simp;omega⟩
     ·
      obtain⟨hk1,hk2⟩:=hk;have k92:(c==92)=true:=by simpa using hk1
      have k1:(((i+1:Nat):Int)<s.length)=False:=by simp;omega
      have hh:s.drop (i+1)= []:=List.drop_eq_nil_of_le z8;rw[if_neg (by rw[hh];simp)]at hd;refine wQ ?_;refine wR ?_;refine bH ?_;refine lP 15 (by simp only[jG,jO,jN,seval,y3,y5,y9,aA,qC,f1,f0,g1,g2,w1,e10,e34,e92,decide_true,tN,k92,k1,decide_false]<;>with_reducible rfl) z7 ?_;refine oT (r:=.tup []) (by simp only[kE,seval,aA,qC,f1,f0,g1,g2,w1,e10,e34,e92,decide_true,tN,k92,k1,decide_false]<;>with_reducible rfl) ?_;refine oT (r:=.tup []) (by simp only[kE,seval,aA,qC,f1,f0,g1,g2,w1,e10,e34,e92,decide_true,tN,k92,k1,decide_false]<;>with_reducible rfl) ?_;refine uJ (by simp only[jG,jO,jN,seval,aA,qC,f1,f0,g1,g2,w1,e10,e34,e92,decide_true,tN,k92,k1,decide_false]<;>with_reducible rfl) z7 (by repeat (first|exact dI.base _|with_reducible apply dI.keep|apply dI.drop)) ?_;refine wQ ?_;refine wF rfl (by simp only[jN,seval,aA,qC,f1,f0,g1,g2,w1,e10,e34,e92,decide_true,tN,k92,k1,decide_false]<;>with_reducible rfl) ?_;refine qK ?_;refine wL [0,4] (by simp only[jN,seval,aA,qC,f1,f0,g1,g2,w1,e10,e34,e92,decide_true,tN,k92,k1,decide_false]<;>with_reducible rfl) ?_;refine wQ ?_;refine eE (by simp only[kA,seval,y3,aA,qC,f1,f0,g1,g2,w1,e10,e34,e92,decide_true,tN,k92,k1,decide_false]<;>with_reducible rfl) z7 ?_
      try simp only[aY,aT]
      exact⟨i+1,_,by show s.length- (i+1)<s.length-i;omega,⟨rfl,rfl,trivial⟩,by simp only[jN,seval,aA,qC]<;>rfl,z8,z8,by rw[hq3,hd,Option.map_map];congr 1;funext x;simp;omega⟩
   ·
    have h10:c=10:=by simpa using bt14
    have hv:EE s=(1+iO sW (s.drop 1),108):=by unfold EE;rw[hq3,hd,if_pos h10];rfl
    refine wQ ?_;refine bG ?_;simp only[aY,aT,reduceIte,Nat.reduceEqDiff,aR5,if_true,if_false];refine wQ ?_;refine wR ?_;refine eT 1 (by simp only[kA,seval,aA,qC,f1,f0,g1,g2,w1,e10,e34,e92,decide_true,tN]<;>with_reducible rfl) z7 ?_;refine oP (by simp only[kC,seval,aA,qC,f1,f0,g1,g2,w1,e10,e34,e92,decide_true,tN]<;>with_reducible rfl) (by simp only[kC,seval,aA,qC,f1,f0,g1,g2,w1,e10,e34,e92,decide_true,tN]) z7 zB (hsc _) ?_;refine iX (by simp only[kA,seval,aA,qC,f1,f0,g1,g2,w1,e10,e34,e92,decide_true,tN]<;>with_reducible rfl) z7 ?_;refine wQ ?_;refine wT ⟨.inr rfl,_,(cC (.tmp 2) (.tmp 3) rfl (aP z7) (aP z7)), ?_⟩;simp only[jN,seval,aA,qC,hv]
    try rfl
  ·
   have f1:((i:Int)<s.length)=False:=by simp;omega
   have hv:EE s=(1+iO sW (s.drop 1),108):=by unfold EE;rw[hq3,hi,List.drop_length];rfl
   refine wQ ?_;refine wR ?_;refine bH ?_;refine gT 7 (a4 y3 y9 f1 decide_false) ?_;refine gS (a2 f1 decide_false) ?_;refine gS (a2 f1 decide_false) ?_;refine gX (a2 f1 decide_false) ?_;refine qF (a2 f1 decide_false) ?_;refine wQ ?_;refine bG ?_;simp only[aY,aT,reduceIte,Nat.reduceEqDiff,aR5,if_true,if_false];refine qT 1 (a2 f1 decide_false) ?_;refine qP (a2 f1 decide_false) zB (hsc _) ?_;refine qX (a2 f1 decide_false) ?_;refine wQ ?_;refine wT ⟨.inr rfl,_,(cC (.tmp 2) (.tmp 3) rfl (aP z7) (aP z7)), ?_⟩;simp only[jN,seval,aA,qC,hv]
   try rfl
theorem aO9{H H':aC}(hG:vE G0 H)(h:H'[0]? =(H++aQ3 0 AObj.unborn)[0]?):vE G0 H':=λk o hk=>by
 cases k with
 |zero=>rw[h];simpa using hG 0 o hk
 |succ k=>simp[G0,GC]at hk
theorem EV(s:List UInt8)(a b:UInt8):Lib.hasPrefix s [a,b]=decide (s.take 2= [a,b]):=by
 unfold Lib.hasPrefix
 match s with
 | []=>rfl
 | [x]=>simp[List.isPrefixOf]
 |x::y::r=>
  rw[aRr];simp[List.isPrefixOf];constructor<;>rintro⟨h1,h2⟩<;>exact⟨h1.symm,h2.symm⟩
theorem OP(c:UInt8)(r:List UInt8)(h:c=34):EE (c::r)=match xK false r with|some k=>(k+1,106)|none=>(iO sW (c::r),108):=by
 subst h;unfold EE;simp only[List.drop_succ_cons,aSb];cases q:xK false r with
 |none=>simp[iO,sW,Nat.add_comm]
 |some k=>rfl
theorem aCt(c:UInt8)(r:List UInt8)(hs:(c::r).length<=maxLen):PG G0 Tryz.prog 70 [.str (c::r)] (.tup [aA ((dL (c::r)).1:Int),aA (dL (c::r)).2]):=by
 have em:maxLen=9223372036854775807:=z7
 obtain⟨s,hse⟩:∃s,c::r=s:=⟨_,rfl⟩;have g2:s[0]? =some c:=by rw[<-hse];rfl
 have g1:(0<(s.length:Int))=True:=by rw[<-hse];simp
 have hst:=λh=>OP c r h;have h1:1<=s.length:=by rw[<-hse];simp
 rw[hse]at hs hst⊢;have hb:=oJ (s:=s) (by rw[<-hse];simp);have k1:=CG s hs zS 125 XR GU 0 z8;rw[aRe,aSb]at k1;have k2:=CG s hs sW 128 aF7 aGg 0 z8;rw[aRe,aSb]at k2;have k3:=CG s hs sU 130 aGx aL1 0 z8;rw[aRe,aSb]at k3;have k4:=CG s hs rZ 131 QG xY 0 z8;rw[aRe,aSb]at k4;have hp:=ME s [47,47];rw[EV]at hp;have hss:=UI s hs h1;have ho:aJf= [40,41,123,125,91,93,60,62,44,59,58,46,61,43,45,42,47,33,38,124]:=by kernel_rfl
 have hib:=zY [40,41,123,125,91,93,60,62,44,59,58,46,61,43,45,42,47,33,38,124] c;have hin:=mR [40,41,123,125,91,93,60,62,44,59,58,46,61,43,45,42,47,33,38,124] c;have hfd:dL s=if zS c then(iO zS s,101)else if s.take 2= [47,47]then(iO sW s,102)else if IW c then(if kwL.contains (s.take (iO sU s))then(iO sU s,104)else(iO sU s,103))else if rZ c then(iO rZ s,105)else if c=34 then EE s else if s.length>1/\aBp.contains (s.take 2)=true then(2,107)else if aJf.contains c then(1,107)else(1,108):=by
  by_cases h:c=34
  ·rw[hst h,<-hse];rfl
  ·rw[<-hse];unfold dL;simp only[h,if_false]
 rw[ho]at hfd;refine KM (N:=56) Tryz.func70 rfl rfl z6 (.tup _ (by simp[bW.int])) λH hG hb'=> ?_;refine wI ?_;refine qE (a3 y9 g1 g2) ?_;refine qB ?_;refine NP 1 ?_;refine TA XR (GU c _) ?_;refine SB ?_;refine qI0 (λbt8=> ?_) (λbt8=> ?_)
 ·
  rw[hfd,if_pos bt8];refine NP 1 ?_;refine TA zB (k1 _) ?_;refine SB ?_;refine wQ ?_;refine wT ⟨.inr rfl,_,_,(cC (.tmp 2) (.tmp 3) rfl (aP z7) (aP z7)), ?_,ZW⟩;simp only[jN,seval,aA,qC]
  try rfl
 ·
  rw[if_neg (by rw[bt8];simp)]at hfd;refine NP 1 ?_;refine TA aKq (hp _) ?_;refine SB ?_;refine qI0 (λbt13=> ?_) (λbt13=> ?_)
  ·
   rw[hfd,if_pos (of_decide_eq_true bt13)];refine NP 1 ?_;refine TA zB (k2 _) ?_;refine SB ?_;refine wQ ?_;refine wT ⟨.inr rfl,_,_,(cC (.tmp 2) (.tmp 3) rfl (aP z7) (aP z7)), ?_,ZW⟩;simp only[jN,seval,aA,qC]
   try rfl
  ·
   rw[if_neg (of_decide_eq_false bt13)]at hfd;refine NP 1 ?_;refine TA aAt (DL c _) ?_;refine SB ?_;refine qI0 (λbt18=> ?_) (λbt18=> ?_)
   ·
    rw[if_pos bt18]at hfd;obtain⟨n,hn⟩:∃n,iO sU s=n:=⟨_,rfl⟩;have hnl:=JE sU s;rw[hn]at hnl k3 hfd;have h3:((0:Int)<=n/\(n:Int)<=s.length)=True:=by simp;omega
    have h4:(n<=s.length)=True:=by simp;omega
    have h5:((n:Int)<=(s.length:Int))=True:=by simp;omega
    have h6:((0:Int)<=(n:Int))=True:=z6
    refine NP 1 ?_;refine TA zB (k3 _) ?_;refine SB ?_;refine qL0 [0,5] ?_;refine wQ ?_;refine iK 0 (by kernel_rfl) ?_;refine mL (bm:= [0,0,0,6,15]) ([0]) (by kernel_rfl) (by simp only[kC,seval,aA,qC,jS,h3,h4,h5,h6,tN,aSb]<;>with_reducible rfl) (by simp only[kC,seval,aA,qC,jS,h3,h4,h5,h6,tN,aSb]) z7 aJ5 (λH' hr=>OO H' (aO9 hG (hr 0 z6))) (by simp only[jD,jO,jN,seval,aA,qC,jS,h3,h4,h5,h6,tN,aSb]<;>first|done|rfl) ?_;refine iY (bm:= [0,0,0,6,15]) 3 (fresh:=(H.length)) (by kernel_rfl) (by simp only[jD,jO,jN,seval,y9,aA,qC,jS,h3,h4,h5,h6,tN,aSb]<;>with_reducible rfl) z7 z7 ?_;refine mL (bm:= [0,0,0,6,15]) ([]) (by kernel_rfl) (by simp only[kC,seval,aA,qC,jS,h3,h4,h5,h6,tN,aSb]<;>with_reducible rfl) (by simp only[kC,seval,aA,qC,jS,h3,h4,h5,h6,tN,aSb]) z7 OT (λH' _=>QQ kwL (s.take n) z7 H') (by simp only[jD,jO,jN,seval,aA,qC,jS,h3,h4,h5,h6,tN,aSb]<;>first|done|rfl) ?_;refine wH ?_;refine qI0 (λbt27=> ?_) (λbt27=> ?_)
    ·
     rw[if_pos bt27]at hfd;rw[hfd];refine wI ?_;refine wQ ?_;refine wT ⟨.inr rfl,_,_,(cC (.tmp 2) (.tmp 3) rfl (aP z7) (aP z7)), ?_,ZW⟩;simp only[jN,seval,aA,qC]
     try rfl
    ·
     rw[if_neg (by rw[bt27];simp)]at hfd;rw[hfd];refine qK ?_;refine wI ?_;refine wQ ?_;refine wT ⟨.inr rfl,_,_,(cC (.tmp 2) (.tmp 3) rfl (aP z7) (aP z7)), ?_,ZW⟩;simp only[jN,seval,aA,qC]
     try rfl
   ·
    rw[if_neg (by rw[bt18];simp)]at hfd;refine NP 1 ?_;refine TA QG (xY c _) ?_;refine SB ?_;refine qI0 (λbt30=> ?_) (λbt30=> ?_)
    ·
     rw[hfd,if_pos bt30];refine qL0 [0] ?_;refine NP 1 ?_;refine TA zB (k4 _) ?_;refine SB ?_;refine wQ ?_;refine wT ⟨.inr rfl,_,_,(cC (.tmp 2) (.tmp 3) rfl (aP z7) (aP z7)), ?_,ZW⟩;simp only[jN,seval,aA,qC]
     try rfl
    ·
     rw[if_neg (by rw[bt30];simp)]at hfd;have e34:decide ((c.toNat:Int)=34)=(c==34):=wM c 34 z7;refine qL0 [0,4] ?_;refine qE (a2 y5 e34) ?_;refine qI0 (λbt35=> ?_) (λbt35=> ?_)
     ·
      rw[hfd,if_pos (by simpa using bt35)];refine NP 1 ?_;refine TA aKl (hss _) ?_;refine SB ?_;refine wQ ?_;refine wT ⟨.inr rfl,_,_,(cC (.tmp 2) (.tmp 3) rfl (aP z7) (aP z7)), ?_,ZW⟩;simp only[jN,seval,aA,qC]
      try rfl
     ·
      rw[if_neg (by simpa using bt35)]at hfd;have h2:s.length>1\/¬s.length>1:=z8
      rcases h2 with h2|h2
      ·
       have l2:(1<(s.length:Int))=True:=by simp;omega
       have l3:(2<=(s.length:Int))=True:=by simp;omega
       refine wQ ?_;refine eA (by kernel_rfl) ?_;refine nV 4 (by simp only[jP,jO,jN,seval,y3,y9,aA,qC,l2,l3,decide_true,aSb]<;>with_reducible rfl) z7 ?_;refine xU (by simp only[kE,seval,aA,qC,l2,l3,decide_true,aSb]<;>with_reducible rfl) (by simp only[kE,seval,aA,qC,l2,l3,decide_true,aSb]<;>with_reducible rfl) (by simp only[kE,seval,aA,qC,l2,l3,decide_true,aSb]) z7 aG7 (λhc=>aM4 _ hG) ?_;refine nV 2 (by simp only[jP,jO,jN,seval,y9,jS,aA,qC,l2,l3,decide_true,aSb]<;>with_reducible rfl) z7 ?_;refine xU (by simp only[kE,seval,aA,qC,l2,l3,decide_true,aSb]<;>with_reducible rfl) (by simp only[kE,seval,aA,qC,l2,l3,decide_true,aSb]<;>with_reducible rfl) (by simp only[kE,seval,aA,qC,l2,l3,decide_true,aSb]) z7 OT (λhc=>QQ aBp (s.take 2) z7 _) ?_;refine lU (by simp only[jP,jO,jN,seval,aA,qC,l2,l3,decide_true,aSb]<;>with_reducible rfl) z7 (by repeat (first|exact dI.base _|with_reducible apply dI.keep|apply dI.drop)) ?_;refine wQ ?_;refine wC rfl (by simp only[jN,seval,aA,qC,l2,l3,decide_true,aSb]<;>with_reducible rfl) (λbt42=> ?_) (λbt42=> ?_)
       ·
        rw[hfd,if_pos ⟨h2,bt42⟩];refine wQ ?_;refine eE (by simp only[kA,seval,aA,qC,l2,l3,decide_true,aSb]<;>with_reducible rfl) z7 ?_;refine wQ ?_;refine wT ⟨.inr rfl,_,_,(cC (.tmp 2) (.tmp 3) rfl (aP z7) (aP z7)), ?_,ZW⟩;simp only[jN,seval,aA,qC]
        try rfl
       ·
        rw[if_neg (by rw[bt42];simp)]at hfd;refine wQ ?_;refine wR ?_;refine eT 1 (by simp only[kA,seval,aA,qC,l2,l3,decide_true,aSb,hin]<;>with_reducible rfl) z7 ?_;refine oP (by simp only[kC,seval,aA,qC,l2,l3,decide_true,aSb,hin]<;>with_reducible rfl) (by simp only[kC,seval,aA,qC,l2,l3,decide_true,aSb,hin]) z7 PR (hib _) ?_;refine iX (by simp only[kA,seval,y3,aA,qC,l2,l3,decide_true,aSb,hin]<;>with_reducible rfl) z7 ?_;refine wQ ?_;refine wC rfl (by simp only[jN,seval,aA,qC,l2,l3,decide_true,aSb]<;>with_reducible rfl) (λbt52=> ?_) (λbt52=> ?_)
        ·
         rw[hfd,if_pos bt52];refine wL [] (by simp only[jN,seval,aA,qC,l2,l3,decide_true,aSb]<;>with_reducible rfl) ?_;refine wQ ?_;refine eE (by simp only[kA,seval,aA,qC,l2,l3,decide_true,aSb]<;>with_reducible rfl) z7 ?_;refine wQ ?_;refine wT ⟨.inr rfl,_,_,(cC (.tmp 2) (.tmp 3) rfl (aP z7) (aP z7)), ?_,ZW⟩;simp only[jN,seval,aA,qC]
         try rfl
        ·
         rw[hfd,if_neg (by rw[bt52];simp)];refine qK ?_;refine wL [] (by simp only[jN,seval,aA,qC,l2,l3,decide_true,aSb]<;>with_reducible rfl) ?_;refine wQ ?_;refine eE (by simp only[kA,seval,aA,qC,l2,l3,decide_true,aSb]<;>with_reducible rfl) z7 ?_;refine wQ ?_;refine wT ⟨.inr rfl,_,_,(cC (.tmp 2) (.tmp 3) rfl (aP z7) (aP z7)), ?_,ZW⟩;simp only[jN,seval,aA,qC]
         try rfl
      ·
       have l2:(1<(s.length:Int))=False:=by simp;omega
       rw[if_neg (λq=>h2 q.1)]at hfd;refine wQ ?_;refine eA (by kernel_rfl) ?_;refine pT 4 (a4 y3 y9 l2 decide_false) ?_;refine pS (a2 l2 decide_false) ?_;refine pS (a2 l2 decide_false) ?_;refine pS (a2 l2 decide_false) ?_;refine pS (a2 l2 decide_false) ?_;refine pX (a2 l2 decide_false) ?_;refine qF (a2 l2 decide_false) ?_;refine qT 1 (a3 l2 decide_false hin) ?_;refine qP (a3 l2 decide_false hin) PR (hib _) ?_;refine qX (a4 y3 l2 decide_false hin) ?_;refine qI (a2 l2 decide_false) (λbt52=> ?_) (λbt52=> ?_)
       ·
        rw[hfd,if_pos bt52];refine qL [] (a2 l2 decide_false) ?_;refine qE (a2 l2 decide_false) ?_;refine wQ ?_;refine wT ⟨.inr rfl,_,_,(cC (.tmp 2) (.tmp 3) rfl (aP z7) (aP z7)), ?_,ZW⟩;simp only[jN,seval,aA,qC]
        try rfl
       ·
        rw[hfd,if_neg (by rw[bt52];simp)];refine qK ?_;refine qL [] (a2 l2 decide_false) ?_;refine qE (a2 l2 decide_false) ?_;refine wQ ?_;refine wT ⟨.inr rfl,_,_,(cC (.tmp 2) (.tmp 3) rfl (aP z7) (aP z7)), ?_,ZW⟩;simp only[jN,seval,aA,qC]
        try rfl
def HM(s:List UInt8):Bool:= !(decide ((s.length:Int)=0)||decide ((s.length:Int)>30))&&(decide (((dL s).1:Int)=s.length)&&decide ((dL s).2=103))
theorem SK{s:List UInt8}(hs:s.length<=maxLen)(h:s≠ []):PG G0 Tryz.prog 70 [.str s] (.tup [aA ((dL s).1:Int),aA (dL s).2]):=by
 cases s with
 |nil=>exact absurd rfl h
 |cons c r=>exact aCt c r hs
theorem FZ:∀(n m:Nat) (s:List UInt8),s.length<=n->s.length<=m->UM n s=UM m s
 |0,0,s,_,_=>rfl
 |0,m+1,s,h,_=>by rw[List.length_eq_zero_iff.1 (by omega:s.length=0)];rfl
 |n+1,0,s,_,h=>by rw[List.length_eq_zero_iff.1 (by omega:s.length=0)];rfl
 |n+1,m+1,s,h1,h2=>by
  unfold UM
  by_cases h:s= []
  ·rw[if_pos h,if_pos h]
  ·rw[if_neg h,if_neg h];have hb:=oJ h;rw[FZ n m _ (by rw[aQ5];omega) (by rw[aQ5];omega)]
def toks(s:List UInt8):List Tk:=UM s.length s
theorem uH:toks []= []:=rfl
theorem zE{s:List UInt8}(h:s≠ []):toks s=⟨(dL s).2,s.take (dL s).1⟩::toks (s.drop (dL s).1):=by
 have hb:=oJ h;unfold toks;obtain⟨n,hn⟩:∃n,s.length=n+1:=⟨s.length-1,z8⟩
 conv=>lhs;rw[hn];unfold UM
 rw[if_neg h,FZ n (s.drop (dL s).1).length _ (by rw[aQ5];omega) (aQj _)]
theorem aJc(s:List UInt8)(hs:s.length<=maxLen):PG G0 Tryz.prog 52 [.str s] (.tup [.slice ((if(s.length:Int)>2000 then []else toks s).map Tk.enc) .none,aA (if(s.length:Int)>2000 then 2 else 0)]):=by
 have em:maxLen=9223372036854775807:=z7
 refine KM (N:=30) Tryz.func52 rfl rfl z6 (.tup _ (by simp[bW.int,OJ])) λH hG hb'=> ?_;refine wI ?_;refine qE (a2 y3 y9) ?_;refine qI0 (λbt9=> ?_) (λbt9=> ?_)
 ·
  rw[if_pos (of_decide_eq_true bt9),if_pos (of_decide_eq_true bt9)];refine wI ?_;refine wQ ?_;refine wT ⟨.inr rfl,_,_,(cC (.tmp 2) (.tmp 3) rfl (aP z7) (aP z7)), ?_,ZW⟩;simp only[jN,seval,aA,qC]
  try rfl
 ·
  rw[if_neg (of_decide_eq_false bt9),if_neg (of_decide_eq_false bt9)];have hl2:=of_decide_eq_false bt9;refine qK ?_;refine wI ?_;refine wQ ?_;refine zF 4 2 (es:= []) (by simp only[kC,seval,aA,qC]<;>rfl) ?_;refine cV ?_;refine uQ (σ:=List Tk×List UInt8) (λ(q:List Tk×List UInt8)=> [(0, .str q.2),(4, .slice (q.1.map Tk.enc) (.tok H.length))]) (H) (λ(q:List Tk×List UInt8)=> [.buf q.1.length 2]) (λ(q:List Tk×List UInt8)=>q.2.length) (λ(q:List Tk×List UInt8)=>q.1.length+q.2.length<=s.length/\toks s=q.1++toks q.2) (([],s)) ([]) ⟨(by first|rfl| (simp only[jN,seval,aA,qC]<;>first|done|with_reducible rfl)),(by first|rfl| (simp only[jN,seval,aA,qC]<;>first|done|with_reducible rfl)),trivial⟩ (by first|rfl| (simp only[jN,seval,aA,qC]<;>first|done|with_reducible rfl)) (⟨z6,z6⟩) (λ_ _=>by first|exact aRk _| (simp only[aRf];omega)) ?_ ?_
  ·exact λq hg=>⟨by refine fB hb' z6 ?_;exact kB.cons trivial (eP _),by repeat (first|exact qH.nil|refine qH.cons (by first|exact OB _ (by simp only[aRf,aQ0,aR1];omega)|exact Tk.bel _ _|exact mW _|exact nD _|exact bW.int _ _|exact bW.bool _|exact bW.str _|exact bW.nilp|exact bW.nilfn|exact bW.optr _ _ z6|exact mW _|exact nD _|exact uV _ _|assumption) ?_)⟩
  ·intro q hg;obtain⟨ts,r⟩:=q;obtain⟨hq1,hq2⟩:=hg;simp only at hq1 hq2;refine qE (a2 y3 y9) ?_;refine qI0 (λbt12=> ?_) (λbt12=> ?_)
   ·
    have hne:r≠ []:=by rintro rfl;simp at bt12
    have hb:=oJ hne;have hst:=zE hne;have hf:=SK (s:=r) z8 hne;obtain⟨n,hn⟩:∃n,(dL r).1=n:=⟨_,rfl⟩;obtain⟨kd,hkd⟩:∃kd,(dL r).2=kd:=⟨_,rfl⟩;rw[hn]at hb hf hst;rw[hkd]at hf hst;have h3:((0:Int)<=n/\(n:Int)<=r.length)=True:=by simp;omega
    have h4:(n<=r.length)=True:=by simp;omega
    have hap:=aHa (us:=ts) (u:=⟨kd,r.take n⟩) (id:=H.length) (tl:=.full) z8;refine qK ?_;refine qB ?_;refine NP 1 ?_;refine TA aFl (hf _ (hG.app _)) ?_;refine SB ?_;refine wQ ?_;refine eE (by simp only[kA,seval,y9,WF,vF,aA,qC,jS,h3,h4,hap,tN,aSb]<;>with_reducible rfl) z7 ?_;refine qL0 [0,4,5] ?_;refine wQ ?_;refine eE (by simp only[kA,seval,y9,aA,qC,jS,h3,h4,tN,aR7]<;>with_reducible rfl) z7 ?_
    try simp only[aY,aT]
    exact⟨(ts++ [⟨kd,r.take n⟩],r.drop n),_,by show(r.drop n).length<r.length;rw[aQ5];omega,⟨rfl,rfl,trivial⟩,by simp only[jN,seval,aA,qC,aRf,aQh]<;>rfl,by simp only[aRf,aQh,aQ5];omega,by rw[hq2,hst];simp⟩
   ·
    have hr:r= []:=by cases r with|nil=>rfl|cons a l=>simp at bt12<;>omega
    have hv:toks s=ts:=by rw[hq2,hr,uH,aR0]
    rw[hv];refine wQ ?_;refine bG ?_;simp only[aY,aT,reduceIte,Nat.reduceEqDiff,aR5,if_true,if_false];refine wI ?_;refine wQ ?_;refine wT ⟨.inr rfl,_,_,(cC (.tmp 2) (.tmp 3) rfl (aP z7) (aP z7)), ?_,ZW⟩;simp only[jN,seval,aA,qC]
    try rfl
def aEp(s:PS):Option St:=match s.stack with
 | [f]=>some ⟨f.kind,[],f.kids⟩
 |_=>none
theorem aAq{s:PS}{t:St}(h:aEp s=some t):∃f,s.stack= [f]/\t=⟨f.kind,[],f.kids⟩:=by
 unfold aEp at h
 split at h
 ·rename_i f hst;injection h with h;exact⟨f,hst,h.symm⟩
 ·cases h
def vT(tk:List Tk)(k n:Nat):Option St:=((dJ (λs1=> !JC tk s1) (λs1=>(TK tk n k .item s1).bind λs2=>some s2) n ⟨0,[⟨1,[]⟩],false⟩).bind λs1=>(AA tk s1).bind aEp)
theorem aCv(src:List UInt8)(k n:Nat){t:St}{H0:aC}(hs:src.length<=maxLen)(h2000:(src.length:Int)<=2000)(hlim:(toks src).length<=fE)(hG:vE G0 H0)(hm:vT (toks src) k n=some t):aL Tryz.prog 26 [.str src] H0 λr H'=>r= .tup [t.enc,aA 0]/\Fr [] [] H0 H':=by
 have hk:=aJc src hs;rw[if_neg z8,if_neg z8]at hk;generalize toks src=tk at hk hm hlim;unfold vT at hm;refine aF (N:=34) Tryz.func26 rfl rfl z6 λhb'=> ?_;refine qE (a3 iN cS cR) ?_;refine qT 1 (a2 cS cR) ?_;refine qP (a2 cS cR) aOo (hk _ (λk o h=>aB (hG k o h) _)) ?_;refine qX (a2 cS cR) ?_;refine qE (a3 KC cS cR) ?_;refine qF (a2 cS cR) ?_;refine qK ?_;refine qT 2 (a3 iN cS cR) ?_;refine ND (t:=65) (n:=1) (es:= [.agg [.int .i64 1, .str [], .slice [] .full]]) (by simp only[kC,seval,aA,qC]) rfl z7 dV sV rfl z7 z7 z7 (by simp only[kC,seval,aA,qC,gM,iN,cS,cR]<;>first|done|rfl) ?_;have ea1:∀(a b:AObj),(H0++ [a])++ [b]=H0++ [a,b]:=λa b=>z6
 have ea2:∀a:AObj,List.length (H0++ [a])=H0.length+1:=λa=>z6
 rw[ea1,ea2];refine qX (a3 fY cS cR) ?_;refine wQ ?_;have p0:eG tk (H0.length+2) ⟨0,[⟨1,[]⟩],false⟩ [H0.length+2,H0.length+1] (H0++ [.row [.int .i64 0, .str [], .slice [] .full], .row (aH [.agg [.int .i64 1, .str [], .slice [] .full]]), .row [.slice (tk.map Tk.enc) .none, .int .i64 ((0:Nat):Int), .msl (H0.length+1) 0 1 1]]):=⟨H0.length+1,1,[.int .i64 1, .str [], .slice [] .full],[],[],z6,by simp[aH,PV.cells],rfl,z7,lX.cons (f:=⟨1,[]⟩) .nil .nil (λi hi=>by cases hi),rfl,z8,z6,z6,z6,hlim⟩;have hG0:=hG 0 _ rfl;have k0a:=aB hG0 [.row [.int .i64 0, .str [], .slice [] .full], .row (aH [.agg [.int .i64 1, .str [], .slice [] .full]]), .row [.slice (tk.map Tk.enc) .none, .int .i64 ((0:Nat):Int), .msl (H0.length+1) 0 1 1]];have hH0:=lG hG0;have n0a:0∉ [H0.length+2,H0.length+1]:=z6
 have k0b:(H0++ [.row [.int .i64 0, .str [], .slice [] .full], .row (aH [.agg [.int .i64 1, .str [], .slice [] .full]]), .row [.slice (tk.map Tk.enc) .none, .int .i64 ((0:Nat):Int), .msl (H0.length+1) 0 1 1]])[H0.length]? =some (.row [.int .i64 0, .str [], .slice [] .full]):=z6
 have n0b:H0.length∉ [H0.length+2,H0.length+1]:=z6
 have f0:=Fr.refl [H0.length+2,H0.length+1] (H0++ [.row [.int .i64 0, .str [], .slice [] .full], .row (aH [.agg [.int .i64 1, .str [], .slice [] .full]]), .row [.slice (tk.map Tk.enc) .none, .int .i64 ((0:Nat):Int), .msl (H0.length+1) 0 1 1]]);obtain⟨sL,eL,hmA⟩:=oB hm;obtain⟨s9,e9,hmB⟩:=oB hmA;have hl:=aW p0.len;refine cV ?_;refine cL (σ:=Nat×PS×List Nat) (λ(z:Nat×PS×List Nat)=> [(2, .optr H0.length 0),(6, .optr (H0.length+2) 0)]) (λ(z:Nat×PS×List Nat)=>λH1=>dJ (λs1=> !JC tk s1) (λs1=>(TK tk n k .item s1).bind λs2=>some s2) z.1 z.2.1=some sL/\eG tk (H0.length+2) z.2.1 z.2.2 H1/\Fr [H0.length+2,H0.length+1] z.2.2 (H0++ [.row [.int .i64 0, .str [], .slice [] .full], .row (aH [.agg [.int .i64 1, .str [], .slice [] .full]]), .row [.slice (tk.map Tk.enc) .none, .int .i64 ((0:Nat):Int), .msl (H0.length+1) 0 1 1]]) H1/\(H1[0]? =some gO/\0∉z.2.2)/\(H1[H0.length]? =some (.row [.int .i64 0, .str [], .slice [] .full])/\H0.length∉z.2.2)) (λ(z:Nat×PS×List Nat)=>z.1) ((n,⟨0,[⟨1,[]⟩],false⟩,[H0.length+2,H0.length+1])) ⟨(by first|rfl| (simp only[jN,seval,aA,qC,cS,cR]<;>first|done|with_reducible rfl)),(by first|rfl| (simp only[jN,seval,aA,qC,cS,cR]<;>first|done|with_reducible rfl)),trivial⟩ (⟨eL,p0,f0,⟨k0a,n0a⟩,⟨k0b,n0b⟩⟩) ?_;intro z H1 hg;obtain⟨k1,s1,F1⟩:=z;obtain⟨hk1,p1,f1,⟨k1a,n1a⟩,⟨k1b,n1b⟩⟩:=hg;simp only at hk1 p1 f1 k1a n1a k1b n1b;obtain⟨st1,r1⟩:=p1.row;cases k1 with
 |zero=>cases hk1
 |succ k1=> ?_
 unfold dJ at hk1;refine qT 1 (a3 cS cR (w3 r1 k1a k1b)) ?_;refine qP (a3 cS cR (w3 r1 k1a k1b)) RY (AW (lD r1) hl p1.pos) ?_;refine qX (a3 cS cR (w3 r1 k1a k1b)) ?_;refine qI (a3 cS cR (w3 r1 k1a k1b)) (λbt23=> ?_) (λbt23=> ?_)
 ·
  rw[fX bt23]at hk1;obtain⟨sB,hm1,hk1⟩:=oB hk1;obtain⟨s2,e2,hm1⟩:=oB hm1;injection hm1 with hm1;subst hm1;refine qK ?_;refine qB ?_;refine qW 1 (a3 cS cR (w3 r1 k1a k1b)) ((by exact FG.ap0 (BY tk (H0.length+2) n k .item) e2 p1 ⟨k1a,n1a⟩)) ?_;rintro _ H2 ⟨rfl,F2,p2,g2⟩;have f2:=f1.trans g2;obtain⟨k2a,n2a⟩:=g2.gtX k1a n1a;obtain⟨k2b,n2b⟩:=g2.gtX k1b n1b
  try simp only[aY,aT]
  exact⟨(k1,_,F2),aR3 _,⟨rfl,rfl,trivial⟩,hk1,p2,f2,⟨k2a,n2a⟩,⟨k2b,n2b⟩⟩
 ·
  rw[fZ bt23]at hk1;injection hk1 with hk1;subst hk1;refine wQ ?_;refine bG ?_;simp only[aY,aT,reduceIte,Nat.reduceEqDiff,aR5,if_true,if_false];refine qW 1 (a3 cS cR (w3 r1 k1a k1b)) ((wJ tk (H0.length+2)).ap0 e9 p1) ?_;rintro _ H2 ⟨rfl,F2,p2,g2⟩;have f2:=f1.trans g2;obtain⟨k2a,n2a⟩:=g2.gtX k1a n1a;obtain⟨k2b,n2b⟩:=g2.gtX k1b n1b;refine wQ ?_;obtain⟨⟨fk,fks⟩,hst,rfl⟩:=aAq hmB;obtain⟨is,c,R,ids,cid,cv,cells0,rest,sp⟩:=p2.split hst;have h1:=sp.h1;have h2:=sp.h2;have htop:=sp.top;have hch:=sp.ch;have heF:=sp.eF;simp only at hch;have h4:=sp.h4;have h3:=sp.h3;simp only[aR1,Nat.zero_mul,aSb,aRe]at htop h1 h4;have gD1:(R.take 3).map PV.drop1= [.int .i64 fk, .str [],cv.drop1]:=by rw[htop];rfl
  have gL3:(R.take 3).length=3:=by rw[htop];rfl
  have b3:(3<=R.length)=True:=by simp;omega
  have hcl:=hch.cell.1;have hdd:=hch.cell.2.1;have hd0:=hch.cell.2.2;have hne1:(H0.length=H2.length)=False:=by have:=lG k2b;simp;omega
  refine eE (by simp only[kA,seval,pI,iN,fY,aA,qC,cS,cR,k2a,k2b,h1,h2,gD1,gL3,b3,hcl,hdd,hd0,k2b,hne1]<;>with_reducible rfl) z7 ?_;refine wQ ?_;have hb1:=lG k2b;have hs1:∀o,(H2.set H0.length o)[H0.length]? =some o:=λo=>aQx hb1;have hold:∀i,i<H0.length->H2[i]? =H0[i]? :=λi hi=>by
   rw[f2.same i (by simp;omega) (by simp;omega),aQt hi]
  cases hch with
  |nil=>
   refine wT ⟨.inr rfl,_,(cC (.cell 2 67) (.tmp 3) rfl (eS RS z7 (by simp only[jL,jN,seval,aA,qC,hs1]<;>with_reducible rfl)) (aP z7)), ?_⟩;refine⟨?_,by have:=f2.len;simp at this⊢;omega,λi hi _=> ?_,λi hi=>by cases hi⟩
   ·rw[St.enc_eq];rfl
   ·rw[aQy z8];exact hold i hi
  | @msl ic c' kids rest' hH hcl' hmx=>
   obtain⟨es,e1,e2,e3⟩:=OS (c'-fks.length) rest' z8;have hicF:ic∈F2:=by rw[heF];simp
   have hicn:ic≠H0.length:=λe=>n2b (e▸hicF);have hic2:H0.length<=ic:=by
    rcases aQi ic H0.length with h|h
    ·have:=f2.ids ic hicF (by simp;omega);simp at this;omega
    ·exact h
   have hrow:((H2.set H0.length (.row [.int .i64 fk, .str [], .msl ic 0 fks.length c'])))[ic]? =some (.row (aH (fks.map St.enc++es))):=by rw[aQy (Ne.symm hicn),hH,cM,e2]
   refine FM ic fks.length 3 H0.length (fks.map St.enc++es) hrow z6 (λe he=> ?_) (aQx hb1) (Ne.symm hicn) (cs':= [.int .i64 fk, .str [], .slice (fks.map St.enc) .none]) rfl (λi h1 h2=> ?_) ?_
   ·rcases aRp.1 he with he|he
    ·obtain⟨v,_,rfl⟩:=aRn.1 he;exact v.enc_len
    ·exact e3 e he
   ·match i,h1,h2 with
    |0,_,_=>exact .same _
    |1,_,_=>exact .same _
    |2,_,_=>
     have:(fks.map St.enc++es).take fks.length=fks.map St.enc:=by rw[List.take_append_of_le_length z6,aR8 z6]
     have h:=Fz.msl (id:=ic) (k:=fks.length) (es:=fks.map St.enc++es) c' z8;rw[this]at h;exact h
   have hbx:(((H2.set H0.length (.row [.int .i64 fk, .str [], .msl ic 0 fks.length c'])).set ic CR).set H0.length (.row [.int .i64 fk, .str [], .slice (fks.map St.enc) .none]))[H0.length]? =some (.row [.int .i64 fk, .str [], .slice (fks.map St.enc) .none]):=aQx (by simpa using hb1);refine wT ⟨.inr rfl,_,(cC (.cell 2 67) (.tmp 3) rfl (eS RS z7 (by simp only[jL,jN,seval,aA,qC,hbx]<;>with_reducible rfl)) (aP z7)), ?_⟩;refine⟨?_,by have:=f2.len;simp at this⊢;omega,λi hi _=> ?_,λi hi=>by cases hi⟩
   ·rw[St.enc_eq];rfl
   ·rw[aQy z8,aQy z8,aQy z8];exact hold i hi
theorem zU{f:FuncId}{caps:List PV}{H:aC}{us:List Md}{p:Md->Bool}(hc:aF3 Tryz.prog Md.enc f caps H us p)(hl:us.length<=maxLen):aL Tryz.prog 187 [.slice (us.map Md.enc) .none, .fn (.func f) [] caps] H λr' H'=>r'=aA (mF p us)/\H'=H:=by
 have hgo:=hc.go;refine cZ (N:=19) Tryz.func187 rfl rfl z6 (.int _ _) λhb'=> ?_;refine jU ?_;refine ZE (a2 zK sT) ?_;refine wQ ?_;refine dS (σ:=Unit) (us.length) (λ(s:Unit)=> [(0, .slice (us.map Md.enc) .none),(1, .fn (.func f) [] caps)]) [0,1] (H) (λ(s:Unit)=> []) (λ(i:Nat) (s:Unit)=>(us.take i).any p=false) (()) ([]) rfl rfl rfl rfl rfl rfl rfl rfl rfl z7 z7 z7 (λ_=>rfl) (hl) (Zt tN) (Zf tN) z6 (λ_ _ _=>by first|exact aRk _| (simp only[aRf];omega)) ?_ ?_ ?_
 ·exact λi s hg=>⟨by simp only[aR0];exact hb', .cons (iF _ _) (.cons (.fn _ _ _ z6 (λc hc'=>(hc.bel c hc').mono z6)) .nil)⟩
 ·intro i s hi hg;have g1:=bA hi;have g2:=bS Md.enc hi;refine ZE (a2 g1 g2) ?_;refine ZT 5 (a4 zK sT g1 g2) ?_;refine ZP (a2 g1 g2) (by assumption) (hc.call _ (aRh hi)) ?_;refine oN ?_;refine ZI (a2 g1 g2) (λb0=> ?_) (λb0=> ?_)
  ·
   refine ZE (a2 g1 g2) ?_;refine wQ ?_;refine wT ⟨.inr rfl,_,_,rfl, ?_,ZW⟩;rw[pP hi b0 hg];rfl
  ·
   refine qK ?_;exact⟨ZV,(),[],ZV,by simp only[aR0],eD hi hg b0⟩
 ·intro s hg;rw[aR7]at hg;refine jU ?_;refine wQ ?_;refine wT ⟨.inr rfl,_,_,rfl, ?_,ZW⟩;rw[mM hg];rfl
theorem tL{f:FuncId}{caps:List PV}{H:aC}{us:List Md}{p:Md->Bool}(hc:aF3 Tryz.prog Md.enc f caps H us p)(hl:us.length<=maxLen):aL Tryz.prog 120 [.slice (us.map Md.enc) .none, .fn (.func f) [] caps] H λr' H'=>r'= .bool (us.any p)/\H'=H:=by
 refine cZ (N:=9) Tryz.func120 rfl rfl z6 (.bool _) λhb'=> ?_;refine jU ?_;refine PI 2 ?_;refine ZP0 aA9 (zU hc hl) ?_;refine ZX y3 ?_;refine wQ ?_;refine wT ⟨.inr rfl,_,_,rfl, ?_,ZW⟩;rw[<-kT];rfl
theorem aBc(s:List UInt8)(hs:s.length<=maxLen):PG G0 Tryz.prog 41 [.str s] (.bool (HM s)):=by
 refine KM (N:=26) Tryz.func41 rfl rfl z6 (.bool _) λH hG hb'=> ?_;refine jU ?_;refine VF (a2 y3 y9) ?_;refine xA (λbt12=> ?_) (λbt12=> ?_)
 ·
  have hv:HM s=false:=by unfold HM;rw[bt12];rfl
  refine jU ?_;refine wQ ?_;refine wT ⟨.inr rfl,_,_,rfl, ?_,ZW⟩;simp only[jN,seval,aA,qM,hv]
  try rfl
 ·
  have hv:HM s=(decide (((dL s).1:Int)=s.length)&&decide ((dL s).2=103)):=by unfold HM;rw[bt12];rfl
  have hne:s≠ []:=by rintro rfl;simp at bt12
  have hf:=SK hs hne;refine qK ?_;refine PI 1 ?_;refine ZP0 aFl (hf _ hG) ?_;refine VT ?_;refine WG [0,3,4] ?_;refine VF (a2 y3 y9) ?_;refine wQ ?_;refine wT ⟨.inr rfl,_,_,rfl, ?_,ZW⟩;simp only[jN,seval,aA,qM,hv]
  try rfl
def sM(m:Md):Bool:=decide ((m.src.length:Int)>2000)
def pY(m:Md):Bool:= !HM m.name
def iL(name:List UInt8)(m:Md):Bool:=decide (m.name=name)
def HE(ms:List Md)(i:Nat):Bool:=(ms.take i).any (iL (ms.getD i ⟨[],[]⟩).name)
def fC(ms:List Md):Int:=if(decide ((ms.length:Int)>8)||ms.any sM)=true then 2 else if ms.any pY=true then 3 else if(List.range ms.length).any (HE ms)=true then 6 else 0
theorem aKx{H:aC}(m:Md):aL Tryz.prog 121 [m.enc] H λr H'=>r= .bool (sM m)/\H'=H:=by
 refine cZ (N:=7) Tryz.func121 rfl rfl z6 (.bool _) λhb'=> ?_;refine ZE sT ?_;refine ZE (a3 y3 y9 sT) ?_;refine wQ ?_;refine wT ⟨.inr rfl,_,_,rfl, ?_,ZW⟩
 first|rfl| (simp only[jN,seval,aA,qM,sM];rfl)
theorem aI4{H:aC}(hG:vE G0 H)(m:Md)(hm:m.name.length<=maxLen):aL Tryz.prog 122 [m.enc] H λr H'=>r= .bool (pY m)/\H'=H:=by
 refine cZ (N:=7) Tryz.func122 rfl rfl z6 (.bool _) λhb'=> ?_;refine ZE sT ?_;refine ZT 2 (a2 y9 sT) ?_;refine ZP0 aE4 (aBc m.name hm _ (hG.app _)) ?_;refine VT ?_;refine wQ ?_;refine wT ⟨.inr rfl,_,_,rfl, ?_,ZW⟩
 first|rfl| (simp only[jN,seval,aA,qM,pY];rfl)
theorem aK0{H:aC}{a:Nat}{name:List UInt8}(ha:H[a]? =some (.row [.str name]))(m:Md):aL Tryz.prog 188 [m.enc, .optr a 0] H λr H'=>r= .bool (iL name m)/\H'=H:=by
 have qa:=aB ha;have nA:(a=H.length)=False:=by have:=lG ha;simp;omega
 refine cZ (N:=8) Tryz.func188 rfl rfl z6 (.bool _) λhb'=> ?_;refine ZE (a4 sT ha qa nA) ?_;refine ZE (a5 y9 sT ha qa nA) ?_;refine wQ ?_;refine wT ⟨.inr rfl,_,_,rfl, ?_,ZW⟩
 first|rfl| (simp only[jN,seval,aA,qM,iL];rfl)
theorem VA{H:aC}(ms:List Md)(name:List UInt8)(hl:ms.length<=maxLen):aL Tryz.prog 123 [.slice (ms.map Md.enc) .none, .str name] H λr H'=>r=aA (mF (iL name) ms)/\H'=H:=by
 refine cZ (N:=8) Tryz.func123 rfl rfl z6 (.int _ _) λhb'=> ?_;refine ZE y9 ?_;refine PI 2 ?_;refine oP (by simp only[kC,seval,aA,qM]<;>with_reducible rfl) (by simp only[kC,seval,aA,qM]) z7 aA9 (zU (p:=iL name) ⟨aGc,λc hc=>by rw[aRz]at hc;subst hc;exact bW.optr _ _ z6,λu _=>aK0 z6 u⟩ hl) ?_;refine VT ?_;refine wQ ?_;refine wT ⟨.inr rfl,_,_,rfl, ?_,ZW⟩;rfl
theorem LC{ms:List Md}{i:Nat}(hi:i<ms.length):HE ms i=(ms.take i).any (iL ms[i].name):=by
 unfold HE;rw[aRb,aRa hi];rfl
theorem tK{p:Nat->Bool}{i:Nat}(h:(List.range i).any p=false)(hp:p i=false):(List.range (i+1)).any p=false:=by
 rw[List.range_succ,List.any_append,h];simp[hp]
theorem xL{p:Nat->Bool}{n i:Nat}(hi:i<n)(hp:p i=true):(List.range n).any p=true:=List.any_eq_true.2 ⟨i,aRx.2 hi,hp⟩
theorem DK{H:aC}(hG:vE G0 H)(ms:List Md)(hl:ms.length<=maxLen)(hn:∀m∈ms,m.name.length<=maxLen):aL Tryz.prog 66 [.slice (ms.map Md.enc) .none] H λr H'=>r=aA (fC ms)/\H'=H:=by
 unfold fC;refine cZ (N:=29) Tryz.func66 rfl rfl z6 (.int _ _) λhb'=> ?_;refine jU ?_;refine wQ ?_;refine wR ?_;refine bH ?_;refine ZgT 5 (a3 y3 zK sT) ?_;refine ZgP tN aAe (λhc=>tL (f:=121) (caps:= []) (us:=ms) (p:=sM) ⟨aLg,z6,λu hu=>aKx u⟩ hl) ?_;refine ZgX tN ?_;refine xA (λbt11=> ?_) (λbt11=> ?_)
 ·
  rw[if_pos bt11];refine jU ?_;refine wQ ?_;refine wT ⟨.inr rfl,_,_,rfl, ?_,ZW⟩;rfl
 ·
  rw[if_neg (by rw[bt11];simp)];refine qK ?_;refine PI 1 ?_;refine ZP0 aAe (tL (f:=122) (caps:= []) (us:=ms) (p:=pY) ⟨aKp,z6,λu hu=>aI4 hG u (hn u hu)⟩ hl) ?_;refine oN ?_;refine xA (λbt13=> ?_) (λbt13=> ?_)
  ·
   rw[if_pos bt13];refine jU ?_;refine wQ ?_;refine wT ⟨.inr rfl,_,_,rfl, ?_,ZW⟩;rfl
  ·
   rw[if_neg (by rw[bt13];simp)];refine qK ?_;refine ZE (a2 zK sT) ?_;refine wQ ?_;refine dS (σ:=Unit) (ms.length) (λ(s:Unit)=> [(0, .slice (ms.map Md.enc) .none),(14, .slice (ms.map Md.enc) .none)]) [0,14] (H) (λ(s:Unit)=> []) (λ(i:Nat) (s:Unit)=>(List.range i).any (HE ms)=false) (()) ([]) rfl rfl rfl rfl rfl rfl rfl rfl rfl z7 z7 z7 (λ_=>rfl) (hl) (Zt tN) (Zf tN) z6 (λ_ _ _=>by first|exact aRk _| (simp only[aRf];omega)) ?_ ?_ ?_
   ·exact λi s hg=>⟨by first|exact eP _| (simp only[aR0];assumption)| (refine fB hb' z6 ?_;exact ZH),ZR⟩
   ·intro i s hi hg;have g1:=bA hi;have g2:=bS Md.enc hi;have g3:(0<=((i:Nat):Int)/\((i:Nat):Int)<=(ms.length:Int))=True:=by simp;omega
    have g4:(ms.map Md.enc).take i=(ms.take i).map Md.enc:=List.map_take.symm;have g5:min i ms.length=i:=z8
    have hdd:=LC hi;have hge:=kT (iL ms[i].name) (ms.take i);rw[<-hdd]at hge;have ga:(∀(e:PV),e∈List.map Md.enc ms->e.cells.length=2)=True:=eq_true λe he=>by obtain⟨v,_,rfl⟩:=aRn.1 he;exact v.enc_len
    refine ZE (a5 zK sT ga g1 (a5 g2 g3 g4 g5 hge)) ?_;refine wQ ?_;refine eA (by kernel_rfl) ?_;refine nV 5 (by simp only[jP,jO,jN,seval,y9,zK,sT,jS,aA,qM,ga,g1,tN,g2,g3,g4,g5,hge,aQp]<;>with_reducible rfl) z7 ?_;refine ZpK (a5 ga g1 g2 g3 (a3 g4 g5 hge)) aKu (λhc=>VA (ms.take i) ms[i].name (by simp;omega)) ?_;refine ZpX (a5 y3 ga g1 g2 (a4 g3 g4 g5 hge)) ?_;refine ZI (a5 ga g1 g2 g3 (a3 g4 g5 hge)) (λbt27=> ?_) (λbt27=> ?_)
    ·
     rw[if_pos (xL hi bt27)];refine ZE (a5 ga g1 g2 g3 (a3 g4 g5 hge)) ?_;refine wQ ?_;refine wT ⟨.inr rfl,_,_,rfl, ?_,ZW⟩;rfl
    ·
     refine qK ?_;exact⟨ZV,(),_,ZV,by simp only[jN,seval,aA,qM]<;>rfl,tK hg bt27⟩
   ·intro s hg;rw[if_neg (by rw[hg];simp)];refine jU ?_;refine wQ ?_;refine wT ⟨.inr rfl,_,_,rfl, ?_,ZW⟩;rfl
theorem XK(ms:List Md)(name:List UInt8)(hx:ms.length<=maxLen):PC Tryz.prog 42 [.slice (ms.map Md.enc) .none, .str name] (aA (mF (iL name) ms)):=by
 refine fI (N:=20) Tryz.func42 rfl rfl z6 (by simp[iF,bW.str]) (.int _ _) ?_;refine jU ?_;refine ZE (a2 zK sT) ?_;refine wQ ?_;refine dS (σ:=Unit) (ms.length) (λ(s:Unit)=> [(7, .slice (ms.map Md.enc) .none),(1, .str name)]) [7,1] ([]) (λ(s:Unit)=> []) (λ(i:Nat) (s:Unit)=>(ms.take i).any (iL name)=false) (()) ([]) rfl rfl rfl rfl rfl rfl rfl rfl rfl z7 z7 z7 (λ_=>rfl) (hx) (Zt tN) (Zf tN) z6 (λ_ _ _=>by first|exact aRk _| (simp only[aRf];omega)) ?_ ?_ ?_
 ·exact λi s hg=>⟨by first|exact eP _| (simp only[aR0];assumption)| (refine fB hb' z6 ?_;exact ZH),ZR⟩
 ·intro i s hi hg;have g1:=bA hi;have g2:=bS Md.enc hi;refine ZE (a4 zK sT g1 g2) ?_;refine ZE (a4 y9 sT g1 g2) ?_;refine ZI (a2 g1 g2) (λb0=> ?_) (λb0=> ?_)
  ·
   refine ZE (a2 g1 g2) ?_;refine wQ ?_;refine wT ⟨.inr rfl,_,rfl, ?_⟩;have h17:iL name ms[i]=true:=b0;rw[pP hi h17 hg];rfl
  ·
   refine qK ?_;have h17:iL name ms[i]=false:=b0;exact⟨ZV,(),_,ZV,rfl,eD hi hg h17⟩
 ·intro s hg;rw[aR7]at hg;refine jU ?_;refine wQ ?_;refine wT ⟨.inr rfl,_,rfl, ?_⟩;rw[mM hg];rfl
def pN(n:Nd):Int:=if decide (n.kind=7)=true then n.st else n.ns
def uB(k:Int):Bool:=decide (k>=2)&&decide (k<=8)
theorem aFz(n:Nd):PC Tryz.prog 69 [n.enc] (aA (pN n)):=by
 refine fI (N:=10) Tryz.func69 rfl rfl z6 (by simp[Nd.bel,bW.int]) (.int _ _) ?_;refine ZE cW ?_;refine ZE (a2 y3 cW) ?_;refine xA (λbt5=> ?_) (λbt5=> ?_)
 ·
  have hx:pN n=n.st:=by unfold pN;rw[if_pos bt5]
  refine ZE (a2 y3 cW) ?_;refine wQ ?_;refine wT ⟨.inr rfl,_,rfl, ?_⟩;rw[hx];rfl
 ·
  have hx:pN n=n.ns:=by unfold pN;rw[if_neg (by rw[bt5];simp)]
  refine qK ?_;refine ZE (a2 y3 cW) ?_;refine wQ ?_;refine wT ⟨.inr rfl,_,rfl, ?_⟩;rw[hx];rfl
theorem aJ9(k:Int):PC Tryz.prog 124 [aA k] (.bool (uB k)):=by
 refine fI (N:=9) Tryz.func124 rfl rfl z6 (by simp[Nd.bel,bW.int]) (.bool _) ?_;refine jU ?_;refine VF y3 ?_;refine wQ ?_;refine wT ⟨.inr rfl,_,rfl, ?_⟩
 first|rfl| (unfold uB;cases decide (k>=2)<;>rfl)
def YK(P:Program)(t:TypeId):Option (Nat×TypeId×TI):=
 match P.underlying t with
 |some (.array n e)=>(cD P e).map λi=>(n,e,i)
 |_=>none
theorem GY{P:Program}{t:TypeId}{n:Nat}{e:TypeId}{i:TI}(h:YK P t=some (n,e,i)):P.underlying t=some (.array n e)/\cD P e=some i:=by
 unfold YK at h
 split at h
 ·rename_i n' e' hu;cases hi:cD P e' with
  |none=>rw[hi]at h;cases h
  |some j=>rw[hi]at h;cases h;exact⟨hu,hi⟩
 ·cases h
section
variable{P:Program}{N nb:Nat}{ops:Array Oper}{Q:dG}
theorem mY{o:Oper}{l:List Oper}{T:aD}{H:aC}{t e:TypeId}{n:Nat}{i:TI}{ps:Array (Nat×Operand)}{z:PV}{es0 es:List PV}(hop:o.op= .build t ps)(hw:aV ops.toList T N o=some true)(hok:cH N o.op=true)
  (ht:YK P t=some (n,e,i)) (hz:cF P t=some z) (hj:z.isJunk=false) (hzc:z.cells=aH es0) (hes:∀e∈es0,e.cells.length=i.sz) (hb:eN i T es0 ps.toList=some es)
  (h:bB P N nb ops Q l (bT T o.dst (.agg (aH es))) H):bB P N nb ops Q (o::l) T H:=by
 refine fA hw (λE a ho hE htr=> ?_) h;obtain⟨hu,hi⟩:=GY ht;obtain⟨f,v,h3,h4,rfl⟩:=eI hz;obtain⟨d',f',h5,h6,rfl⟩:=bQ hi;obtain⟨c1,c2⟩:=(dA E.view v).not_junk_cells hj;have hrl:RL E.view v.cells (aH es0):=by
  rw[<-hzc];exact⟨c1,c2⟩
 have hok':ps.toList.all (λx=>aQ N x.2)=true:=by
  rw[hop]at hok;refine aRo.2 λx hx=>aRo.1 hok _ ?_;simp only[Op.operands,aRn];exact⟨x,hx,rfl⟩
 obtain⟨arr',e1,e2,e3,e4⟩:=mX htr ⟨uN d',f'.size,f'.bytes⟩ ps.toList _ _ es hrl hes hok' hb;refine⟨E, .agg arr', .inl ?_, .refl E,ho,hE, .agg _ _ e2.1 e2.2⟩;unfold execOp;rw[hop];simp only[Instr.build,aQ1,hO h3 h4,aQ2,aS hu,dC h6,Array.toList_map,e1,aQ4]
theorem GN{o:Oper}{l:List Oper}{T:aD}{H:aC}{t e:TypeId}{n:Nat}{i:TI}{x y:Operand}{id off:Nat}{kk:IntKind}{k:Nat}(hop:o.op= .indexAddr t x y)(hw:aV ops.toList T N o=some true)(hok:cH N o.op=true)
  (ht:YK P t=some (n,e,i)) (hx:bO T x= .optr id off) (hy:bO T y= .int kk (k:Nat)) (hk:k<n)
  (h:bB P N nb ops Q l (bT T o.dst (.optr id (off+k*i.sz))) H):bB P N nb ops Q (o::l) T H:=by
 refine jH hw (λE a ho hvs=> ?_) h;obtain⟨hu,hi⟩:=GY ht;obtain⟨d',f',h5,h6,rfl⟩:=bQ hi;rw[hop]at hok hvs;have okx:aQ N x=true:=aRo.1 hok _ (by simp[Op.operands]);have oky:aQ N y=true:=aRo.1 hok _ (by simp[Op.operands]);have rx:=hvs x (by simp[Op.operands]) okx;have ry:=hvs y (by simp[Op.operands]) oky;rw[hx]at rx;rw[hy]at ry;obtain⟨e1,e2⟩:=rx.optr_inv;have e3:=ry.int_inv;refine⟨.pointer (some ⟨E.view.rho id,off+k*f'.size,none⟩), ?_, .optr _ _ e2⟩;unfold execOp;rw[hop];have hkk:(0:Int)<=(k:Nat)/\((k:Nat):Int)<(n:Nat):=⟨Int.natCast_nonneg k,z8⟩;simp only[e1,e3,Instr.indexAt,Instr.sureAddr,asIntOf,aQ1,aQ4,aQ2,aS hu,dC h6,if_pos hkk,Sem.run_ite,dD,tN]
end
theorem OQ:YK Tryz.prog 187=some (2,3,⟨false,1,8⟩):=by kernel_rfl
theorem FE:cF Tryz.prog 187=some (.agg [.int .i64 0, .int .i64 0]):=by kernel_rfl
theorem aD5:cD Tryz.prog 187=some ⟨true,2,16⟩:=by kernel_rfl
theorem fl2(a b:Int):aH [.int .i64 a, .int .i64 b]= [.int .i64 a, .int .i64 b]:=rfl
structure P2 where
 a:Int
 b:Int
def P2.enc(p:P2):PV:=.agg [.int .i64 p.a, .int .i64 p.b]
theorem P2.enc_len(p:P2):p.enc.cells.length=2:=rfl
theorem aA0(n:Nat)(us:List P2):bW n (.slice (us.map P2.enc) .full):=.slice _ _ (λe he c hc=>by
 obtain⟨b,_,rfl⟩:=aRn.1 he;simp only[P2.enc,PV.cells,aRs,aR2,or_false]at hc;rcases hc with rfl|rfl<;>exact .int _ _) z6
theorem P2S:(∀p:P2,p.enc.cells= [.int .i64 p.a, .int .i64 p.b])/\(∀p:P2,p.enc.isJunk=false)/\(∀p:P2,p.enc.drop1=p.enc)/\(∀p:P2,p.enc.drop0=p.enc):=⟨λ_=>rfl,λ_=>rfl,λ_=>rfl,λ_=>rfl⟩
def tV:List P2:= [⟨11,9⟩,⟨13,10⟩,⟨14,11⟩,⟨15,12⟩,⟨16,13⟩]
def QB(k:Int)(xs:List P2):Int:=match xs.find? (λp=>decide (p.a=k))with|some p=>p.b|none=>0
def mO(n:Nd)(lp:Bool):Int:=if decide (n.kind=7)=true then 6 else if decide (n.ns<0)=true then 0
 else if((decide (n.kind=13)&&lp)||decide (n.kind=44))=true then 14
 else if(decide (n.kind>=3)&&decide (n.kind<=9))=true then n.kind-3+2 else QB n.kind tV
theorem RH{k:Int}:∀ {xs:List P2} {i:Nat} (hi:i<xs.length),decide (xs[i].a=k)=true->(xs.take i).any (λp=>decide (p.a=k))=false->QB k xs=xs[i].b
 | [],i,hi,_,_=>by simp at hi
 |x::xs,0,hi,h,_=>by
  simp only[List.getElem_cons_zero]at h⊢;unfold QB;simp only[List.find?_cons,h]
 |x::xs,i+1,hi,h,hn=>by
  simp only[List.getElem_cons_succ,List.take_succ_cons,List.any_cons,Bool.or_eq_false_iff]at h hn⊢;have:=RH (xs:=xs) (by simpa using hi) h hn.2;unfold QB at this⊢;simp only[List.find?_cons,hn.1];exact this
theorem GO{k:Int}{xs:List P2}(h:xs.any (λp=>decide (p.a=k))=false):QB k xs=0:=by
 unfold QB;rw[List.find?_eq_none.2 λx hx=>by have:=List.any_eq_false.1 h x hx;simpa using this]
theorem aEy{H:aC}(n:Nd)(lp:Bool):aL Tryz.prog 68 [n.enc, .bool lp] H λr' H'=>r'=aA (mO n lp)/\H'=H:=by
 unfold mO;refine cZ (N:=61) Tryz.func68 rfl rfl z6 (.int _ _) λhb'=> ?_;refine ZE cW ?_;refine qB ?_;refine ZE (a2 y3 cW) ?_;refine xA (λbt8=> ?_) (λbt8=> ?_)
 ·
  rw[if_pos bt8];refine jU ?_;refine wQ ?_;refine wT ⟨.inr rfl,_,_,rfl, ?_,ZW⟩;rfl
 ·
  rw[if_neg (by rw[bt8];simp)];refine ZE (a2 y3 cW) ?_;refine xA (λbt12=> ?_) (λbt12=> ?_)
  ·
   rw[if_pos bt12];refine jU ?_;refine wQ ?_;refine wT ⟨.inr rfl,_,_,rfl, ?_,ZW⟩;rfl
  ·
   rw[if_neg (by rw[bt12];simp)];refine VF (a2 y3 cW) ?_;refine xA (λbt16=> ?_) (λbt16=> ?_)
   ·
    rw[if_pos bt16];refine WG [] ?_;refine jU ?_;refine wQ ?_;refine wT ⟨.inr rfl,_,_,rfl, ?_,ZW⟩;rfl
   ·
    rw[if_neg (by rw[bt16];simp)];refine WG [2] ?_;refine VF (a2 y3 cW) ?_;refine xA (λbt28=> ?_) (λbt28=> ?_)
    ·
     rw[if_pos bt28];have hk:n.kind>=3/\n.kind<=9:=by simpa using bt28
     have w1:IntKind.i64.wrap (n.kind-3)=n.kind-3:=aZ z8 z8;have w2:IntKind.i64.wrap (n.kind-3+2)=n.kind-3+2:=aZ z8 z8;refine ZE (a4 y3 cW w1 w2) ?_;refine wQ ?_;refine wT ⟨.inr rfl,_,_,rfl, ?_,ZW⟩;rfl
    ·
     rw[if_neg (by rw[bt28];simp)];refine qK ?_;refine wQ ?_;refine wR ?_;refine mY (t:=187) (n:=2) (es0:= [.int .i64 0, .int .i64 0]) (es:= [.int .i64 11, .int .i64 9]) rfl (oH tN) z7 OQ FE rfl rfl z7 rfl ?_;refine mY (t:=187) (n:=2) (es0:= [.int .i64 0, .int .i64 0]) (es:= [.int .i64 13, .int .i64 10]) rfl (oH tN) z7 OQ FE rfl rfl z7 rfl ?_;refine mY (t:=187) (n:=2) (es0:= [.int .i64 0, .int .i64 0]) (es:= [.int .i64 14, .int .i64 11]) rfl (oH tN) z7 OQ FE rfl rfl z7 rfl ?_;refine mY (t:=187) (n:=2) (es0:= [.int .i64 0, .int .i64 0]) (es:= [.int .i64 15, .int .i64 12]) rfl (oH tN) z7 OQ FE rfl rfl z7 rfl ?_;refine mY (t:=187) (n:=2) (es0:= [.int .i64 0, .int .i64 0]) (es:= [.int .i64 16, .int .i64 13]) rfl (oH tN) z7 OQ FE rfl rfl z7 rfl ?_;refine ZX (a3 aKo fl2 FE) ?_;refine WG [2,5] ?_;refine ZE aKo ?_;refine wQ ?_;refine dS (σ:=Unit) (tV.length) (λ(s:Unit)=> [(47, .slice (tV.map P2.enc) .full),(2, .optr H.length 0)]) [47,2] ((H++ [.row [.int .i64 n.kind, .int .i64 n.value, .str n.text, .int .i64 n.st, .int .i64 n.en, .int .i64 n.ns, .slice (n.kids.map Nd.enc) .none]])) (λ(s:Unit)=> []) (λ(i:Nat) (s:Unit)=>(tV.take i).any (λp=>decide (p.a=n.kind))=false) (()) ([]) rfl rfl rfl rfl rfl rfl rfl rfl rfl z7 z7 z7 (λ_=>rfl) (z7) (Zt tN) (Zf tN) z6 (λ_ _ _=>by first|exact aRk _| (simp only[aRf];omega)) ?_ ?_ ?_
     ·exact λi s hg=>⟨by(simp only[aR0];refine fB hb' z6 ?_;repeat (first|exact eP _|exact sP _| (refine kB.cons ?_ ?_)| (refine rC (by first|exact Md.bel _ _|exact Dg.bel _ _|exact iF _ _|exact QH _ _|exact Tk.bel _ _|exact St.bel _ _|exact Nd.bel _ _|exact Dg.bel _ _|exact fV _ _|exact IP _ _|exact dR _ _|exact iI _ _|exact mW _|exact nD _|exact bW.optr _ _ (by first| (simp;done)| (simp;omega))|exact bW.int _ _|exact bW.bool _|exact bW.str _|exact bW.nilp|exact bW.nilfn|exact bW.optr _ _ z6|exact mW _|exact nD _|exact uV _ _|assumption|exact aA0 _ _|exact iI _ _) ?_))),by repeat (first|exact qH.nil|refine qH.cons (by first|exact Md.bel _ _|exact Dg.bel _ _|exact iF _ _|exact QH _ _|exact Tk.bel _ _|exact St.bel _ _|exact Nd.bel _ _|exact Dg.bel _ _|exact fV _ _|exact IP _ _|exact dR _ _|exact iI _ _|exact mW _|exact nD _|exact bW.optr _ _ (by first| (simp;done)| (simp;omega))|exact bW.int _ _|exact bW.bool _|exact bW.str _|exact bW.nilp|exact bW.nilfn|exact bW.optr _ _ z6|exact mW _|exact nD _|exact uV _ _|assumption|exact aA0 _ _|exact iI _ _) ?_)⟩
     ·intro i s hi hg;have g1:=bA hi;have g2:=bS P2.enc hi;refine wQ ?_;refine eE (by simp only[kA,seval,aKo,aA,bM,bN,g1,tN,g2,P2.enc_len,P2S,FE,aD5]<;>with_reducible rfl) z7 ?_;refine wQ ?_;refine wR ?_;refine GN (t:=187) (id:=H.length+1) (off:=0) (kk:=.i64) (k:=0) rfl (oH tN) z7 OQ (Zcy tN) rfl z7 ?_;refine iX (by simp only[kA,seval,y3,cW,aA,bM,bN,g1,tN,g2,P2.enc_len,P2S,FE,aD5]<;>with_reducible rfl) z7 ?_;refine wQ ?_;refine wC rfl (by simp only[jN,seval,aA,bM,bN,g1,tN,g2,P2.enc_len,P2S,FE,aD5]<;>with_reducible rfl) (λb4=> ?_) (λb4=> ?_)
      ·
       refine wQ ?_;refine wR ?_;refine GN (t:=187) (id:=H.length+1) (off:=0) (kk:=.i64) (k:=1) rfl (oH tN) z7 OQ (Zcy tN) rfl z7 ?_;refine iX (by simp only[kA,seval,y3,aA,bM,bN,g1,tN,g2,P2.enc_len,P2S,FE,aD5]<;>with_reducible rfl) z7 ?_;refine wQ ?_;refine wT ⟨.inr rfl,_,_,rfl, ?_,ZW⟩;rw[RH hi b4 hg];rfl
      ·
       refine qK ?_;exact⟨ZV,(),[.row [.int .i64 tV[i].a, .int .i64 tV[i].b]],ZV,z6,eD hi hg b4⟩
     ·intro s hg;rw[aR7]at hg;refine jU ?_;refine wQ ?_;refine wT ⟨.inr rfl,_,_,rfl, ?_,ZW⟩;rw[GO hg];rfl
def NJ(n:Nd):Bool:=decide (n.kind<=9)&& !decide (WV n.value 1=0)
def lB(n:Nd)(lp:Bool):Bool:=((decide (n.kind=12)&&lp)||decide (n.kind=9))||decide (n.kind=38)
def uK(m:Int)(n:Nd)(lp:Bool)(par:Int):Sy:=⟨mO n lp,m,pN n,par,n.text,NJ n⟩
def kU(m:Int)(n:Nd)(lp:Bool)(par:Int)(ss:List Sy):List Sy:=if decide (mO n lp=0)=true then ss else ss++ [uK m n lp par]
def tI(n:Nd)(lp:Bool)(par:Int)(ss:List Sy):Int:=if decide (mO n lp=0)=true then par else if uB (mO n lp)=true then(ss.length:Int)else par
mutual
def oK(m:Int):Nd->Int->Bool->List Sy->List Sy
 | .mk k v t s e n us,par,lp,ss=>gQ m us (tI (.mk k v t s e n us) lp par ss) (lB (.mk k v t s e n us) lp) (kU m (.mk k v t s e n us) lp par ss)
def gQ(m:Int):List Nd->Int->Bool->List Sy->List Sy
 | [],_,_,ss=>ss
 |u::us,par,lp,ss=>gQ m us par lp (oK m u par lp ss)
end
theorem RQ(m:Int)(n:Nd)(par:Int)(lp:Bool)(ss:List Sy):oK m n par lp ss=gQ m n.kids (tI n lp par ss) (lB n lp) (kU m n lp par ss):=by
 cases n;rw[oK];rfl
theorem LB(m:Int)(n:Nd)(lp:Bool)(par:Int)(ss:List Sy):(kU m n lp par ss).length<=ss.length+1:=by unfold kU;split<;>simp
mutual
theorem rF(m:Int):∀(n:Nd) (par:Int) (lp:Bool) (ss:List Sy),(oK m n par lp ss).length<=ss.length+n.size
 | .mk k v t s e n us,par,lp,ss=>by
  rw[oK];have:=FO m us (tI (.mk k v t s e n us) lp par ss) (lB (.mk k v t s e n us) lp) (kU m (.mk k v t s e n us) lp par ss);have:=LB m (.mk k v t s e n us) lp par ss;rw[Nd.size];omega
theorem FO(m:Int):∀(us:List Nd) (par:Int) (lp:Bool) (ss:List Sy),(gQ m us par lp ss).length<=ss.length+aX us
 | [],par,lp,ss=>by rw[gQ];omega
 |u::us,par,lp,ss=>by
  rw[gQ,aX];have:=rF m u par lp ss;have:=FO m us par lp (oK m u par lp ss);omega
end
theorem iU:∀us:List Nd,us.length<=aX us
 | []=>aQj _
 |u::us=>by
  have:=iU us;have:0<u.size:=by cases u;simp only[Nd.size];omega
  rw[aX,aQ0];omega
def CS(ic it:Nat)(m:Int)(ss:List Sy)(H:aC):Prop:=H[ic]? =some (.row [.int .i64 m, .slice (ss.map Sy.enc) (.tok it)])/\H[it]? =some (.buf ss.length 6)/\ic≠it
theorem CS.app{ic it:Nat}{m:Int}{ss:List Sy}{H:aC}(h:CS ic it m ss H)(L:aC):CS ic it m ss (H++L):=⟨aB h.1 L,aB h.2.1 L,h.2.2⟩
def Vs(n:Nd):Prop:=∀(m par:Int) (lp:Bool) (ss:List Sy) (ic it:Nat) (H:aC),ss.length+n.size<=fE->CS ic it m ss H->
 aL Tryz.prog 67 [.optr ic 0,n.enc,aA par, .bool lp] H λr H'=>r= .tup []/\CS ic it m (oK m n par lp ss) H'/\Fr [ic,it] [ic,it] H H'
theorem aEn{n:Nd}(ih:∀u∈n.kids,Vs u):Vs n:=by
 intro m par lp ss ic it H0 hlm hS;obtain⟨hC,hB,hne⟩:=id hS;have lic:=lG hC;have lit:=lG hB;have qC:=aB hC;have qB:=aB hB;have nic:(ic=H0.length)=False:=by simp;omega
 have nit:(it=H0.length)=False:=by simp;omega
 have nib:∀k,(ic=H0.length+k)=False:=λk=>by simp;omega
 have nitk:∀k,(it=H0.length+k)=False:=λk=>by simp;omega
 have nci:(ic=it)=False:=by simp[hne]
 have ncb:(it=ic)=False:=by simp;exact λh=>hne h.symm
 have bic:(ic==H0.length)=false:=by simp;omega
 have bit:(it==H0.length)=false:=by simp;omega
 have bib:(ic==it)=false:=by simp[hne]
 have bci:(it==ic)=false:=by simp;exact λh=>hne h.symm
 rw[RQ];have hn0:0<n.size:=by cases n;simp only[Nd.size];omega
 have hns:ss.length+1<=fE:=z8
 have hlm':fE=1099511627776:=rfl;have hkl:=iU n.kids;have hks:n.size=1+aX n.kids:=by cases n;simp only[Nd.size,Nd.kids]
 have hsz:(kU m n lp par ss).length+aX (n.kids.drop 0)<=fE:=by
  have h1:=LB m n lp par ss;have h2:n.size=1+aX n.kids:=by cases n;simp only[Nd.size,Nd.kids]
  rw[aSb];omega
 have hap:=vU (us:=ss) (u:=uK m n lp par) (id:=it) (tl:=.full) z8;simp only[uK]at hap;have qS:∀(L:aC) (o:AObj),((H0++L).set it o)[ic]? =some (.row [.int .i64 m, .slice (ss.map Sy.enc) (.tok it)]):=λL o=>by rw[aQy (Ne.symm hne)];exact qC L
 have hfr0:Fr [ic,it] [ic,it] H0 (H0++ [.row [.int .i64 n.kind, .int .i64 n.value, .str n.text, .int .i64 n.st, .int .i64 n.en, .int .i64 n.ns, .slice (n.kids.map Nd.enc) .none]]):=(Fr.refl _ H0).app _;refine aF (N:=85) Tryz.func67 rfl rfl z6 λhb'=> ?_;refine ZE (a5 cW nitk hC hB (a5 qB nic nit nib (a5 nci ncb bic bit (a2 bib bci)))) ?_;refine ZT 2 (a5 cW nitk hC hB (a5 qB nic nit nib (a5 nci ncb bic bit (a2 bib bci)))) ?_;refine ZP (a5 nitk hC hB qB (a5 nic nit nib nci (a5 ncb bic bit bib bci))) aFu (aEy n lp) ?_;refine ZX (a5 nitk hC hB qB (a5 nic nit nib nci (a5 ncb bic bit bib bci))) ?_;refine ZE (a5 y3 nitk hC hB (a5 qB nic nit nib (a5 nci ncb bic bit (a2 bib bci)))) ?_;refine ZI (a5 nitk hC hB qB (a5 nic nit nib nci (a5 ncb bic bit bib bci))) (λbt17=> ?_) (λbt17=> ?_)
 ·
  have h0:decide (mO n lp=0)=false:=by simpa using bt17
  refine wQ ?_;refine VY (σ:=Unit) (λ(s:Unit)=> [(0, .optr ic 0),(2,aA par),(3, .bool lp),(5, .optr H0.length 0),(8,aA (mO n lp)),(9, .bool (NJ n))]) (λ(s:Unit)=>(H0++ [.row [.int .i64 n.kind, .int .i64 n.value, .str n.text, .int .i64 n.st, .int .i64 n.en, .int .i64 n.ns, .slice (n.kids.map Nd.enc) .none]])) (λ(s:Unit)=>True) ?_ ?_ ?_
  ·intro s hg;exact⟨by first|exact aRk _| (simp only[aRf];omega),by first|exact eP _| (simp only[aR0];assumption)| (refine fB hb' z6 ?_;exact ZH),ZR⟩
  ·
   rcases Bool.eq_false_or_eq_true (decide (n.kind<=9))with h9|h9
   ·
    have hpub:NJ n= !decide (WV n.value 1=0):=by unfold NJ;rw[h9];rfl
    refine ZT 6 (a5 y3 cW nitk hC (a5 hB qB nic nit (a5 nib nci ncb bic (a4 bit bib bci h9)))) ?_;refine jH (oH h9) (xT (op:=.and) (m:=n.value) (n:=1) (r:=WV n.value 1) rfl (.inr ⟨rfl,rfl⟩) z7 z7 (kV h9) (kV h9)) ?_;refine ZX (a5 y3 nitk hC hB (a5 qB nic nit nib (a5 nci ncb bic bit (a3 bib bci h9)))) ?_;exact⟨(),[],⟨rfl,rfl,rfl,rfl,rfl,(congrArg PV.bool hpub).symm,trivial⟩,(aR0 _).symm,trivial⟩
   ·
    have hpub:NJ n=false:=by unfold NJ;rw[h9];rfl
    refine ZE (a5 y3 cW nitk hC (a5 hB qB nic nit (a5 nib nci ncb bic (a4 bit bib bci h9)))) ?_;exact⟨(),[],⟨rfl,rfl,rfl,rfl,rfl,(congrArg PV.bool hpub).symm,trivial⟩,(aR0 _).symm,trivial⟩
  ·intro s hg;refine wQ ?_;refine iK 0 (by kernel_rfl) ?_;refine iY (bm:= [0,0,2,6,14,0,0,64,192,448,0,1024,0,0,8192,0,65504,131040,262142,524287,1048575,2097151]) 11 (fresh:=(H0.length+1)) (by kernel_rfl) (by simp only[jD,jO,jN,seval,y3,vS,cW,rS,FB,aA,bM,bN,qZ,nitk,hC,hB,qC,qB,nic,nit,nib,nci,ncb,bic,bit,bib,bci,hap,qS]<;>with_reducible rfl) z7 z7 ?_;refine mL (bm:= [0,0,2,6,14,0,0,64,192,448,0,1024,0,0,8192,0,65504,131040,262142,524287,1048575,2097151]) ([]) (by kernel_rfl) (by simp only[kC,seval,aA,bM,bN,qZ,nitk,hC,hB,qC,qB,nic,nit,nib,nci,ncb,bic,bit,bib,bci,hap,qS]<;>with_reducible rfl) (by simp only[kC,seval,aA,bM,bN,qZ,nitk,hC,hB,qC,qB,nic,nit,nib,nci,ncb,bic,bit,bib,bci,hap,qS]) z7 aE7 (λH' _=>aFz n H') (by simp only[jD,jO,jN,seval,aA,bM,bN,qZ,nitk,hC,hB,qC,qB,nic,nit,nib,nci,ncb,bic,bit,bib,bci,hap,qS]<;>first|done|rfl) ?_;refine iT (bm:= [0,0,2,6,14,0,0,64,192,448,0,1024,0,0,8192,0,65504,131040,262142,524287,1048575,2097151]) (fresh:=(H0.length+1)) (by kernel_rfl) (by simp only[jD,jO,jN,seval,y9,vS,cW,rS,FB,aA,bM,bN,qZ,nitk,hC,hB,qC,qB,nic,nit,nib,nci,ncb,bic,bit,bib,bci,hap,qS]<;>with_reducible rfl) z7 ?_;refine ZL [0,2,3,5,8] (a5 nitk hC hB qB (a5 nic nit nib nci (a5 ncb bic bit bib bci))) ?_;refine wQ ?_;refine dQ (λH2=>CS ic it m (kU m n lp par ss) H2/\Fr [ic,it] [ic,it] H0 H2/\H2[H0.length]? =some (.row [.int .i64 n.kind, .int .i64 n.value, .str n.text, .int .i64 n.st, .int .i64 n.en, .int .i64 n.ns, .slice (n.kids.map Nd.enc) .none])) ?_ ?_
   ·have hB2:kU m n lp par ss=ss++ [uK m n lp par]:=by unfold kU;rw[if_neg (by rw[h0];simp)]
    rw[hB2];refine⟨⟨?_, ?_,hne⟩,⟨z6,λid h1 h2=> ?_,λid h _=>h⟩, ?_⟩
    ·simp[aQt,aSc,lic,lit,hne,Ne.symm hne];rfl
    ·simp[aQt,aSc,lic,lit,hne,Ne.symm hne]
    ·simp only[aRs,aR2,or_false,not_or]at h2;simp[aQt,aSc,h1,lic,lit,Ne.symm h2.1,Ne.symm h2.2,Nat.lt_succ_of_lt h1,List.getElem_append_left]
    ·simp[aSc,lic,lit,Nat.ne_of_lt lic,Nat.ne_of_lt lit]
   rintro H2 ⟨hS2,f2,hn2⟩;obtain⟨hC2,hB2,_⟩:=id hS2;have haL:(kU m n lp par ss).length=ss.length+1:=by unfold kU;rw[if_neg (by rw[h0];simp)];simp
   have gw:IntKind.i64.wrap (((ss.length+1:Nat):Int) -1)=(ss.length:Int):=by rw[aZ z8 z8];omega
   refine wR ?_;refine ZU 1 (a5 nitk hC hB qB (a5 nic nit nib nci (a5 ncb bic bit bib bci))) ?_;refine oP (by simp only[kC,seval,aA,bM,bN,qZ,nitk,hC,hB,qC,qB,nic,nit,nib,nci,ncb,bic,bit,bib,bci]<;>with_reducible rfl) (by simp only[kC,seval,aA,bM,bN,qZ,nitk,hC,hB,qC,qB,nic,nit,nib,nci,ncb,bic,bit,bib,bci]) z7 aLf (aJ9 (mO n lp) _) ?_;refine oN ?_;refine ZI (a5 nitk hC hB qB (a5 nic nit nib nci (a5 ncb bic bit bib bci))) (λbt49=> ?_) (λbt49=> ?_)
   ·
    have hk:uB (mO n lp)=true:=bt49;refine wQ ?_;refine eE (by simp only[kA,seval,y3,vS,rS,FB,aA,bM,bN,qZ,nitk,hC,hB,qC,qB,nic,nit,nib,nci,ncb,bic,bit,bib,bci,hC2,haL,gw,aQp]<;>with_reducible rfl) z7 ?_;refine wQ ?_;have hpar:tI n lp par ss=(ss.length:Int):=by unfold tI;rw[if_neg (by rw[h0];simp),if_pos hk]
    rw[hpar];refine sR (by simp only[jG,jO,jN,seval,y3,cW,aA,bM,bN,qZ,nitk,hC,hB,qC,qB,nic,nit,nib,nci,ncb,bic,bit,bib,bci,hn2]<;>with_reducible rfl) z7 (by repeat (first|exact dI.base _|with_reducible apply dI.keep|apply dI.drop)) ?_;refine ZL [0,2,5,10] (a5 nitk hC hB qB (a5 nic nit nib nci (a5 ncb bic bit bib bci))) ?_;refine ZE (a5 tT cW nitk hC (a5 hB qB nic nit (a5 nib nci ncb bic (a4 bit bib bci hn2)))) ?_;refine wQ ?_;refine cV ?_;refine cL (σ:=Nat×List Sy) (λ(z:Nat×List Sy)=> [(0, .optr ic 0),(73, .slice (n.kids.map Nd.enc) .none),(74,aA (n.kids.length:Int)),(75,aA (z.1:Int)),(2,aA (ss.length:Int)),(10, .bool (lB n lp))]) (λ(z:Nat×List Sy)=>λH1=>z.1<=n.kids.length/\z.2.length+aX (n.kids.drop z.1)<=fE/\gQ m (n.kids.drop z.1) ((ss.length:Int)) (lB n lp) z.2=gQ m n.kids ((ss.length:Int)) (lB n lp) (kU m n lp par ss)/\CS ic it m z.2 H1/\Fr [ic,it] [ic,it] H0 H1) (λ(z:Nat×List Sy)=>n.kids.length-z.1) ((0,kU m n lp par ss)) (Zt (a5 nitk hC hB qB (a5 nic nit nib nci (a5 ncb bic bit bib bci)))) (⟨aRk _,hsz,rfl,hS2,f2⟩) ?_;intro z H1 hg;obtain⟨j,sj⟩:=z;obtain⟨hj,hlj,hmj,hSj,fj⟩:=hg;simp only at hj hlj hmj hSj fj;rcases aQi j n.kids.length with hi|hi
    ·
     have gi:=bA hi;have ge:=bS Nd.enc hi;have gl:decide ((j:Int)<(n.kids.length:Int))=true:=decide_eq_true z8;have gwj:IntKind.i64.wrap ((j:Int)+1)=((j+1:Nat):Int):=by rw[aZ z8 z8];omega
     rw[aR6 hi,gQ]at hmj;rw[aR6 hi,aX]at hlj;have hvl:=rF m n.kids[j] ((ss.length:Int)) (lB n lp) sj;refine ZE (a5 y3 nitk hC hB (a5 qB nic nit nib (a5 nci ncb bic bit (a5 bib bci gi ge (a2 gl gwj))))) ?_;refine ZG (a5 nitk hC hB qB (a5 nic nit nib nci (a5 ncb bic bit bib (a5 bci gi ge gl gwj)))) ?_;refine qK ?_;refine wQ ?_;refine cV ?_;refine ZE (a5 tT cW nitk hC (a5 hB qB nic nit (a5 nib nci ncb bic (a5 bit bib bci gi (a3 ge gl gwj))))) ?_;refine ZT 4 (a5 cW nitk hC hB (a5 qB nic nit nib (a5 nci ncb bic bit (a5 bib bci gi ge (a2 gl gwj))))) ?_;refine ZA (a5 nitk hC hB qB (a5 nic nit nib nci (a5 ncb bic bit bib (a5 bci gi ge gl gwj)))) RN (ih n.kids[j] (aRh hi) m ((ss.length:Int)) (lB n lp) sj ic it _ z8 (hSj.app _)) ?_;rintro _ H2 ⟨rfl,hSk,fk⟩;refine oN ?_;refine ZE (a5 y3 nitk hC hB (a5 qB nic nit nib (a5 nci ncb bic bit (a5 bib bci gi ge (a2 gl gwj))))) ?_
     try simp only[aY,aT]
     exact⟨(j+1,_),by show n.kids.length- (j+1)<n.kids.length-j;omega,ZV,hi,by show(oK m n.kids[j] ((ss.length:Int)) (lB n lp) sj).length+aX (n.kids.drop (j+1))<=fE;omega,hmj,hSk,fj.step fk⟩
    ·
     have gl:decide ((j:Int)<(n.kids.length:Int))=false:=decide_eq_false z8;rw[List.drop_eq_nil_of_le hi,gQ]at hmj;refine ZE (a5 y3 nitk hC hB (a5 qB nic nit nib (a5 nci ncb bic bit (a3 bib bci gl)))) ?_;refine ZF (a5 nitk hC hB qB (a5 nic nit nib nci (a5 ncb bic bit bib (a2 bci gl)))) ?_;refine wQ ?_;refine bG ?_;simp only[aY,aT,reduceIte,Nat.reduceEqDiff,aR5,if_true,if_false];refine⟨(by first|exact .inl rfl|exact .inl trivial|trivial),_,rfl, ?_⟩;exact⟨rfl,by rw[<-hmj];exact hSj,fj⟩
   ·
    have hk:uB (mO n lp)=false:=bt49;refine qK ?_;refine wQ ?_;have hpar:tI n lp par ss=par:=by unfold tI;rw[if_neg (by rw[h0];simp),if_neg (by rw[hk];simp)]
    rw[hpar];refine sR (by simp only[jG,jO,jN,seval,y3,cW,aA,bM,bN,qZ,nitk,hC,hB,qC,qB,nic,nit,nib,nci,ncb,bic,bit,bib,bci,hn2]<;>with_reducible rfl) z7 (by repeat (first|exact dI.base _|with_reducible apply dI.keep|apply dI.drop)) ?_;refine ZL [0,2,5,10] (a5 nitk hC hB qB (a5 nic nit nib nci (a5 ncb bic bit bib bci))) ?_;refine ZE (a5 tT cW nitk hC (a5 hB qB nic nit (a5 nib nci ncb bic (a4 bit bib bci hn2)))) ?_;refine wQ ?_;refine cV ?_;refine cL (σ:=Nat×List Sy) (λ(z:Nat×List Sy)=> [(0, .optr ic 0),(73, .slice (n.kids.map Nd.enc) .none),(74,aA (n.kids.length:Int)),(75,aA (z.1:Int)),(2,aA par),(10, .bool (lB n lp))]) (λ(z:Nat×List Sy)=>λH1=>z.1<=n.kids.length/\z.2.length+aX (n.kids.drop z.1)<=fE/\gQ m (n.kids.drop z.1) (par) (lB n lp) z.2=gQ m n.kids (par) (lB n lp) (kU m n lp par ss)/\CS ic it m z.2 H1/\Fr [ic,it] [ic,it] H0 H1) (λ(z:Nat×List Sy)=>n.kids.length-z.1) ((0,kU m n lp par ss)) (Zt (a5 nitk hC hB qB (a5 nic nit nib nci (a5 ncb bic bit bib bci)))) (⟨aRk _,hsz,rfl,hS2,f2⟩) ?_;intro z H1 hg;obtain⟨j,sj⟩:=z;obtain⟨hj,hlj,hmj,hSj,fj⟩:=hg;simp only at hj hlj hmj hSj fj;rcases aQi j n.kids.length with hi|hi
    ·
     have gi:=bA hi;have ge:=bS Nd.enc hi;have gl:decide ((j:Int)<(n.kids.length:Int))=true:=decide_eq_true z8;have gwj:IntKind.i64.wrap ((j:Int)+1)=((j+1:Nat):Int):=by rw[aZ z8 z8];omega
     rw[aR6 hi,gQ]at hmj;rw[aR6 hi,aX]at hlj;have hvl:=rF m n.kids[j] (par) (lB n lp) sj;refine ZE (a5 y3 nitk hC hB (a5 qB nic nit nib (a5 nci ncb bic bit (a5 bib bci gi ge (a2 gl gwj))))) ?_;refine ZG (a5 nitk hC hB qB (a5 nic nit nib nci (a5 ncb bic bit bib (a5 bci gi ge gl gwj)))) ?_;refine qK ?_;refine wQ ?_;refine cV ?_;refine ZE (a5 tT cW nitk hC (a5 hB qB nic nit (a5 nib nci ncb bic (a5 bit bib bci gi (a3 ge gl gwj))))) ?_;refine ZT 4 (a5 cW nitk hC hB (a5 qB nic nit nib (a5 nci ncb bic bit (a5 bib bci gi ge (a2 gl gwj))))) ?_;refine ZA (a5 nitk hC hB qB (a5 nic nit nib nci (a5 ncb bic bit bib (a5 bci gi ge gl gwj)))) RN (ih n.kids[j] (aRh hi) m (par) (lB n lp) sj ic it _ z8 (hSj.app _)) ?_;rintro _ H2 ⟨rfl,hSk,fk⟩;refine oN ?_;refine ZE (a5 y3 nitk hC hB (a5 qB nic nit nib (a5 nci ncb bic bit (a5 bib bci gi ge (a2 gl gwj))))) ?_
     try simp only[aY,aT]
     exact⟨(j+1,_),by show n.kids.length- (j+1)<n.kids.length-j;omega,ZV,hi,by show(oK m n.kids[j] (par) (lB n lp) sj).length+aX (n.kids.drop (j+1))<=fE;omega,hmj,hSk,fj.step fk⟩
    ·
     have gl:decide ((j:Int)<(n.kids.length:Int))=false:=decide_eq_false z8;rw[List.drop_eq_nil_of_le hi,gQ]at hmj;refine ZE (a5 y3 nitk hC hB (a5 qB nic nit nib (a5 nci ncb bic bit (a3 bib bci gl)))) ?_;refine ZF (a5 nitk hC hB qB (a5 nic nit nib nci (a5 ncb bic bit bib (a2 bci gl)))) ?_;refine wQ ?_;refine bG ?_;simp only[aY,aT,reduceIte,Nat.reduceEqDiff,aR5,if_true,if_false];refine⟨(by first|exact .inl rfl|exact .inl trivial|trivial),_,rfl, ?_⟩;exact⟨rfl,by rw[<-hmj];exact hSj,fj⟩
 ·
  have h0:decide (mO n lp=0)=true:=by simpa using bt17
  refine qK ?_;refine wQ ?_;have hpar:tI n lp par ss=par:=by unfold tI;rw[if_pos h0]
  rw[hpar];refine dQ (λH2=>CS ic it m (kU m n lp par ss) H2/\Fr [ic,it] [ic,it] H0 H2/\H2[H0.length]? =some (.row [.int .i64 n.kind, .int .i64 n.value, .str n.text, .int .i64 n.st, .int .i64 n.en, .int .i64 n.ns, .slice (n.kids.map Nd.enc) .none])) ?_ ?_
  ·exact⟨by rw[show kU m n lp par ss=ss by unfold kU;rw[if_pos h0]];exact hS.app _,hfr0,z6⟩
  rintro H2 ⟨hS2,f2,hn2⟩;refine sR (Zg (a5 y3 cW nitk hC (a5 hB qB nic nit (a5 nib nci ncb bic (a4 bit bib bci hn2))))) z7 (by repeat (first|exact dI.base _|with_reducible apply dI.keep|apply dI.drop)) ?_;refine ZL [0,2,5,10] (a5 nitk hC hB qB (a5 nic nit nib nci (a5 ncb bic bit bib bci))) ?_;refine ZE (a5 tT cW nitk hC (a5 hB qB nic nit (a5 nib nci ncb bic (a4 bit bib bci hn2)))) ?_;refine wQ ?_;refine cV ?_;refine cL (σ:=Nat×List Sy) (λ(z:Nat×List Sy)=> [(0, .optr ic 0),(73, .slice (n.kids.map Nd.enc) .none),(74,aA (n.kids.length:Int)),(75,aA (z.1:Int)),(2,aA par),(10, .bool (lB n lp))]) (λ(z:Nat×List Sy)=>λH1=>z.1<=n.kids.length/\z.2.length+aX (n.kids.drop z.1)<=fE/\gQ m (n.kids.drop z.1) (par) (lB n lp) z.2=gQ m n.kids (par) (lB n lp) (kU m n lp par ss)/\CS ic it m z.2 H1/\Fr [ic,it] [ic,it] H0 H1) (λ(z:Nat×List Sy)=>n.kids.length-z.1) ((0,kU m n lp par ss)) (Zt (a5 nitk hC hB qB (a5 nic nit nib nci (a5 ncb bic bit bib bci)))) (⟨aRk _,hsz,rfl,hS2,f2⟩) ?_;intro z H1 hg;obtain⟨j,sj⟩:=z;obtain⟨hj,hlj,hmj,hSj,fj⟩:=hg;simp only at hj hlj hmj hSj fj;rcases aQi j n.kids.length with hi|hi
  ·
   have gi:=bA hi;have ge:=bS Nd.enc hi;have gl:decide ((j:Int)<(n.kids.length:Int))=true:=decide_eq_true z8;have gwj:IntKind.i64.wrap ((j:Int)+1)=((j+1:Nat):Int):=by rw[aZ z8 z8];omega
   rw[aR6 hi,gQ]at hmj;rw[aR6 hi,aX]at hlj;have hvl:=rF m n.kids[j] (par) (lB n lp) sj;refine ZE (a5 y3 nitk hC hB (a5 qB nic nit nib (a5 nci ncb bic bit (a5 bib bci gi ge (a2 gl gwj))))) ?_;refine ZG (a5 nitk hC hB qB (a5 nic nit nib nci (a5 ncb bic bit bib (a5 bci gi ge gl gwj)))) ?_;refine qK ?_;refine wQ ?_;refine cV ?_;refine ZE (a5 tT cW nitk hC (a5 hB qB nic nit (a5 nib nci ncb bic (a5 bit bib bci gi (a3 ge gl gwj))))) ?_;refine ZT 4 (a5 cW nitk hC hB (a5 qB nic nit nib (a5 nci ncb bic bit (a5 bib bci gi ge (a2 gl gwj))))) ?_;refine ZA (a5 nitk hC hB qB (a5 nic nit nib nci (a5 ncb bic bit bib (a5 bci gi ge gl gwj)))) RN (ih n.kids[j] (aRh hi) m (par) (lB n lp) sj ic it _ z8 (hSj.app _)) ?_;rintro _ H2 ⟨rfl,hSk,fk⟩;refine oN ?_;refine ZE (a5 y3 nitk hC hB (a5 qB nic nit nib (a5 nci ncb bic bit (a5 bib bci gi ge (a2 gl gwj))))) ?_
   try simp only[aY,aT]
   exact⟨(j+1,_),by show n.kids.length- (j+1)<n.kids.length-j;omega,ZV,hi,by show(oK m n.kids[j] (par) (lB n lp) sj).length+aX (n.kids.drop (j+1))<=fE;omega,hmj,hSk,fj.step fk⟩
  ·
   have gl:decide ((j:Int)<(n.kids.length:Int))=false:=decide_eq_false z8;rw[List.drop_eq_nil_of_le hi,gQ]at hmj;refine ZE (a5 y3 nitk hC hB (a5 qB nic nit nib (a5 nci ncb bic bit (a3 bib bci gl)))) ?_;refine ZF (a5 nitk hC hB qB (a5 nic nit nib nci (a5 ncb bic bit bib (a2 bci gl)))) ?_;refine wQ ?_;refine bG ?_;simp only[aY,aT,reduceIte,Nat.reduceEqDiff,aR5,if_true,if_false];refine⟨(by first|exact .inl rfl|exact .inl trivial|trivial),_,rfl, ?_⟩;exact⟨rfl,by rw[<-hmj];exact hSj,fj⟩
theorem SW:∀(k:Nat) (n:Nd),n.size<=k->Vs n
 |0,n,h=>by cases n;simp[Nd.size]at h
 |k+1,n,h=>aEn λu hu=>SW k u (by have:=Nd.size_kid hu;omega)
set_option maxRecDepth 4000
def bJ:List Sy:= [⟨15, -1, -1, -1,[105,110,116],false⟩,⟨15, -1, -1, -1,[98,111,111,108],false⟩,⟨15, -1, -1, -1,[115,116,114,105,110,103],false⟩,⟨15, -1, -1, -1,[83,101,108,102],false⟩]
def gG(ms:List Md)(i:Nat):Sy:=⟨1,(i:Int), -1, -1,(ms.getD i ⟨[],[]⟩).name,true⟩
def lY(ms:List Md):List Nd->Nat->List Sy->List Sy
 | [],_,ss=>ss
 |t::ts,i,ss=>lY ms ts (i+1) (oK (i:Int) t (ss.length:Int) false (ss++ [gG ms i]))
theorem GP(ms:List Md):∀(ts:List Nd) (i:Nat) (ss:List Sy),(lY ms ts i ss).length<=ss.length+aX ts+ts.length
 | [],i,ss=>by rw[lY];omega
 |t::ts,i,ss=>by
  rw[lY,aX,aQ0];have h1:=rF (i:Int) t (ss.length:Int) false (ss++ [gG ms i]);have h2:=GP ms ts (i+1) (oK (i:Int) t (ss.length:Int) false (ss++ [gG ms i]));rw[aRf,aQh]at h1;omega
theorem Fr.split{F':List Nat}{H H':aC}(a:Fr [] F' H H'):∃L,H'=H++L:=by
 refine⟨H'.drop H.length,List.ext_getElem? λi=> ?_⟩;rcases aQi i H.length with h|h
 ·rw[aQt h];exact a.same i h z6
 ·rw[aQu h,List.getElem?_drop];congr 1;omega
theorem ZS{H0:aC}(ms:List Md)(ts:List Nd)(hl:ts.length<=ms.length)(hsz:4+aX ts+(ts.length-0)<=fE):aL Tryz.prog 39 [.slice (ms.map Md.enc) .none, .slice (ts.map Nd.enc) .none] H0 λr H'=>r= .slice ((lY ms ts 0 bJ).map Sy.enc) .none/\H'=H0:=by
 have hmx:maxLen=9223372036854775807:=z7
 have hlm':fE=1099511627776:=rfl;have hkl:=iU ts;refine cZ (N:=71) Tryz.func39 rfl rfl z6 (jQ _ _) λhb'=> ?_;refine jU ?_;refine ZE FB ?_;refine wQ ?_;refine EY H0.length 1 6 (cs:= [.int .i64 0, .slice [] .full]) z6 rfl ?_;refine dQ (λH2=>CS H0.length (H0.length+1) 0 [] H2/\Fr [] [H0.length,H0.length+1] H0 H2) ?_ ?_
 ·refine⟨⟨?_, ?_,z8⟩,⟨z6,λid h1 h2=> ?_,λid h hl=> ?_⟩⟩
  ·simp
  ·simp
  ·simp[aQt,h1,Nat.lt_succ_of_lt h1,aSc,Nat.ne_of_gt h1]
  ·simp only[aRs,aR2,or_false]at h;omega
 rintro H2 ⟨hS2,f2⟩;refine eE (Za (a2 y9 iG)) z7 ?_;refine qB ?_;refine cL (σ:=Nat) (λ(z:Nat)=> [(0, .slice (ms.map Md.enc) .none),(1, .slice (ts.map Nd.enc) .none),(5, .optr H0.length 0),(12, .slice (bJ.map λs=>PV.str s.name) .full),(13,aA 4),(14,aA (z:Int))]) (λ(z:Nat)=>λH1=>z<=4/\CS H0.length (H0.length+1) 0 (bJ.take z) H1/\Fr [] [H0.length,H0.length+1] H0 H1) (λ(z:Nat)=>4-z) (0) (Zt tN) (⟨aRk _,hS2,f2⟩) ?_;intro z H1 hg;obtain⟨hj,hSj,fj⟩:=hg;rcases aQi z 4 with hi|hi
 ·
  obtain⟨hC,hB,hne⟩:=id hSj;have lic:=lG hC;have lit:=lG hB;have qC:=aB hC;have qB:=aB hB;have nic:(H0.length=H1.length)=False:=by simp;omega
  have nit:(H0.length+1=H1.length)=False:=by simp;omega
  have nib:∀k,(H0.length=H1.length+k)=False:=λk=>by simp;omega
  have nitk:∀k,(H0.length+1=H1.length+k)=False:=λk=>by simp;omega
  have bic:(H0.length==H1.length)=false:=by simp;omega
  have bit:(H0.length+1==H1.length)=false:=by simp;omega
  have gi:(0<=((z:Nat):Int)/\((z:Nat):Int)<4)=True:=by simp;omega
  have gl:decide ((z:Int)<4)=true:=decide_eq_true z8;have gwj:IntKind.i64.wrap ((z:Int)+1)=((z+1:Nat):Int):=by rw[aZ z8 z8];omega
  have hb4:z<bJ.length:=hi;have ge:(bJ.map λs=>PV.str s.name)[z]? =some (.str bJ[z].name):=by rw[aQ8,aRa hb4];rfl
  have gb:bJ[z]=⟨15, -1, -1, -1,bJ[z].name,false⟩:=by
   have:z=0\/z=1\/z=2\/z=3:=z8
   rcases this with rfl|rfl|rfl|rfl<;>rfl
  have htk:bJ.take (z+1)=bJ.take z++ [⟨15, -1, -1, -1,bJ[z].name,false⟩]:=by rw[List.take_succ_eq_append_getElem hb4,<-gb]
  have hlt:(bJ.take z).length=z:=by simp[bJ];omega
  have hap:=vU (us:=bJ.take z) (u:=⟨15, -1, -1, -1,bJ[z].name,false⟩) (id:=H0.length+1) (tl:=.full) (by rw[hlt];omega);have g4:(bJ.map λs=>PV.str s.name).length=4:=rfl;have qS:∀(o:AObj),(H1.set (H0.length+1) o)[H0.length]? =some (.row [.int .i64 0, .slice ((bJ.take z).map Sy.enc) (.tok (H0.length+1))]):=λo=>by rw[aQy z8];exact hC
  refine ZE (a5 y3 gi ge gl (a5 gwj g4 hap nitk (a5 hC hB qB nic (a4 nit nib bic bit)))) ?_;refine ZG (a5 gi ge gl gwj (a5 g4 hap nitk hC (a5 hB qB nic nit (a3 nib bic bit)))) ?_;refine qK ?_;refine wQ ?_;refine cV ?_;refine ZE (a5 y9 iG gi ge (a5 gl gwj g4 hap (a5 nitk hC hB qB (a5 nic nit nib bic bit)))) ?_;refine wQ ?_;refine eE (by simp only[kA,seval,vS,rS,FB,aA,bM,bN,qZ,qM,gi,ge,gl,gwj,tN,g4,hap,qS,lS,nitk,hC,hB,qC,qB,nic,nit,nib,bic,bit]<;>with_reducible rfl) z7 ?_;refine ZL [0,1,5,12,13,14] (a5 gi ge gl gwj (a5 g4 hap nitk hC (a5 hB qB nic nit (a3 nib bic bit)))) ?_;refine wQ ?_;refine eE (by simp only[kA,seval,y3,aA,bM,bN,qZ,qM,gi,ge,gl,gwj,tN,g4,hap,qS,lS,nitk,hC,hB,qC,qB,nic,nit,nib,bic,bit]<;>with_reducible rfl) z7 ?_
  try simp only[aY,aT]
  refine⟨z+1,z8,ZV,z8, ?_⟩;rw[htk];refine⟨⟨?_, ?_,hne⟩,⟨?_,λid h1 h2=> ?_,λid h hl=> ?_⟩⟩
  ·simp[aSc,lic,lit]
  ·simp[aSc,lic,lit,hlt]
  ·have:=fj.len;simp;omega
  ·have hlj:=fj.len;have e1:id≠H0.length:=z8
   have e2:id≠H0.length+1:=z8
   rw[<-fj.same id h1 h2];simp[aSc,Ne.symm e1,Ne.symm e2]
  ·simp only[aRs,aR2,or_false]at h;omega
 ·
  have gl:decide ((z:Int)<4)=false:=decide_eq_false z8;obtain rfl:z=4:=z8
  have hS4:CS H0.length (H0.length+1) 0 bJ H1:=hSj;have f4:=fj;refine ZE (a2 y3 gl) ?_;refine ZF gl ?_;refine wQ ?_;refine bG ?_;simp only[aY,aT,reduceIte,Nat.reduceEqDiff,aR5,if_true,if_false];refine ZE (a3 tT cW gl) ?_;refine qB ?_;refine cL (σ:=Nat×Int×List Sy) (λ(z:Nat×Int×List Sy)=> [(0, .slice (ms.map Md.enc) .none),(5, .optr H0.length 0),(30, .slice (ts.map Nd.enc) .none),(31,aA (ts.length:Int)),(32,aA (z.1:Int))]) (λ(z:Nat×Int×List Sy)=>λH2=>z.1<=ts.length/\z.2.2.length+aX (ts.drop z.1)+(ts.length-z.1)<=fE/\lY ms (ts.drop z.1) z.1 z.2.2=lY ms ts 0 bJ/\CS H0.length (H0.length+1) z.2.1 z.2.2 H2/\Fr [] [H0.length,H0.length+1] H0 H2) (λ(z:Nat×Int×List Sy)=>ts.length-z.1) ((0,0,bJ)) (Zt gl) (⟨aRk _,by simp only[aSb];exact hsz,rfl,hS4,f4⟩) ?_;intro z H2 hg;obtain⟨j,mj,sj⟩:=z;obtain⟨hj,hlj,hmj,hSj,fj⟩:=hg;simp only at hj hlj hmj hSj fj;rcases aQi j ts.length with hi|hi
  ·
   obtain⟨hC,hB,hne⟩:=id hSj;have lic:=lG hC;have lit:=lG hB;have qC:=aB hC;have qB:=aB hB;have nic:(H0.length=H2.length)=False:=by simp;omega
   have nit:(H0.length+1=H2.length)=False:=by simp;omega
   have nib:∀k,(H0.length=H2.length+k)=False:=λk=>by simp;omega
   have nitk:∀k,(H0.length+1=H2.length+k)=False:=λk=>by simp;omega
   have bic:(H0.length==H2.length)=false:=by simp;omega
   have bit:(H0.length+1==H2.length)=false:=by simp;omega
   have gi:=bA hi;have ge:=bS Nd.enc hi;have him:j<ms.length:=z8
   have gi2:=bA him;have ge2:=bS Md.enc him;have gl:decide ((j:Int)<(ts.length:Int))=true:=decide_eq_true z8;have gwj:IntKind.i64.wrap ((j:Int)+1)=((j+1:Nat):Int):=by rw[aZ z8 z8];omega
   rw[aR6 hi,lY]at hmj;rw[aR6 hi,aX]at hlj;have hms:gG ms j=⟨1,(j:Int), -1, -1,ms[j].name,true⟩:=by unfold gG;rw[aRb,aRa him];rfl
   have hap:=vU (us:=sj) (u:=⟨1,(j:Int), -1, -1,ms[j].name,true⟩) (id:=H0.length+1) (tl:=.full) z8;have hvl:=rF (j:Int) ts[j] (sj.length:Int) false (sj++ [gG ms j]);have qS:∀(L:aC) (o:AObj),((H2++L).set H0.length o)[H0.length]? =some o:=λL o=>aQx (by simp;omega);have qSb:∀(L:aC) (o:AObj),((H2++L).set H0.length o)[H0.length+1]? =some (.buf sj.length 6):=λL o=>by rw[aQy z8];exact qB L
   have qSS:∀(L:aC) (o o2:AObj),(((H2++L).set H0.length o).set (H0.length+1) o2)[H0.length]? =some o:=λL o o2=>by rw[aQy z8];exact qS L o
   refine ZE (a5 y3 gl gi ge (a5 gwj gi2 ge2 hap (a5 qSb qSS nitk hC (a5 hB qB nic nit (a3 nib bic bit))))) ?_;refine ZG (a5 gl gi ge gwj (a5 gi2 ge2 hap qSb (a5 qSS nitk hC hB (a5 qB nic nit nib (a2 bic bit))))) ?_;refine qK ?_;refine wQ ?_;refine cV ?_;refine ZE (a5 tT cW gl gi (a5 ge gwj gi2 ge2 (a5 hap qSb qSS nitk (a5 hC hB qB nic (a4 nit nib bic bit))))) ?_;refine wQ ?_;refine eE (by simp only[kA,seval,y3,FB,aA,bM,bN,qZ,qM,gl,gi,ge,gl,gwj,tN,Nd.enc_len,gi2,ge2,Md.enc_len,hap,qS,qSb,qSS,nitk,hC,hB,qC,qB,nic,nit,nib,bic,bit]<;>with_reducible rfl) z7 ?_;refine wQ ?_;refine iK 0 (by kernel_rfl) ?_;refine iY (bm:= [0,0,2,6,14,0,0,0,192,448,960,2016,4064,8190,16383,32767,65535]) 10 (fresh:=(H2.length+1)) (by kernel_rfl) (by simp only[jD,jO,jN,seval,zK,vS,rS,sT,FB,aA,bM,bN,qZ,qM,gl,gi,ge,gl,gwj,tN,Nd.enc_len,gi2,ge2,Md.enc_len,hap,qS,qSb,qSS,nitk,hC,hB,qC,qB,nic,nit,nib,bic,bit]<;>with_reducible rfl) z7 z7 ?_;refine iT (bm:= [0,0,2,6,14,0,0,0,192,448,960,2016,4064,8190,16383,32767,65535]) (fresh:=(H2.length+1)) (by kernel_rfl) (by simp only[jD,jO,jN,seval,y9,vS,rS,FB,aA,bM,bN,qZ,qM,gl,gi,ge,gl,gwj,tN,Nd.enc_len,gi2,ge2,Md.enc_len,hap,qS,qSb,qSS,nitk,hC,hB,qC,qB,nic,nit,nib,bic,bit]<;>with_reducible rfl) z7 ?_;refine ZL [0,1,5,9,12,13,14,30,31,32] (a5 gl gi ge gwj (a5 gi2 ge2 hap qSb (a5 qSS nitk hC hB (a5 qB nic nit nib (a2 bic bit))))) ?_;refine wQ ?_;refine dQ (λH3=>CS H0.length (H0.length+1) (j:Int) (sj++ [gG ms j]) H3/\Fr [] [H0.length,H0.length+1] H0 H3/\H3[H2.length]? =some (.row [.int .i64 ts[j].kind, .int .i64 ts[j].value, .str ts[j].text, .int .i64 ts[j].st, .int .i64 ts[j].en, .int .i64 ts[j].ns, .slice (ts[j].kids.map Nd.enc) .none])) ?_ ?_
   ·rw[hms];refine⟨⟨?_, ?_,hne⟩,⟨?_,λid h1 h2=> ?_,λid h hl=> ?_⟩, ?_⟩
    ·simp[aQt,aSc,lic,lit,hne,Ne.symm hne]
    ·simp[aQt,aSc,lic,lit,hne,Ne.symm hne]
    ·have:=fj.len;simp;omega
    ·have hlj:=fj.len;have e1:id≠H0.length:=z8
     have e2:id≠H0.length+1:=z8
     rw[<-fj.same id h1 h2];have hid:id<H2.length:=z8
     simp[aSc,Ne.symm e1,Ne.symm e2,aQt hid]
    ·simp only[aRs,aR2,or_false]at h;omega
    ·simp[aSc,lic,lit,Nat.ne_of_lt lic,Nat.ne_of_lt lit]
   rintro H3 ⟨hS3,f3,hn3⟩;obtain⟨hC3,hB3,_⟩:=id hS3;have gw:IntKind.i64.wrap (((sj.length+1:Nat):Int) -1)=(sj.length:Int):=by rw[aZ z8 z8];omega
   have haL:(sj++ [gG ms j]).length=sj.length+1:=z6
   refine wQ ?_;refine eR 0 (by kernel_rfl) ?_;refine gZ 8 (bm:= [0,0,0,4,12,28,60,124,255]) (by kernel_rfl) z7 (by kernel_rfl) (by kernel_rfl) ?_;refine lU (by simp only[jP,jO,jN,seval,y3,vS,cW,rS,FB,aA,bM,bN,qZ,qM,hC3,hn3,haL,gw,aQp]<;>with_reducible rfl) z7 (by repeat (first|exact dI.base _|with_reducible apply dI.keep|apply dI.drop)) ?_;refine kK (k:=8) (bm:= [0,0,0,4,12,28,60,124,255]) (by kernel_rfl) rfl (by kernel_rfl) (by kernel_rfl) ?_;refine ZA (a4 hC3 hn3 haL gw) RN (SW _ ts[j] (aQj _) (j:Int) (sj.length:Int) false (sj++ [gG ms j]) H0.length (H0.length+1) H3 (by rw[haL];omega) hS3) ?_;rintro _ H4 ⟨rfl,hSk,fk⟩;refine oN ?_;show jM _ _ _ _ _ _ _ _;refine fO ?_;refine ZE (a5 y3 gl gi ge (a5 gwj gi2 ge2 hap (a5 qSb qSS nitk hC (a5 hB qB nic nit (a3 nib bic bit))))) ?_
   try simp only[aY,aT]
   refine⟨(j+1,(j:Int),_),by show ts.length- (j+1)<ts.length-j;omega,ZV,hi, ?_,hmj,hSk,f3.trans fk⟩;show(oK (j:Int) ts[j] (sj.length:Int) false (sj++ [gG ms j])).length+aX (ts.drop (j+1))+(ts.length- (j+1))<=fE;rw[haL]at hvl;omega
  ·
   have gl:decide ((j:Int)<(ts.length:Int))=false:=decide_eq_false z8;rw[List.drop_eq_nil_of_le hi,lY]at hmj;obtain⟨hC,hB,hne⟩:=id hSj;obtain⟨L9,rfl⟩:=fj.split;refine ZE (a3 y3 gl hC) ?_;refine ZF (a2 gl hC) ?_;refine wQ ?_;refine bG ?_;simp only[aY,aT,reduceIte,Nat.reduceEqDiff,aR5,if_true,if_false];refine ZE (a5 vS rS FB gl hC) ?_;refine wQ ?_;exact wT ⟨.inr rfl,_,L9,rfl,by rw[<-hmj];rfl,rfl⟩
inductive FT where
 |int|str|bool
def FT.ty(P:Program):FT->TypeId->Prop
 | .int,t=>P.underlying t=some (.int .i64)
 | .str,t=>P.underlying t=some .string
 | .bool,t=>P.underlying t=some .bool
def FT.fit:FT->PV->Bool
 | .int, .int .i64 _=>true
 | .str, .str _=>true
 | .bool, .bool _=>true
 |_,_=>false
def JQ:PV->PV->Bool
 | .int _ a, .int _ b=>decide (a=b)
 | .str a, .str b=>decide (a=b)
 | .bool a, .bool b=>decide (a=b)
 |_,_=>false
def iJ:List PV->List PV->Bool
 | [],[]=>true
 |x::xs,y::ys=>JQ x y&&iJ xs ys
 |_,_=>false
structure xZ(P:Program)(t:TypeId)(ks:List FT):Prop where
 ex:∃fs:List Field,P.underlying t=some (.struct fs.toArray)/\fs.length=ks.length/\∀(i:Nat) (h:i<fs.length) (h2:i<ks.length),fs[i].name≠ "_" /\fs[i].offset=i/\(ks[i]).ty P fs[i].type
 held:P.stoodInHeld t=false
 gu:P.eqGuardType P.depth t=false
section
variable{P:Program}{V:cQ}
theorem OE{k:FT}{t:TypeId}(h:k.ty P t)(w:World):(isAgg t).run P w= .ok false w:=by
 cases k<;>(unfold FT.ty at h;unfold isAgg;simp only[aQ1,run_underlying h,aQ2];rfl)
theorem GD{k:FT}{t:TypeId}(h:k.ty P t){xs:Array Value}{i:Nat}(hi:i<xs.size)(w:World):(part t xs i).run P w= .ok (xs.getD i undef) w:=by
 unfold part;simp only[aQ1,OE h,aQ2,aQ9,if_false,aQm,aQr hi];rfl
theorem aCc{k:FT}{t:TypeId}(h:k.ty P t){v v':Value}{p p':PV}(hv:aM V v p)(hv':aM V v' p')(hf:k.fit p=true)(hf':k.fit p'=true)(d:Nat)(w:World):
  (Op.equalIn (d+1) t v v').run P w= .ok (JQ p p') w:=by
 cases k with
 |int=>
  cases hv with
  |int k n=>
   cases hv' with
   |int k' n'=>
    have e:k= .i64:=by cases k<;>first|rfl|simp[FT.fit]at hf
    have e':k'= .i64:=by cases k'<;>first|rfl|simp[FT.fit]at hf'
    subst e;subst e';rw[run_equalIn_int w d t _ _ _ _ h];have e:(n==n')=decide (n=n'):=by rw[aRr];simp
    rw[e];rfl
   |_=>simp[FT.fit]at hf'
  |_=>simp[FT.fit]at hf
 |str=>
  cases hv with
  |str s=>
   cases hv' with
   |str s'=>
    rw[run_equalIn_string w d t _ _ h];congr 1;show(s.toList==s'.toList)=decide (s.data.toList=s'.data.toList);rw[ByteArray.toList_eq,ByteArray.toList_eq,aRr];simp
   |_=>simp[FT.fit]at hf'
  |_=>simp[FT.fit]at hf
 |bool=>
  cases hv with
  |bool b=>
   cases hv' with
   |bool b'=>
    rw[run_equalIn_bool w d t _ _ h];have e:(b==b')=decide (b=b'):=by rw[aRr];simp
    rw[e];rfl
   |_=>simp[FT.fit]at hf'
  |_=>simp[FT.fit]at hf
theorem FL{xs ys:Array Value}{ps qs:List PV}(hx:aM V (.agg xs) (.agg ps))(hy:aM V (.agg ys) (.agg qs))(d:Nat)(w:World):∀(fs:List Field) (ks:List FT) (off:Nat),fs.length=ks.length->
  (∀(i:Nat) (h:i<fs.length) (h2:i<ks.length),fs[i].name≠ "_" /\fs[i].offset=off+i/\(ks[i]).ty P fs[i].type)->ps.length=off+fs.length->qs.length=off+fs.length->
  (∀(i:Nat) (h:i<ks.length) (h1:off+i<ps.length) (h2:off+i<qs.length),(ks[i]).fit ps[off+i]=true/\(ks[i]).fit qs[off+i]=true)->
  (Op.eqFields (d+1) xs ys fs).run P w= .ok (iJ (ps.drop off) (qs.drop off)) w
 | [],ks,off,hl,_,hp,hq,_=>by
  rw[List.drop_eq_nil_of_le (by simp at hp;omega),List.drop_eq_nil_of_le (by simp at hq;omega)];rfl
 |f::fs,[],off,hl,_,_,_,_=>by simp at hl
 |f::fs,k::ks,off,hl,hF,hp,hq,hfit=>by
  have h0:=hF 0 z6 z6;simp only[List.getElem_cons_zero,Nat.add_zero]at h0;obtain⟨n0,o0,t0⟩:=h0;have lp:off<ps.length:=by simp at hp;omega
  have lq:off<qs.length:=by simp at hq;omega
  have ff:=hfit 0 z6 lp lq;simp only[List.getElem_cons_zero,Nat.add_zero]at ff;obtain⟨sx,rx⟩:xs.size=ps.length/\aM V (xs.getD off undef) ps[off]:=by cases hx with|agg _ _ a b=>exact⟨a,b off lp⟩
  obtain⟨sy,ry⟩:ys.size=qs.length/\aM V (ys.getD off undef) qs[off]:=by cases hy with|agg _ _ a b=>exact⟨a,b off lq⟩
  have ih:=FL hx hy d w fs ks (off+1) (by simpa using hl) (λi h h2=>by
   have:=hF (i+1) (by simp;omega) (by simp;omega);simp only[List.getElem_cons_succ]at this;rw[show off+1+i=off+(i+1)by omega];exact this) (by simp at hp;omega) (by simp at hq;omega) (λi h h1 h2=>by
   have:=hfit (i+1) (by simp;omega) z8 z8;simp only[List.getElem_cons_succ]at this;have e:off+1+i=off+(i+1):=z8
   simp only[e];exact this)
  rw[aR6 lp,aR6 lq];simp only[Op.eqFields,if_pos n0,aQ1,o0,GD t0 (show off<xs.size by omega),GD t0 (show off<ys.size by omega),aQ2,aCc t0 rx ry ff.1 ff.2,Sem.run_ite,aQ4,ih,iJ];cases JQ ps[off] qs[off]<;>simp
theorem CT{t:TypeId}{ks:List FT}(F:xZ P t ks){xs ys:Array Value}{ps qs:List PV}(hx:aM V (.agg xs) (.agg ps))(hy:aM V (.agg ys) (.agg qs))(hp:ps.length=ks.length)(hq:qs.length=ks.length)
  (fp:∀(i:Nat) (h:i<ks.length) (h1:i<ps.length) (h2:i<qs.length),(ks[i]).fit ps[i]=true/\(ks[i]).fit qs[i]=true) (w:World):(Op.equal t (.agg xs) (.agg ys)).run P w= .ok (iJ ps qs) w:=by
 obtain⟨fs,ut,hl,hF⟩:=F.ex;have hf:P.fieldsOf t=fs.toArray:=by unfold Program.fieldsOf;rw[ut]
 show(Op.equalIn (9999+1) t _ _).run P w=_;rw[run_equalIn_struct w 9999 t _ _ (by rw[hf];exact ut) F.held,hf];have:=FL (P:=P) hx hy 9998 w fs ks 0 hl (λi h h2=>by rw[aRe];exact hF i h h2) z8 z8 (λi h h1 h2=>by simp only[aRe];exact fp i h z8 z8);simpa using this
def sZ:List FT->List PV->Bool
 | [],[]=>true
 |k::ks,p::ps=>k.fit p&&sZ ks ps
 |_,_=>false
theorem mQ:∀ {ks:List FT} {ps:List PV},sZ ks ps=true->ps.length=ks.length
 | [],[],_=>rfl
 | [],_::_,h=>by cases h
 |_::_,[],h=>by cases h
 |k::ks,p::ps,h=>by simp only[sZ,aQd]at h;simp[mQ h.2]
theorem oV:∀ {ks:List FT} {ps:List PV},sZ ks ps=true->∀(i:Nat) (h:i<ks.length) (h1:i<ps.length),(ks[i]).fit ps[i]=true
 | [],_,_=>λi h=>by simp at h
 |_::_,[],h=>by cases h
 |k::ks,p::ps,h=>λi h1 h2=>by
  simp only[sZ,aQd]at h;cases i with
  |zero=>exact h.1
  |succ i=>exact oV h.2 i (by simpa using h1) (by simpa using h2)
theorem wY{N nb:Nat}{ops:Array Oper}{Q:dG}{o:Oper}{l:List Oper}{T:aD}{G:Nat->Bool}{H:aC}{t y':TypeId}{x y:Operand}{ks:List FT}{ps qs:List PV}(F:xZ P t ks)
  (hop:o.op= .binOp .eql t x y y') (hx:bO T x= .agg ps) (hy:bO T y= .agg qs) (fx:sZ ks ps=true) (fy:sZ ks qs=true) (hc:eK ops.toList T G N o=some true) (hg:o.op.operands.toList.all (AU true G)=true) (okx:aQ N x=true) (oky:aQ N y=true)
  (h:bB P N nb ops Q l (fP (.tup []) (bT T o.dst (.bool (iJ ps qs))) (xS G o.dst true)) H):bB P N nb ops Q (o::l) (fP (.tup []) T G) H:=by
 refine VQ hc hg (λE A ho he=> ?_) h;have rx:=he x (by rw[hop];simp[Op.operands]) okx;have ry:=he y (by rw[hop];simp[Op.operands]) oky;rw[hx]at rx;rw[hy]at ry;generalize hvx:A.eval x=vx at rx;generalize hvy:A.eval y=vy at ry;cases rx with
 |agg xs _ a1 a2=>
  cases ry with
  |agg ys _ b1 b2=>
   have g:∀w,(eqGuard .eql t x y (.agg xs) (.agg ys)).run P w= .ok () w:=λw=>by
    unfold eqGuard;simp only[aQ1,run_program,aQ2,F.gu,aRm,if_true,Sem.run_ite,aQ4]
    split<;>rfl
   refine⟨.bool (iJ ps qs), ?_, .bool _⟩;unfold execOp;rw[hop];simp only[aQ1,hvx,hvy,g,aQ2,binOp,CT F (.agg xs _ a1 a2) (.agg ys _ b1 b2) (mQ fx) (mQ fy) (λi h h1 h2=>⟨oV fx i h h1,oV fy i h h2⟩),aQ4]
end
section
variable{P:Program}{N nb:Nat}{ops:Array Oper}{Q:dG}
theorem aM.retokP{V:cQ}{b off n m:Nat}{es:List PV}{id:Nat}(h:aM V (.slice (some ⟨b,off,none⟩) n m) (.slice es .full))(hb:V.born id)(ht:∀t,V.tok id=some t->es.length<=t.n):aM V (.slice (some ⟨b,off,none⟩) n m) (.slice es (.tok id)):=by
 cases h with
 |slice a len cap sz _ _ vs hlen hcap hmax hsz hc hr h0=>
  subst hlen;exact .slice _ _ _ _ _ _ vs rfl hcap hmax hsz hc hr ⟨hb,λt e=>⟨ht t e,λ_=>.inl ⟨h0,λ_=>⟨b,off,rfl⟩⟩⟩⟩
theorem EK{E:aE}{a:Act}{T:aD}(ht:eU E.view N a T)(ho:E.Ok){t:TypeId}{n:Nat}{ps:Array (Nat×Operand)}(hok:ps.toList.all (λx=>aQ N x.2)=true){ei:TypeId×TI}(hf:cN P t=some ei){z:PV}(hz:cF P ei.1=some z)
  (hfit:z.fits ei.2=true) (hs0:0<ei.2.sz) (hsz:n*ei.2.sz<=2^24) {es:List PV} (hb:eN ei.2 T (aQ3 n z) ps.toList=some es):
  ∃E' val,(Instr.buildSlice t n (ps.map λ(i,x)=>(i,a.eval x))).run P E.w= .ok val E'.w/\E.le E'/\E'.Ok/\E'.H=E.H++ [.buf es.length ei.2.sz]/\aM E'.view val (.slice es (.tok E.H.length)):=by
 obtain⟨e,i⟩:=ei;obtain⟨h1,h2⟩:=cX hf;obtain⟨d,f,h3,h4,rfl⟩:=bQ h2;obtain⟨f',v,h5,h6,rfl⟩:=eI hz;simp only at hfit hs0 hsz hb h5;rw[h4]at h5;cases h5;obtain⟨hc1,hc2⟩:=PV.fits_spec hfit;simp only at hc1;obtain⟨c1,c2⟩:=(dA E.view v).not_junk_cells hc2;have hvs:v.cells.size=f.size:=c1.trans hc1;have hrl:=nT (V:=E.view) v hc2 n;have hes:∀e∈aQ3 n (aU v),e.cells.length=f.size:=by
  intro e he;rw[(List.mem_replicate.1 he).2,hc1]
 obtain⟨arr',e1,e2,e3,e4⟩:=mX ht ⟨uN d,f.size,f.bytes⟩ ps.toList _ _ es hrl hes hok hb;rw[List.length_replicate]at e4;have hle:=aE.newFixed_le ho (.cells arr' e);have ho1:(E.newFixed (.cells arr' e)).Ok:=ho.newFixed _;have hH1:(E.newFixed (.cells arr' e)).H=E.H:=rfl;have hv1:aM (E.newFixed (.cells arr' e)).view (.slice (some ⟨E.w.heap.size,0,none⟩) n n) (.slice es .full):=by
  refine mE (sz:=f.size) qV e3 (e2.mono hle.view) e4 ?_;have:n<=n*f.size:=Nat.le_mul_of_pos_right _ hs0;unfold maxLen;omega
 have hun:(E.newFixed (.cells arr' e)).ext.H[E.H.length]? =some .unborn:=by simp[aE.ext,hH1]
 have hle2:=(E.newFixed (.cells arr' e)).ext_le.trans (aE.retok_le (n:=es.length) (sz:=f.size) hun);have hH2:((E.newFixed (.cells arr' e)).ext.retok E.H.length es.length f.size).H=E.H++ [.buf es.length f.size]:=by
  simp only[aE.retok,aE.ext,hH1];rw[aRu _ _ (aQj _)];simp
 refine⟨(E.newFixed (.cells arr' e)).ext.retok E.H.length es.length f.size, .slice (some ⟨E.w.heap.size,0,none⟩) n n, ?_,hle.trans hle2,aE.Ok.retok ho1.ext hun,hH2,aM.retokP (hv1.mono hle2.view) ⟨.buf es.length f.size,by rw[hH2];simp,z6⟩ (λt e=> ?_)⟩
 ·simp only[Instr.buildSlice,aQ1,aS h1,dC h4,aQ2];have hlt:¬n*f.size>2^24:=z8
  simp only[hlt,if_false,aQ4,aQ2,Sem.run_ite,aQ1]
  by_cases hn:n*f.size=0
  ·have hn0:n=0:=by
    rcases Nat.mul_eq_zero.1 hn with h|h; · exact h
    ·omega
   subst hn0;simp only[Nat.zero_mul,if_true,aQ2];simp only[Nat.zero_mul]at e1;have e0:Array.map (λx=>v.cells[x%v.cells.size]!) (Array.range 0)=Array.map (λx=>(#[]:Array Value)[x%(#[]:Array Value).size]!) (Array.range 0):=z6
   rw[e0]at e1;rw[Array.toList_map];simp only[e1,newRow,aQ1,run_newObj,aQ2,aQ4];rfl
  ·simp only[if_neg hn,hO h4 h6,aQ2,aQ1,aQ4];rw[Array.toList_map];rw[hvs]at e1;simp only[hvs,e1,newRow,aQ1,run_newObj,aQ2,aQ4];rfl
 ·simp only[aE.view,hH2,aQu (aQj _),Nat.sub_self,aRl,Option.some.injEq]at e;subst e;exact aQj _
theorem LI{o:Oper}{l:List Oper}{T:aD}{H:aC}{t:TypeId}{n:Nat}{ps:Array (Nat×Operand)}{ei:TypeId×TI}{z:PV}{es:List PV}(hw:aV ops.toList T N o=some true)
  (hop:o.op= .buildSlice t n ps) (hok:ps.toList.all (λx=>aQ N x.2)=true) (hf:cN P t=some ei) (hz:cF P ei.1=some z)
  (hfit:z.fits ei.2=true) (hs0:0<ei.2.sz) (hsz:n*ei.2.sz<=2^24) (hb:eN ei.2 T (aQ3 n z) ps.toList=some es)
  (h:bB P N nb ops Q l (bT T o.dst (.slice es (.tok H.length))) (H++ [.buf es.length ei.2.sz])):bB P N nb ops Q (o::l) T H:=by
 refine fA hw (λE a ho hE htr=> ?_) h;subst hE;obtain⟨E',val,h1,h2,h3,h4,h5⟩:=EK htr ho hok hf hz hfit hs0 hsz hb;refine⟨E',val, .inl ?_,h2,h3,h4,h5⟩;unfold execOp;rw[hop];simp only[aQ1,h1,aQ2,aQ4]
end
theorem NU{P:Program}{N:Nat}{ops:Array Oper}{Q:dG}{k:Nat}{o:Oper}{l:List Oper}{T:aD}{G:Nat->Bool}{H:aC}{t y':TypeId}{x y:Operand}{ks:List FT}{ps qs:List PV}(F:xZ P t ks)
  (hop:o.op= .binOp .neq t x y y') (hx:bO T x= .agg ps) (hy:bO T y= .agg qs) (fx:sZ ks ps=true) (fy:sZ ks qs=true) (hc:eK ops.toList T G N o=some true) (hg:o.op.operands.toList.all (AU true G)=true) (okx:aQ N x=true) (oky:aQ N y=true)
  (h:DP P N ops Q (k+1) l (fP (.tup []) (bT T o.dst (.bool (!iJ ps qs))) (xS G o.dst true)) H):DP P N ops Q k (o::l) (fP (.tup []) T G) H:=by
 refine vZ hc hg (λE A ho he=> ?_) h;have rx:=he x (by rw[hop];simp[Op.operands]) okx;have ry:=he y (by rw[hop];simp[Op.operands]) oky;rw[hx]at rx;rw[hy]at ry;generalize hvx:A.eval x=vx at rx;generalize hvy:A.eval y=vy at ry;cases rx with
 |agg xs _ a1 a2=>
  cases ry with
  |agg ys _ b1 b2=>
   have g:∀w,(eqGuard .neq t x y (.agg xs) (.agg ys)).run P w= .ok () w:=λw=>by
    unfold eqGuard;simp only[aQ1,run_program,aQ2,F.gu,aRm,if_true,Sem.run_ite,aQ4]
    split<;>rfl
   refine⟨.bool (!iJ ps qs), ?_, .bool _⟩;unfold execOp;rw[hop];simp only[aQ1,hvx,hvy,g,aQ2,binOp,CT F (.agg xs _ a1 a2) (.agg ys _ b1 b2) (mQ fx) (mQ fy) (λi h h1 h2=>⟨oV fx i h h1,oV fy i h h2⟩),aQ4]
set_option maxRecDepth 4000
theorem aD0(H:aC)(id:Nat)(ns:List Nd)(hid:H[id]? =some .unborn)(hx:ns.length*80<=2^47):aL Tryz.prog 71 [.slice (ns.map Nd.enc) .none] H λr' H'=>r'= .slice (ns.map Nd.enc) (.tok id)/\H'=H.set id (.buf ns.length 7):=by
 have em:maxLen=9223372036854775807:=z7
 have happ:ns.map Nd.enc≠ []->∀fr HH,eH ⟨true,7,80⟩ fr HH (.slice [] .full) (.slice (ns.map Nd.enc) .none)=some (.slice (ns.map Nd.enc) (.tok fr),some (fr, .buf ns.length 7)):=λhne fr HH=>by
  have:=zO (i:=⟨true,7,80⟩) (fresh:=fr) (H:=HH) (tl:=.none) hne (by simpa using hx) (by simp;omega) (λe he=>by obtain⟨v,_,rfl⟩:=aRn.1 he;exact⟨v.enc_len,by rw[Nd.enc_cells];rfl⟩) z7;simpa using this
 refine aF (N:=5) Tryz.func71 rfl rfl z6 λhb'=> ?_;refine jU ?_;rcases Classical.em (ns= [])with hxs|hxs
 ·
  subst hxs;refine wQ ?_;refine eE (by simp only[kA,seval,tT,cW,aA,bM,bN,qS,List.map_nil,eH]<;>with_reducible rfl) z7 ?_;refine wQ ?_;refine BR id 2 7 (es:= []) hid (Zcy tN) ?_;refine wT ⟨.inr rfl,_,rfl, ?_⟩;exact⟨rfl,rfl⟩
 ·
  have ha:=happ (by simpa using hxs);refine ZT 1 ha ?_;refine KG false id hid rfl z7 (v:=.slice (ns.map Nd.enc) (.tok id)) (e:=some (id, .buf ns.length 7)) (by simp only[jN,seval,aA,bM,bN,qS,ha,eW,dO,aFk,vD,FQ]<;>rfl) rfl ?_;refine ZX ha ?_;refine wQ ?_;refine wT ⟨.inr rfl,_,rfl, ?_⟩;exact⟨rfl,rfl⟩
theorem aD4(H:aC)(id:Nat)(ns:List Int)(hid:H[id]? =some .unborn)(hx:ns.length*8<=2^47):aL Tryz.prog 72 [.slice (ns.map aA) .none] H λr' H'=>r'= .slice (ns.map aA) (.tok id)/\H'=H.set id (.buf ns.length 1):=by
 have em:maxLen=9223372036854775807:=z7
 have happ:ns.map aA≠ []->∀fr HH,eH ⟨false,1,8⟩ fr HH (.slice [] .full) (.slice (ns.map aA) .none)=some (.slice (ns.map aA) (.tok fr),some (fr, .buf ns.length 1)):=λhne fr HH=>by
  have:=zO (i:=⟨false,1,8⟩) (fresh:=fr) (H:=HH) (tl:=.none) hne (by simpa using hx) (by simp;omega) (λe he=>by obtain⟨v,_,rfl⟩:=aRn.1 he;exact⟨rfl,rfl⟩) z7;simpa using this
 refine aF (N:=5) Tryz.func72 rfl rfl z6 λhb'=> ?_;refine jU ?_;rcases Classical.em (ns= [])with hxs|hxs
 ·
  subst hxs;refine wQ ?_;refine eE (by simp only[kA,seval,y3,y48,aA,bM,bN,qS,List.map_nil,eH]<;>with_reducible rfl) z7 ?_;refine wQ ?_;refine BR id 2 1 (es:= []) hid (Zcy tN) ?_;refine wT ⟨.inr rfl,_,rfl, ?_⟩;exact⟨rfl,rfl⟩
 ·
  have ha:=happ (by simpa using hxs);refine ZT 1 ha ?_;refine KG false id hid rfl z7 (v:=.slice (ns.map aA) (.tok id)) (e:=some (id, .buf ns.length 1)) (by simp only[jN,seval,aA,bM,bN,qS,ha,eW,dO,aFc,aFg,aNi]<;>rfl) rfl ?_;refine ZX ha ?_;refine wQ ?_;refine wT ⟨.inr rfl,_,rfl, ?_⟩;exact⟨rfl,rfl⟩
theorem YI(k:Int):PC Tryz.prog 43 [aA k] (.bool (uB k)):=by
 refine fI (N:=9) Tryz.func43 rfl rfl z6 (by simp[Nd.bel,At.bel,iI,kI,jQ,iF,dR,bW.int,bW.str,bW.bool]) (.bool _) ?_;refine jU ?_;refine VF y3 ?_;refine wQ ?_;refine wT ⟨.inr rfl,_,rfl, ?_⟩
 first|rfl| (unfold uB;cases decide (k>=2)<;>rfl)
theorem pW(n:Nd):PC Tryz.prog 20 [n.enc] (aA (pN n)):=by
 refine fI (N:=10) Tryz.func20 rfl rfl z6 (by simp[Nd.bel,At.bel,iI,kI,jQ,iF,dR,bW.int,bW.str,bW.bool]) (.int _ _) ?_;refine ZE cW ?_;refine ZE (a2 y3 cW) ?_;refine xA (λbt5=> ?_) (λbt5=> ?_)
 ·
  have hx:pN n=n.st:=by unfold pN;rw[if_pos bt5]
  refine ZE (a2 y3 cW) ?_;refine wQ ?_;refine wT ⟨.inr rfl,_,rfl, ?_⟩;rw[hx];rfl
 ·
  have hx:pN n=n.ns:=by unfold pN;rw[if_neg (by rw[bt5];simp)]
  refine qK ?_;refine ZE (a2 y3 cW) ?_;refine wQ ?_;refine wT ⟨.inr rfl,_,rfl, ?_⟩;rw[hx];rfl
def uD(m st:Int)(s:Sy):Bool:=decide (s.mod=m)&&decide (s.st=st)
theorem SO(ss:List Sy)(m st:Int)(hx:ss.length<=maxLen):PC Tryz.prog 17 [.slice (ss.map Sy.enc) .none,aA m,aA st] (aA (mF (uD m st) ss)):=by
 refine fI (N:=28) Tryz.func17 rfl rfl z6 (by simp[Nd.bel,At.bel,iI,kI,jQ,iF,dR,bW.int,bW.str,bW.bool]) (.int _ _) ?_;refine jU ?_;refine ZE (a2 vS rS) ?_;refine wQ ?_;refine dS (σ:=Unit) (ss.length) (λ(s:Unit)=> [(9, .slice (ss.map Sy.enc) .none),(1,aA m),(2,aA st)]) [9,1,2] ([]) (λ(s:Unit)=> []) (λ(i:Nat) (s:Unit)=>(ss.take i).any (uD m st)=false) (()) ([]) rfl rfl rfl rfl rfl rfl rfl rfl rfl z7 z7 z7 (λ_=>rfl) (hx) (Zt tN) (Zf tN) z6 (λ_ _ _=>by first|exact aRk _| (simp only[aRf];omega)) ?_ ?_ ?_
 ·exact λi s hg=>⟨by first|exact eP _| (simp only[aR0];assumption)| (refine fB hb' z6 ?_;exact ZH),ZR⟩
 ·intro i s hi hg;have g1:=bA hi;have g2:=bS Sy.enc hi;refine ZE (a4 vS rS g1 g2) ?_;refine VF (a4 y3 rS g1 g2) ?_;refine ZI (a2 g1 g2) (λbt25=> ?_) (λbt25=> ?_)
  ·
   have h17:uD m st ss[i]=true:=by first|exact bt25| (unfold uD;simpa using bt25)
   refine ZL [1,2,7,9,10,11] (a2 g1 g2) ?_;refine ZE (a2 g1 g2) ?_;refine wQ ?_;refine wT ⟨.inr rfl,_,rfl, ?_⟩;rw[pP hi h17 hg];rfl
  ·
   have h17:uD m st ss[i]=false:=by first|exact bt25| (unfold uD;revert bt25;cases decide (ss[i].mod=m)<;>simp)
   refine qK ?_;exact⟨ZV,(),_,ZV,rfl,eD hi hg h17⟩
 ·intro s hg;rw[aR7]at hg;refine jU ?_;refine wQ ?_;refine wT ⟨.inr rfl,_,rfl, ?_⟩;rw[mM hg];rfl
set_option maxRecDepth 4000
def dN:Nd:=⟨0,0,[],0,0,0,[]⟩
def aA2(ps:List Nd):Int:=(ps.getD (ps.length-1) dN).kind
def MO(ps:List Nd):Int:=(ps.getD (ps.length-2) dN).kind
def UC(k:Int):Bool:=decide (k=9)||decide (k=38)
def jV(n:Nd)(ps:List Nd):Int:=
 if decide (n.kind=7)=true then 6 else if decide (n.ns<0)=true then 0
 else if decide (n.kind=3)=true then 2 else if decide (n.kind=4)=true then 3 else if decide (n.kind=5)=true then 4 else if decide (n.kind=6)=true then 5
 else if decide (n.kind=8)=true then 7 else if decide (n.kind=9)=true then 8 else if decide (n.kind=11)=true then 9 else if decide (n.kind=14)=true then 11
 else if decide (n.kind=15)=true then 12 else if decide (n.kind=16)=true then 13 else if decide (n.kind=44)=true then 14
 else if decide (n.kind=13)=true then(if UC (MO ps)=true then 14 else 10)else 0
mutual
def iE:Nd->List Nd->List Int->List At
 | .mk k v t s e n us,ps,pa=>⟨.mk k v t s e n us,ps,pa⟩::iP us (ps++ [.mk k v t s e n us]) pa 0
def iP:List Nd->List Nd->List Int->Nat->List At
 | [],_,_,_=> []
 |u::us,ps,pa,i=>iE u ps (pa++ [(i:Int)])++iP us ps pa (i+1)
end
theorem IA(n:Nd)(ps:List Nd)(pa:List Int):iE n ps pa=⟨n,ps,pa⟩::iP n.kids (ps++ [n]) pa 0:=by cases n;rw[iE];rfl
mutual
theorem xW:∀(n:Nd) (ps:List Nd) (pa:List Int),(iE n ps pa).length=n.size
 | .mk k v t s e n us,ps,pa=>by rw[iE,aQ0,yQ us,Nd.size];omega
theorem yQ:∀(us:List Nd) (ps:List Nd) (pa:List Int) (i:Nat),(iP us ps pa i).length=aX us
 | [],_,_,_=>rfl
 |u::us,ps,pa,i=>by rw[iP,aRf,xW u,yQ us,aX]
end
theorem vY(n:Nd)(ps:List Nd)(pa:List Int)(h13:n.kind=13->2<=ps.length)(hl:ps.length<=1000000):PC Tryz.prog 19 [(At.mk n ps pa).enc] (aA (jV n ps)):=by
 unfold jV;refine fI (N:=54) Tryz.func19 rfl rfl z6 (by simp[Nd.bel,At.bel,iI,kI,jQ,iF,dR,bW.int,bW.str,bW.bool]) (.int _ _) ?_;refine ZE AI ?_;refine ZE (a2 cW AI) ?_;refine ZE (a2 y3 cW) ?_;refine xA (λbt9=> ?_) (λbt9=> ?_)
 ·
  rw[if_pos bt9];refine jU ?_;refine wQ ?_;refine wT ⟨.inr rfl,_,rfl, ?_⟩;rfl
 ·
  rw[if_neg (by rw[bt9];simp)];refine qK ?_;refine ZE (a2 y3 cW) ?_;refine xA (λbt12=> ?_) (λbt12=> ?_)
  ·
   rw[if_pos bt12];refine jU ?_;refine wQ ?_;refine wT ⟨.inr rfl,_,rfl, ?_⟩;rfl
  ·
   rw[if_neg (by rw[bt12];simp)];refine qK ?_;refine ZE (a2 y3 cW) ?_;refine qB ?_;refine ZE y3 ?_;refine xA (λbt15=> ?_) (λbt15=> ?_)
   ·
    rw[if_pos bt15];refine WG [] ?_;refine jU ?_;refine wQ ?_;refine wT ⟨.inr rfl,_,rfl, ?_⟩;rfl
   ·
    rw[if_neg (by rw[bt15];simp)];refine WG [1,14] ?_;refine ZE y3 ?_;refine xA (λbt17=> ?_) (λbt17=> ?_)
    ·
     rw[if_pos bt17];refine jU ?_;refine wQ ?_;refine wT ⟨.inr rfl,_,rfl, ?_⟩;rfl
    ·
     rw[if_neg (by rw[bt17];simp)];refine ZE y3 ?_;refine xA (λbt19=> ?_) (λbt19=> ?_)
     ·
      rw[if_pos bt19];refine jU ?_;refine wQ ?_;refine wT ⟨.inr rfl,_,rfl, ?_⟩;rfl
     ·
      rw[if_neg (by rw[bt19];simp)];refine ZE y3 ?_;refine xA (λbt21=> ?_) (λbt21=> ?_)
      ·
       rw[if_pos bt21];refine jU ?_;refine wQ ?_;refine wT ⟨.inr rfl,_,rfl, ?_⟩;rfl
      ·
       rw[if_neg (by rw[bt21];simp)];refine ZE y3 ?_;refine xA (λbt23=> ?_) (λbt23=> ?_)
       ·
        rw[if_pos bt23];refine jU ?_;refine wQ ?_;refine wT ⟨.inr rfl,_,rfl, ?_⟩;rfl
       ·
        rw[if_neg (by rw[bt23];simp)];refine ZE y3 ?_;refine xA (λbt25=> ?_) (λbt25=> ?_)
        ·
         rw[if_pos bt25];refine jU ?_;refine wQ ?_;refine wT ⟨.inr rfl,_,rfl, ?_⟩;rfl
        ·
         rw[if_neg (by rw[bt25];simp)];refine ZE y3 ?_;refine xA (λbt27=> ?_) (λbt27=> ?_)
         ·
          rw[if_pos bt27];refine jU ?_;refine wQ ?_;refine wT ⟨.inr rfl,_,rfl, ?_⟩;rfl
         ·
          rw[if_neg (by rw[bt27];simp)];refine ZE y3 ?_;refine xA (λbt29=> ?_) (λbt29=> ?_)
          ·
           rw[if_pos bt29];refine jU ?_;refine wQ ?_;refine wT ⟨.inr rfl,_,rfl, ?_⟩;rfl
          ·
           rw[if_neg (by rw[bt29];simp)];refine ZE y3 ?_;refine xA (λbt31=> ?_) (λbt31=> ?_)
           ·
            rw[if_pos bt31];refine WG [] ?_;refine jU ?_;refine wQ ?_;refine wT ⟨.inr rfl,_,rfl, ?_⟩;rfl
           ·
            rw[if_neg (by rw[bt31];simp)];refine WG [1,14] ?_;refine ZE y3 ?_;refine xA (λbt33=> ?_) (λbt33=> ?_)
            ·
             rw[if_pos bt33];refine jU ?_;refine wQ ?_;refine wT ⟨.inr rfl,_,rfl, ?_⟩;rfl
            ·
             rw[if_neg (by rw[bt33];simp)];refine ZE y3 ?_;refine xA (λbt35=> ?_) (λbt35=> ?_)
             ·
              rw[if_pos bt35];refine jU ?_;refine wQ ?_;refine wT ⟨.inr rfl,_,rfl, ?_⟩;rfl
             ·
              rw[if_neg (by rw[bt35];simp)];refine ZE y3 ?_;refine xA (λbt37=> ?_) (λbt37=> ?_)
              ·
               rw[if_pos bt37];have hk:=h13 (by simpa using bt37);have hi:ps.length-2<ps.length:=z8
               have w2:IntKind.i64.wrap ((ps.length:Int) -2)=((ps.length-2:Nat):Int):=by rw[aZ z8 z8];omega
               have gi:=bA hi;have ge:=bS Nd.enc hi;have ho:MO ps=ps[ps.length-2].kind:=by unfold MO;rw[aRb,aRa hi];rfl
               rw[ho];refine ZE (a5 y3 tT cW AI (a3 w2 gi ge)) ?_;refine WG [4] ?_;refine VF y3 ?_;refine xA (λbt53=> ?_) (λbt53=> ?_)
               ·
                have hm:UC ps[ps.length-2].kind=true:=by first|exact bt53| (unfold UC;simpa using bt53)
                rw[if_pos hm];refine jU ?_;refine wQ ?_;refine wT ⟨.inr rfl,_,rfl, ?_⟩;rfl
               ·
                have hm:UC ps[ps.length-2].kind=false:=by first|exact bt53| (unfold UC;simpa using bt53)
                rw[if_neg (by rw[hm];simp)];refine qK ?_;refine jU ?_;refine wQ ?_;refine wT ⟨.inr rfl,_,rfl, ?_⟩;rfl
              ·
               rw[if_neg (by rw[bt37];simp)];refine qK ?_;refine jU ?_;refine wQ ?_;refine wT ⟨.inr rfl,_,rfl, ?_⟩;rfl
set_option maxRecDepth 4000
theorem UF{i:TI}{fr:Nat}{H:aC}{es xs:List PV}{id:Nat}{tl:iQ}(hH:H[id]? =some (.buf es.length i.sz))(hne:xs≠ [])(hb:(es.length+xs.length)*i.bytes<=2^47)(hm:es.length+xs.length<=maxLen)
  (he:∀e∈es,e.cells.length=i.sz) (hx:∀e∈xs,e.cells.length=i.sz/\e.cells.all PV.isCell=true) (hs:0<i.sz):
  eH i fr H (.slice es (.tok id)) (.slice xs tl)=some (.slice (es++xs) (.tok id),some (id, .buf (es.length+xs.length) i.sz)):=by
 unfold eH;simp only[if_neg hne];rw[if_pos ⟨hb,hm,he,hx,hs⟩];simp only[hH,and_self,if_true]
theorem aC5{us vs:List At}{id:Nat}{tl:iQ}(hne:vs≠ [])(hb:(us.length+vs.length)*128<=2^47)(fresh:Nat)(H:aC)(hH:H[id]? =some (.buf us.length 9)):
  eH ⟨true,9,128⟩ fresh H (.slice (us.map At.enc) (.tok id)) (.slice (vs.map At.enc) tl)=some (.slice ((us++vs).map At.enc) (.tok id),some (id, .buf (us.length+vs.length) 9)):=by
 have em:maxLen=9223372036854775807:=z7
 have:=UF (i:=⟨true,9,128⟩) (fr:=fresh) (H:=H) (es:=us.map At.enc) (xs:=vs.map At.enc) (id:=id) (tl:=tl) (by simpa using hH) (by simpa using hne) (by simpa using hb) (by simp;omega) (λe he=>by obtain⟨v,_,rfl⟩:=aRn.1 he;exact v.enc_len)
  (λe he=>by obtain⟨v,_,rfl⟩:=aRn.1 he;exact⟨v.enc_len,by rw[At.enc_cells];rfl⟩) z7
 simpa using this
theorem HG:∀(us vs:List Nd) (ps:List Nd) (pa:List Int) (i:Nat),iP (us++vs) ps pa i=iP us ps pa i++iP vs ps pa (i+us.length)
 | [],vs,ps,pa,i=>by simp[iP]
 |u::us,vs,ps,pa,i=>by simp only[aQf,iP,HG us vs ps pa (i+1),aQ0,aR4];rw[show i+1+us.length=i+(us.length+1)by omega]
theorem OL{us:List Nd}{i:Nat}(hi:i<us.length)(ps:List Nd)(pa:List Int):iP (us.take (i+1)) ps pa 0=iP (us.take i) ps pa 0++iE us[i] ps (pa++ [(i:Int)]):=by
 rw[List.take_succ_eq_append_getElem hi,HG];have e:(us.take i).length=i:=by rw[aQ6];omega
 simp only[e,iP,aR0,aRe]
theorem xX:∀(us:List Nd) (i:Nat),aX (us.take i)<=aX us
 | [],i=>z6
 |u::us,0=>by simp[aX]
 |u::us,i+1=>by rw[List.take_succ_cons,aX,aX];have:=xX us i;omega
theorem BP:∀(k:Nat) (n:Nd) (ps:List Nd) (pa:List Int),n.size<=k->ps.length+n.size<=1000000->pa.length+n.size<=1000000->PC Tryz.prog 46 [(At.mk n ps pa).enc] (.slice ((iE n ps pa).map At.enc) .none)
 |0,n,ps,pa,h,_,_=>by cases n;simp[Nd.size]at h
 |k+1,n,ps,pa,h,hp,ha=>by
  have hks:n.size=1+aX n.kids:=by cases n;simp only[Nd.size,Nd.kids]
  have hkl:=iU n.kids;have hmx:maxLen=9223372036854775807:=z7
  refine fI (N:=37) Tryz.func46 rfl rfl z6 (by simp[Nd.bel,At.bel,iI,kI,jQ,iF,dR,bW.int,bW.str,bW.bool]) (kI _ _) ?_;refine ZE AI ?_;refine ZT 1 AI ?_;refine LI (es:= [(At.mk n ps pa).enc]) (oH tN) rfl z7 aEx aF0 (by kernel_rfl) z7 z7 (by simp only[kC,seval,aA,bM,bN,qS,eN.eq_1,eN.eq_2,aQ3]<;>rfl) ?_;refine VT ?_;refine ZE (a3 tT cW AI) ?_;refine wQ ?_;refine dS (σ:=List At) (n.kids.length) (λ(q:List At)=> [(1, .optr 0 0),(3, .slice (q.map At.enc) (.tok 1)),(10, .slice (n.kids.map Nd.enc) .none)]) [1,3,10] ([]) (λ(q:List At)=> [.row [.int .i64 n.kind, .int .i64 n.value, .str n.text, .int .i64 n.st, .int .i64 n.en, .int .i64 n.ns, .slice (n.kids.map Nd.enc) .none, .slice (ps.map Nd.enc) .none, .slice (pa.map aA) .none], .buf q.length 9]) (λ(i:Nat) (q:List At)=>q=⟨n,ps,pa⟩::iP (n.kids.take i) (ps++ [n]) pa 0) ([⟨n,ps,pa⟩]) (_) rfl rfl rfl rfl rfl rfl rfl rfl rfl z7 z7 z7 (λ_=>rfl) (z8) (Zt tN) (Zf tN) (by simp[iP]) (λ_ _ _=>by first|exact aRk _| (simp only[aRf];omega)) ?_ ?_ ?_
  ·intro i q hg;refine⟨?_,ZR⟩;simp only[aRy];exact ZH
  ·intro i q hi hg;have g1:=bA hi;have g2:=bS Nd.enc hi;have hmem:n.kids[i]∈n.kids:=aRh hi;have hsa:=kL hmem;have htk:=OL hi (ps++ [n]) pa;have hql:q.length=1+aX (n.kids.take i):=by rw[hg,aQ0,yQ];omega
   have hst:=xX n.kids i;have hkl:=iU n.kids;have hpl:=xW n.kids[i] (ps++ [n]) (pa++ [(i:Int)]);have hne:iE n.kids[i] (ps++ [n]) (pa++ [(i:Int)])≠ []:=by rw[IA];exact List.cons_ne_nil _ _
   obtain⟨u,hu⟩:∃u,u=n.kids[i]:=⟨_,rfl⟩;rw[<-hu]at g2 hmem hsa htk hpl hne;have ih:=BP k u (ps++ [n]) (pa++ [(i:Int)]) z8 (by simp;omega) (by simp;omega);have ha1:=aIn (us:=ps) (u:=n) (id:=3) (tl:=.full) z8;have ha2:=aDq (us:=pa) (u:=(i:Int)) (id:=4) (tl:=.full) z8;have ha3:=λtl=>aC5 (us:=q) (vs:=iE u (ps++ [n]) (pa++ [(i:Int)])) (id:=1) (tl:=tl) hne (by rw[hpl];omega);have hwz:IntKind.i64.wrap (i:Int)=(i:Int):=aZ z8 z8;refine ZE (a4 tT cW g1 g2) ?_;refine wQ ?_;refine iK 2 (by kernel_rfl) ?_;refine iY (bm:= [0,0,0,4,12,0,32,96,252,0,512,2044,0,4096,16380,32766,65534,131071,262143]) 4 (fresh:=(5)) (by kernel_rfl) (Zd (a5 tT cW AI g1 (a4 g2 ha1 ha2 ha3))) z7 z7 ?_;refine IJ (bm:= [0,0,0,4,12,0,32,96,252,0,512,2044,0,4096,16380,32766,65534,131071,262143]) [3] 3 (.buf ps.length 7) (by kernel_rfl) (Zc (a5 g1 g2 ha1 ha2 ha3)) (oH (a5 g1 g2 ha1 ha2 ha3)) z7 aNh (λH' hH=>aD0 H' 3 ps (hH 3 z6) z8) z6 (Zdr (a5 g1 g2 ha1 ha2 ha3)) ?_;refine iY (bm:= [0,0,0,4,12,0,32,96,252,0,512,2044,0,4096,16380,32766,65534,131071,262143]) 6 (fresh:=(5)) (by kernel_rfl) (Zd (a5 y3 tT cW y48 (a5 AI g1 g2 ha1 (a2 ha2 ha3)))) z7 z7 ?_;refine IJ (bm:= [0,0,0,4,12,0,32,96,252,0,512,2044,0,4096,16380,32766,65534,131071,262143]) [4] 4 (.buf pa.length 1) (by kernel_rfl) (Zc (a5 g1 g2 ha1 ha2 ha3)) (oH (a5 g1 g2 ha1 ha2 ha3)) z7 aM1 (λH' hH=>aD4 H' 4 pa (hH 4 z6) z8) z6 (Zdr (a5 g1 g2 ha1 ha2 ha3)) ?_;refine iY (bm:= [0,0,0,4,12,0,32,96,252,0,512,2044,0,4096,16380,32766,65534,131071,262143]) 4 (fresh:=(5)) (by kernel_rfl) (Zd (a5 y3 y48 AI g1 (a4 g2 ha1 ha2 ha3))) z7 z7 ?_;refine mL (bm:= [0,0,0,4,12,0,32,96,252,0,512,2044,0,4096,16380,32766,65534,131071,262143]) ([]) (by kernel_rfl) (Zc (a5 g1 g2 ha1 ha2 ha3)) (oH (a5 g1 g2 ha1 ha2 ha3)) z7 aFn (λH' _=>ih H') (Zdr (a5 g1 g2 ha1 ha2 ha3)) ?_;refine iT (bm:= [0,0,0,4,12,0,32,96,252,0,512,2044,0,4096,16380,32766,65534,131071,262143]) (fresh:=(5)) (by kernel_rfl) (Zd (a5 y46 AI g1 g2 (a3 ha1 ha2 ha3))) z7 ?_;exact⟨ZV,q++iE u (ps++ [n]) (pa++ [(i:Int)]),_,ZV,by simp only[jN,seval,aA,bM,bN,qS,aRf]<;>rfl,by rw[htk,hg];rfl⟩
  ·intro q hg;rw[aR7]at hg;refine jU ?_;refine wQ ?_;refine wT ⟨.inr rfl,_,rfl, ?_⟩;rw[IA,<-hg];rfl
theorem BZ(n:Nd)(h:n.size<=1000000):PC Tryz.prog 18 [n.enc] (.slice ((iE n [] []).map At.enc) .none):=by
 refine fI (N:=6) Tryz.func18 rfl rfl z6 (by simp[Nd.bel,At.bel,iI,kI,jQ,iF,dR,bW.int,bW.str,bW.bool]) (kI _ _) ?_;refine ZE cW ?_;refine ZT 2 (a2 cW AI) ?_;refine ZP0 aFn (BP n.size n [] [] (aQj _) (by simp;omega) (by simp;omega) _) ?_;refine VT ?_;refine wQ ?_;refine wT ⟨.inr rfl,_,rfl, ?_⟩;rfl
set_option maxRecDepth 4000
def mZ(m mod:Int)(ss:List Sy)(ps:List Nd):Nat->Int
 |0=>mod
 |i+1=>if uB (jV (ps.getD i dN) (ps.take i))=true then mF (uD m (pN (ps.getD i dN))) ss else mZ m mod ss ps i
def AM(n:Nd):Bool:=decide (n.kind<=9)&&decide (n.value.tmod 2=1)
def oA(m mod:Int)(ss:List Sy)(t:At):List Sy:=
 if decide (jV t.node t.pars=0)=true then ss else ss++ [⟨jV t.node t.pars,m,pN t.node,mZ m mod ss t.pars t.pars.length,t.node.text,AM t.node⟩]
theorem WY(m mod:Int)(ss:List Sy)(t:At):(oA m mod ss t).length<=ss.length+1:=by unfold oA;split<;>simp
theorem zG(m mod:Int):∀(l:List At) (ss:List Sy),(l.foldl (oA m mod) ss).length<=ss.length+l.length
 | [],ss=>z6
 |t::l,ss=>by rw[List.foldl_cons,aQ0];have:=zG m mod l (oA m mod ss t);have:=WY m mod ss t;omega
def HZ(ms:List Md):List Nd->Nat->List Sy->List Sy
 | [],_,ss=>ss
 |t::ts,i,ss=>HZ ms ts (i+1) ((iE t [] []).foldl (oA (i:Int) (ss.length:Int)) (ss++ [gG ms i]))
structure aBm(t:At):Prop where
 h13:t.node.kind=13->2<=t.pars.length
 hl:t.pars.length<=1000000
 hp:t.path.length=t.pars.length
 hi:∀i (h:i<t.pars.length),t.pars[i].kind=13->2<=i
theorem NV(ms:List Md)(ts:List Nd)(hl:ts.length<=ms.length)(h8:ts.length<=8)(hT:∀t∈ts,t.size<=100000/\∀a∈iE t [] [],aBm a):PC Tryz.prog 14 [.slice (ms.map Md.enc) .none, .slice (ts.map Nd.enc) .none] (.slice ((HZ ms ts 0 bJ).map Sy.enc) .none):=by
 have hmx:maxLen=9223372036854775807:=z7
 refine fI (N:=115) Tryz.func14 rfl rfl z6 (by simp[Nd.bel,At.bel,iI,kI,jQ,iF,dR,bW.int,bW.str,bW.bool]) (jQ _ _) ?_;refine jU ?_;refine jU ?_;refine ZE (a2 y9 iG) ?_;refine wQ ?_;refine zF 5 6 (es:= []) (Zn tN) ?_;refine dS (σ:=List Sy) (4) (λ(q:List Sy)=> [(0, .slice (ms.map Md.enc) .none),(1, .slice (ts.map Nd.enc) .none),(5, .slice (q.map Sy.enc) (.tok 0)),(18, .slice (bJ.map λs=>PV.str s.name) .full)]) [0,1,5,18] ([]) (λ(q:List Sy)=> [.buf q.length 6]) (λ(i:Nat) (q:List Sy)=>q=bJ.take i) ([]) (_) rfl rfl rfl rfl rfl rfl rfl rfl rfl z7 z7 z7 (λ_=>rfl) (z7) (Zt tN) (Zf tN) z6 (λ_ _ _=>by first|exact aRk _| (simp only[aRf];omega)) ?_ ?_ ?_
 ·intro i q hg;refine⟨?_,ZR⟩;simp only[aRy];exact ZH
 ·intro i q hi hg;have hb4:i<bJ.length:=hi;have g1:(0<=((i:Nat):Int)/\((i:Nat):Int)<4)=True:=by simp;omega
  have g2:(bJ.map λs=>PV.str s.name)[i]? =some (.str bJ[i].name):=by rw[aQ8,aRa hb4];rfl
  have gb:bJ[i]=⟨15, -1, -1, -1,bJ[i].name,false⟩:=by
   have:i=0\/i=1\/i=2\/i=3:=z8
   rcases this with rfl|rfl|rfl|rfl<;>rfl
  have htk:bJ.take (i+1)=bJ.take i++ [⟨15, -1, -1, -1,bJ[i].name,false⟩]:=by rw[List.take_succ_eq_append_getElem hb4,<-gb]
  have hlt:q.length=i:=by rw[hg];simp[bJ];omega
  have g4:(bJ.map λs=>PV.str s.name).length=4:=rfl;have hap:=vU (us:=q) (u:=⟨15, -1, -1, -1,bJ[i].name,false⟩) (id:=0) (tl:=.full) (by rw[hlt];omega);refine ZE (a5 y9 iG g1 g2 (a2 g4 hap)) ?_;refine ZE (a5 vS rS g1 g2 (a2 g4 hap)) ?_;exact⟨ZV,q++ [(⟨15, -1, -1, -1,bJ[i].name,false⟩:Sy)],_,ZV,by simp only[jN,seval,aA,bM,bN,qS,qZ,qM,aRf,aQh]<;>rfl,by rw[htk,hg]⟩
 ·intro q hg;obtain rfl:q=bJ:=hg;refine ZE (a2 tT cW) ?_;refine wQ ?_;refine dS (σ:=List Sy) (ts.length) (λ(q:List Sy)=> [(0, .slice (ms.map Md.enc) .none),(5, .slice (q.map Sy.enc) (.tok 0)),(30, .slice (ts.map Nd.enc) .none)]) [0,5,30] ([]) (λ(q:List Sy)=> [.buf q.length 6]) (λ(i:Nat) (q:List Sy)=>HZ ms (ts.drop i) i q=HZ ms ts 0 bJ/\q.length<=4+i*100001) (bJ) (_) rfl rfl rfl rfl rfl rfl rfl rfl rfl z7 z7 z7 (λ_=>rfl) (z8) (Zt tN) (Zf tN) (⟨rfl,by simp[bJ]⟩) (λ_ _ _=>by first|exact aRk _| (simp only[aRf];omega)) ?_ ?_ ?_
  ·intro i q hg;refine⟨?_,ZR⟩;simp only[aRy];exact ZH
  ·intro i q hi hg;obtain⟨hr,hql⟩:=hg;have g1:=bA hi;have g2:=bS Nd.enc hi;have him:i<ms.length:=z8
   have g3:=bA him;have g4:=bS Md.enc him;rw[aR6 hi,HZ]at hr;have hmem:ts[i]∈ts:=aRh hi;have hms:gG ms i=⟨1,(i:Int), -1, -1,ms[i].name,true⟩:=by unfold gG;rw[aRb,aRa him];rfl
   obtain⟨u,hu⟩:∃u,u=ts[i]:=⟨_,rfl⟩;rw[<-hu]at g2 hmem hr;obtain⟨husz,hua⟩:=hT u hmem;have hpl:=xW u [] [];obtain⟨L,hL⟩:∃L,L=iE u [] []:=⟨_,rfl⟩;rw[<-hL]at hr hua hpl;have hap:=vU (us:=q) (u:=⟨1,(i:Int), -1, -1,ms[i].name,true⟩) (id:=0) (tl:=.full) z8;rw[hms]at hr;refine ZE (a5 tT cW g1 g2 (a2 g3 g4)) ?_;refine ZE (a5 vS rS g1 g2 (a2 g3 g4)) ?_;refine ZE (a5 y9 zK vS rS (a5 sT g1 g2 g3 (a2 g4 hap))) ?_;refine ZL [0,5,8,9,10,30,31,32] (a4 g1 g2 g3 g4) ?_;refine ZT 1 (a5 cW g1 g2 g3 g4) ?_;refine ZP (a4 g1 g2 g3 g4) aEv ((hL▸BZ u z8) _) ?_;refine ZX (a5 y46 AI g1 g2 (a2 g3 g4)) ?_;refine wQ ?_;refine dS (σ:=List Sy) (L.length) (λ(p:List Sy)=> [(0, .slice (ms.map Md.enc) .none),(5, .slice (p.map Sy.enc) (.tok 0)),(8,aA (i:Int)),(10,aA (q.length:Int)),(50, .slice (L.map At.enc) .none),(30, .slice (ts.map Nd.enc) .none),(31,aA (ts.length:Int)),(32,aA (i:Int))]) [0,5,8,10,50,30,31,32] ([]) (λ(p:List Sy)=> [.buf p.length 6]) (λ(j:Nat) (p:List Sy)=>p=(L.take j).foldl (oA (i:Int) (q.length:Int)) (q++ [(⟨1,(i:Int), -1, -1,ms[i].name,true⟩:Sy)])) (q++ [(⟨1,(i:Int), -1, -1,ms[i].name,true⟩:Sy)]) (_) rfl rfl rfl rfl rfl rfl rfl rfl rfl z7 z7 z7 (λ_=>rfl) (z8) (Zt (a4 g1 g2 g3 g4)) (Zf (a4 g1 g2 g3 g4)) z6 (λ_ _ _=>by first|exact aRk _| (simp only[aRf];omega)) ?_ ?_ ?_
   ·intro j p hg;refine⟨?_,ZR⟩;simp only[aRy];exact ZH
   ·intro j p hj hg;have k1:=bA hj;have k2:=bS At.enc hj;have hpl2:p.length<=q.length+1+j:=by
     have:=zG (i:Int) (q.length:Int) (L.take j) (q++ [(⟨1,(i:Int), -1, -1,ms[i].name,true⟩:Sy)]);rw[<-hg,aQ6,aRf,aQh]at this;omega
    have hao:=hua L[j] (aRh hj);have htk:(L.take (j+1)).foldl (oA (i:Int) (q.length:Int)) (q++ [(⟨1,(i:Int), -1, -1,ms[i].name,true⟩:Sy)])=oA (i:Int) (q.length:Int) p L[j]:=by rw[List.take_succ_eq_append_getElem hj,List.foldl_append,<-hg];rfl
    obtain⟨a,ha⟩:∃a,a=L[j]:=⟨_,rfl⟩;rw[<-ha]at k2 hao htk;refine ZE (a5 y46 AI g1 g2 (a4 g3 g4 k1 k2)) ?_;refine ZT 1 (a5 AI g1 g2 g3 (a3 g4 k1 k2)) ?_;refine ZP (a5 g1 g2 g3 g4 (a2 k1 k2)) aAb (vY a.node a.pars a.path hao.h13 hao.hl _) ?_;refine ZX (a5 g1 g2 g3 g4 (a2 k1 k2)) ?_;refine ZE (a5 y3 g1 g2 g3 (a3 g4 k1 k2)) ?_;refine ZI (a5 g1 g2 g3 g4 (a2 k1 k2)) (λbt59=> ?_) (λbt59=> ?_)
    ·
     have hst:oA (i:Int) (q.length:Int) p a=p:=by unfold oA;rw[if_pos bt59]
     refine wQ ?_;refine bG ?_;exact⟨ZV,oA (i:Int) (q.length:Int) p a,_,⟨rfl,by rw[hst]<;>rfl,rfl,rfl,rfl,rfl,rfl,rfl,trivial⟩,by rw[hst];simp only[jN,seval,aA,bM,bN,qS,qZ,qM,aRf,aQh]<;>rfl,htk.symm⟩
    ·
     have hst0:¬decide (jV a.node a.pars=0)=true:=by rw[bt59];simp
     refine qK ?_;refine ZE (a5 g1 g2 g3 g4 (a2 k1 k2)) ?_;refine ZE (a5 tT cW AI g1 (a5 g2 g3 g4 k1 k2)) ?_;refine wQ ?_;refine dS (σ:=Int) (a.pars.length) (λ(r:Int)=> [(0, .slice (ms.map Md.enc) .none),(5, .slice (p.map Sy.enc) (.tok 0)),(8,aA (i:Int)),(10,aA (q.length:Int)),(12, .optr 1 0),(13,aA (jV a.node a.pars)),(14,aA r),(62, .slice (a.pars.map Nd.enc) .none),(50, .slice (L.map At.enc) .none),(51,aA (L.length:Int)),(52,aA (j:Int)),(30, .slice (ts.map Nd.enc) .none),(31,aA (ts.length:Int)),(32,aA (i:Int))]) [0,5,8,10,12,13,14,62,50,51,52,30,31,32] ([]) (λ(r:Int)=> [.buf p.length 6, .row [.int .i64 a.node.kind, .int .i64 a.node.value, .str a.node.text, .int .i64 a.node.st, .int .i64 a.node.en, .int .i64 a.node.ns, .slice (a.node.kids.map Nd.enc) .none, .slice (a.pars.map Nd.enc) .none, .slice (a.path.map aA) .none]]) (λ(l:Nat) (r:Int)=>r=mZ (i:Int) (q.length:Int) p a.pars l) ((q.length:Int)) (_) rfl rfl rfl rfl rfl rfl rfl rfl rfl z7 z7 z7 (λ_=>rfl) ((by have:=hao.hl;omega)) (Zt (a5 g1 g2 g3 g4 (a2 k1 k2))) (Zf (a5 g1 g2 g3 g4 (a2 k1 k2))) (rfl) (λ_ _ _=>by first|exact aRk _| (simp only[aRf];omega)) ?_ ?_ ?_
     ·intro l r hr6;refine⟨?_,ZR⟩;simp only[aRy];exact ZH
     ·intro l r hl6 hr6;have m1:=bA hl6;have m2:=bS Nd.enc hl6;have m3:(0<=((l:Nat):Int)/\((l:Nat):Int)<=(a.pars.length:Int))=True:=by simp;omega
      have m4:(a.pars.map Nd.enc).take l=(a.pars.take l).map Nd.enc:=List.map_take.symm;have m5:(a.path.map aA).take l=(a.path.take l).map aA:=List.map_take.symm;have m6:(a.path.length:Int)=(a.pars.length:Int):=by rw[hao.hp]
      have m7:(∀(e:PV),e∈List.map Nd.enc a.pars->e.cells.length=7)=True:=eq_true λe he=>by obtain⟨v,_,rfl⟩:=aRn.1 he;exact v.enc_len
      have m8:(∀(e:PV),e∈List.map aA a.path->e.cells.length=1)=True:=eq_true λe he=>by obtain⟨v,_,rfl⟩:=aRn.1 he;rfl
      have hpt:∀b,uB (jV a.pars[l] (a.pars.take l))=b->mZ (i:Int) (q.length:Int) p a.pars (l+1)=if b=true then mF (uD (i:Int) (pN a.pars[l])) p else r:=λb hb=>by
       rw[mZ,aRb,aRa hl6,aQs,hb,<-hr6]
      have hd13:=hao.hi l hl6;have hal:=hao.hl;obtain⟨z,hz⟩:∃z,z=a.pars[l]:=⟨_,rfl⟩;rw[<-hz]at m2 hpt hd13;refine ZE (a5 tT cW g1 g2 (a5 g3 g4 k1 k2 (a5 m1 m2 m3 m4 (a4 m5 m6 m7 m8)))) ?_;refine wQ ?_;refine eA (by kernel_rfl) ?_;refine nV 10 (by simp only[jP,jO,jN,seval,y3,tT,cW,y48,AI,jS,aA,bM,bN,qS,qZ,qM,g1,g2,g3,g4,tN,Nd.enc_len,Md.enc_len,k1,k2,At.enc_len,m1,m2,m3,m4,m5,m6,m7,m8,aQp,tN,Nd.enc_len]<;>with_reducible rfl) z7 ?_;refine ZpK (a5 g1 g2 g3 g4 (a5 k1 k2 m1 m2 (a5 m3 m4 m5 m6 (a2 m7 m8)))) aAb (λhc=>vY z (a.pars.take l) (a.path.take l) (λh=>by have:=hd13 h;simp;omega) (by simp;omega) _) ?_;refine ZpX (a5 g1 g2 g3 g4 (a5 k1 k2 m1 m2 (a5 m3 m4 m5 m6 (a2 m7 m8)))) ?_;refine ZL [0,5,8,10,12,13,14,16,17,30,31,32,50,51,52,62,63,64] (a5 g1 g2 g3 g4 (a5 k1 k2 m1 m2 (a5 m3 m4 m5 m6 (a2 m7 m8)))) ?_;refine ZT 1 (a5 g1 g2 g3 g4 (a5 k1 k2 m1 m2 (a5 m3 m4 m5 m6 (a2 m7 m8)))) ?_;refine ZP (a5 g1 g2 g3 g4 (a5 k1 k2 m1 m2 (a5 m3 m4 m5 m6 (a2 m7 m8)))) aNu (YI _ _) ?_;refine oN ?_;refine ZI (a5 g1 g2 g3 g4 (a5 k1 k2 m1 m2 (a5 m3 m4 m5 m6 (a2 m7 m8)))) (λbt81=> ?_) (λbt81=> ?_)
      ·
       have hp1:=hpt true bt81;rw[if_pos rfl]at hp1;refine ZT 3 (a5 cW g1 g2 g3 (a5 g4 k1 k2 m1 (a5 m2 m3 m4 m5 (a3 m6 m7 m8)))) ?_;refine ZP (a5 g1 g2 g3 g4 (a5 k1 k2 m1 m2 (a5 m3 m4 m5 m6 (a2 m7 m8)))) SA (pW z _) ?_;refine ZP (a5 g1 g2 g3 g4 (a5 k1 k2 m1 m2 (a5 m3 m4 m5 m6 (a2 m7 m8)))) aFe (SO p (i:Int) (pN z) z8 _) ?_;refine ZX (a5 g1 g2 g3 g4 (a5 k1 k2 m1 m2 (a5 m3 m4 m5 m6 (a2 m7 m8)))) ?_;exact⟨ZV,mZ (i:Int) (q.length:Int) p a.pars (l+1),_,⟨rfl,rfl,rfl,rfl,rfl,rfl,by rw[hp1]<;>rfl,rfl,rfl,rfl,rfl,rfl,rfl,rfl,trivial⟩,by simp only[jN,seval,aA,bM,bN,qS,qZ,qM]<;>rfl,rfl⟩
      ·
       have hp1:=hpt false bt81;rw[if_neg z6]at hp1;refine qK ?_;exact⟨ZV,mZ (i:Int) (q.length:Int) p a.pars (l+1),_,⟨rfl,rfl,rfl,rfl,rfl,rfl,by rw[hp1]<;>rfl,rfl,rfl,rfl,rfl,rfl,rfl,rfl,trivial⟩,by simp only[jN,seval,aA,bM,bN,qS,qZ,qM]<;>rfl,rfl⟩
     ·intro r hr6;rcases Bool.eq_false_or_eq_true (decide (a.node.kind<=9))with h9|h9
      ·
       have hpb:AM a.node=decide (a.node.value.tmod 2=1):=by unfold AM;rw[h9];rfl
       refine wQ ?_;have hap2:=vU (us:=p) (u:=⟨jV a.node a.pars,(i:Int),pN a.node,r,a.node.text,AM a.node⟩) (id:=0) (tl:=.full) z8;have hst:oA (i:Int) (q.length:Int) p a=p++ [⟨jV a.node a.pars,(i:Int),pN a.node,r,a.node.text,AM a.node⟩]:=by unfold oA;rw[if_neg hst0,<-hr6]
       rw[hpb]at hap2 hst;refine iK 0 (by kernel_rfl) ?_;refine iY (bm:= [0,0,0,0,8,24,0,0,128,384,0,1024,3072,7168,15416,31800,64568,130104,261176,523320,1047608,2097150,4194302,8388607,16777215]) 5 (fresh:=(2)) (by kernel_rfl) (Zd (a5 cW AI g1 g2 (a5 g3 g4 k1 k2 (a2 h9 hap2)))) z7 z7 ?_;refine mL (bm:= [0,0,0,0,8,24,0,0,128,384,0,1024,3072,7168,15416,31800,64568,130104,261176,523320,1047608,2097150,4194302,8388607,16777215]) ([]) (by kernel_rfl) (Zc (a5 g1 g2 g3 g4 (a4 k1 k2 h9 hap2))) (oH (a5 g1 g2 g3 g4 (a4 k1 k2 h9 hap2))) z7 SA (λH' _=>pW a.node H') (Zdr (a5 g1 g2 g3 g4 (a4 k1 k2 h9 hap2))) ?_;refine iY (bm:= [0,0,0,0,8,24,0,0,128,384,0,1024,3072,7168,15416,31800,64568,130104,261176,523320,1047608,2097150,4194302,8388607,16777215]) 10 (fresh:=(2)) (by kernel_rfl) (Zd (a5 y3 y9 cW AI (a5 g1 g2 g3 g4 (a4 k1 k2 h9 hap2)))) z7 z7 ?_;refine iT (bm:= [0,0,0,0,8,24,0,0,128,384,0,1024,3072,7168,15416,31800,64568,130104,261176,523320,1047608,2097150,4194302,8388607,16777215]) (fresh:=(2)) (by kernel_rfl) (Zd (a5 y3 vS cW rS (a5 g1 g2 g3 g4 (a4 k1 k2 h9 hap2)))) z7 ?_;exact⟨ZV,oA (i:Int) (q.length:Int) p a,_,⟨rfl,by rw[hst]<;>rfl,rfl,rfl,rfl,rfl,rfl,rfl,trivial⟩,by rw[hst];simp only[jN,seval,aA,bM,bN,qS,qZ,qM,aRf,aQh]<;>rfl,htk.symm⟩
      ·
       have hpb:AM a.node=false:=by unfold AM;rw[h9];rfl
       refine wQ ?_;have hap2:=vU (us:=p) (u:=⟨jV a.node a.pars,(i:Int),pN a.node,r,a.node.text,AM a.node⟩) (id:=0) (tl:=.full) z8;have hst:oA (i:Int) (q.length:Int) p a=p++ [⟨jV a.node a.pars,(i:Int),pN a.node,r,a.node.text,AM a.node⟩]:=by unfold oA;rw[if_neg hst0,<-hr6]
       rw[hpb]at hap2 hst;refine iK 0 (by kernel_rfl) ?_;refine iY (bm:= [0,0,0,0,8,24,0,0,128,384,0,1024,3072,7168,15416,31800,64568,130104,261176,523320,1047608,2097150,4194302,8388607,16777215]) 5 (fresh:=(2)) (by kernel_rfl) (Zd (a5 cW AI g1 g2 (a5 g3 g4 k1 k2 (a2 h9 hap2)))) z7 z7 ?_;refine mL (bm:= [0,0,0,0,8,24,0,0,128,384,0,1024,3072,7168,15416,31800,64568,130104,261176,523320,1047608,2097150,4194302,8388607,16777215]) ([]) (by kernel_rfl) (Zc (a5 g1 g2 g3 g4 (a4 k1 k2 h9 hap2))) (oH (a5 g1 g2 g3 g4 (a4 k1 k2 h9 hap2))) z7 SA (λH' _=>pW a.node H') (Zdr (a5 g1 g2 g3 g4 (a4 k1 k2 h9 hap2))) ?_;refine iY (bm:= [0,0,0,0,8,24,0,0,128,384,0,1024,3072,7168,15416,31800,64568,130104,261176,523320,1047608,2097150,4194302,8388607,16777215]) 10 (fresh:=(2)) (by kernel_rfl) (Zd (a5 y3 y9 cW AI (a5 g1 g2 g3 g4 (a4 k1 k2 h9 hap2)))) z7 z7 ?_;refine iT (bm:= [0,0,0,0,8,24,0,0,128,384,0,1024,3072,7168,15416,31800,64568,130104,261176,523320,1047608,2097150,4194302,8388607,16777215]) (fresh:=(2)) (by kernel_rfl) (Zd (a5 y3 vS cW rS (a5 g1 g2 g3 g4 (a4 k1 k2 h9 hap2)))) z7 ?_;exact⟨ZV,oA (i:Int) (q.length:Int) p a,_,⟨rfl,by rw[hst]<;>rfl,rfl,rfl,rfl,rfl,rfl,rfl,trivial⟩,by rw[hst];simp only[jN,seval,aA,bM,bN,qS,qZ,qM,aRf,aQh]<;>rfl,htk.symm⟩
   ·intro p hg;rw[aR7]at hg;exact⟨ZV,p,_,ZV,by simp only[jN,seval,aA,bM,bN,qS,qZ,qM]<;>rfl,by rw[hg];exact hr,by have:=zG (i:Int) (q.length:Int) L (q++ [(⟨1,(i:Int), -1, -1,ms[i].name,true⟩:Sy)]);rw[<-hg,aRf,aQh]at this;omega⟩
  ·intro q hg;obtain⟨hr,hql⟩:=hg;rw[List.drop_length,HZ]at hr;refine jU ?_;refine wQ ?_;refine wT ⟨.inr rfl,_,rfl, ?_⟩;rw[<-hr];rfl
set_option maxRecDepth 4000
theorem aBe:xZ Tryz.prog 44 [.int, .int, .int, .int, .str, .bool]:=⟨⟨_,Tryz.underlying44,rfl,λi h h2=>by
 match i,h2 with
 |0,_=>exact⟨z6,rfl,Tryz.underlying3⟩
 |1,_=>exact⟨z6,rfl,Tryz.underlying3⟩
 |2,_=>exact⟨z6,rfl,Tryz.underlying3⟩
 |3,_=>exact⟨z6,rfl,Tryz.underlying3⟩
 |4,_=>exact⟨z6,rfl,Tryz.underlying9⟩
 |5,_=>exact⟨z6,rfl,Tryz.underlying4⟩⟩,by kernel_rfl,by kernel_rfl⟩
theorem aD6(s:Sy):iJ s.enc.cells s.enc.cells=true:=by simp[Sy.enc_cells,iJ,JQ]
theorem aNo(us:List Sy)(hx:us.length<=maxLen):PC Tryz.prog 15 [.slice (us.map Sy.enc) .none, .slice (us.map Sy.enc) .none] (.bool true):=by
 refine fI (N:=26) Tryz.func15 rfl rfl z6 (by simp[Nd.bel,At.bel,iI,kI,jQ,iF,dR,bW.int,bW.str,bW.bool]) (.bool _) ?_;refine wQ ?_;refine eE (by simp only[kA,seval,aA,qZ,decide_true,aRq]<;>with_reducible rfl) z7 ?_;refine wQ ?_;refine eE (by simp only[kA,seval,y3,vS,rS,aA,qZ,decide_true,aRq]<;>with_reducible rfl) z7 ?_;refine wQ ?_;refine wF rfl (by simp only[jN,seval,aA,qZ,decide_true,aRq]<;>with_reducible rfl) ?_;refine qK ?_;refine wQ ?_;refine eE (by simp only[kA,seval,vS,rS,aA,qZ,decide_true,aRq]<;>with_reducible rfl) z7 ?_;refine wQ ?_;refine dS (σ:=Unit) (us.length) (λ(u_:Unit)=> [(0, .slice (us.map Sy.enc) .none),(1, .slice (us.map Sy.enc) .none)]) [0,1] ([]) (λ(u_:Unit)=> []) (λ(i:Nat) (u_:Unit)=>True) (()) ([]) rfl rfl rfl rfl rfl rfl rfl rfl rfl z7 z7 z7 (λ_=>rfl) (hx) ⟨(by first|rfl| (simp only[jN,seval,aA,qZ,decide_true,aRq]<;>first|done|with_reducible rfl)),(by first|rfl| (simp only[jN,seval,aA,qZ,decide_true,aRq]<;>first|done|with_reducible rfl)),(by first|rfl| (simp only[jN,seval,aA,qZ,decide_true,aRq]<;>first|done|with_reducible rfl)),(by first|rfl| (simp only[jN,seval,aA,qZ,decide_true,aRq]<;>first|done|with_reducible rfl)),trivial⟩ (by first|rfl| (simp only[jN,seval,aA,qZ,decide_true,aRq]<;>first|done|with_reducible rfl)) z6 (λ_ _ _=>by first|exact aRk _| (simp only[aRf];omega)) ?_ ?_ ?_
 ·exact λi s hg=>⟨by first|exact eP _| (simp only[aR0];assumption)| (refine fB hb' z6 ?_;exact ZH),ZR⟩
 ·intro i u_ hi hg;have g1:=bA hi;have g2:=bS Sy.enc hi;have hs:=aD6 us[i];refine wQ ?_;refine eE (by simp only[kA,seval,aA,qZ,decide_true,aRq,g1,tN,g2,Sy.enc_len]<;>with_reducible rfl) z7 ?_;refine wQ ?_;refine eA (by kernel_rfl) ?_;refine nV 8 (by simp only[jP,jO,jN,seval,vS,rS,aA,qZ,decide_true,aRq,g1,tN,g2,Sy.enc_len]<;>with_reducible rfl) z7 ?_;refine NU (ps:=us[i].enc.cells) (qs:=us[i].enc.cells) aBe rfl (kV tN) (kV tN) rfl rfl (SH tN) (SH tN) z7 z7 ?_;rw[hs];refine lU (by simp only[jP,jO,jN,seval,aA,qZ,decide_true,aRq,g1,tN,g2,Sy.enc_len]<;>with_reducible rfl) z7 (by repeat (first|exact dI.base _|with_reducible apply dI.keep|apply dI.drop)) ?_;refine wQ ?_;refine wF rfl (by simp only[jN,seval,aA,qZ,decide_true,aRq,g1,tN,g2,Sy.enc_len,aRq]<;>with_reducible rfl) ?_;refine qK ?_;exact⟨ZV,(),[],ZV,rfl,trivial⟩
 ·intro u_ hg;refine wQ ?_;refine eE (by simp only[kA,seval,aA,qZ,decide_true,aRq]<;>with_reducible rfl) z7 ?_;refine wQ ?_;refine wT ⟨.inr rfl,_,rfl, ?_⟩;rfl
theorem LL{f:FuncId}{caps:List PV}{H:aC}{us:List Sy}{p:Sy->Bool}(hc:aF3 Tryz.prog Sy.enc f caps H us p)(hl:us.length<=maxLen):aL Tryz.prog 44 [.slice (us.map Sy.enc) .none, .fn (.func f) [] caps] H λr' H'=>r'=aA (mF p us)/\H'=H:=by
 have hgo:=hc.go;refine cZ (N:=19) Tryz.func44 rfl rfl z6 (.int _ _) λhb'=> ?_;refine jU ?_;refine ZE (a2 vS rS) ?_;refine wQ ?_;refine dS (σ:=Unit) (us.length) (λ(s:Unit)=> [(0, .slice (us.map Sy.enc) .none),(1, .fn (.func f) [] caps)]) [0,1] (H) (λ(s:Unit)=> []) (λ(i:Nat) (s:Unit)=>(us.take i).any p=false) (()) ([]) rfl rfl rfl rfl rfl rfl rfl rfl rfl z7 z7 z7 (λ_=>rfl) (hl) (Zt tN) (Zf tN) z6 (λ_ _ _=>by first|exact aRk _| (simp only[aRf];omega)) ?_ ?_ ?_
 ·exact λi s hg=>⟨by simp only[aR0];exact hb', .cons (jQ _ _) (.cons (.fn _ _ _ z6 (λc hc'=>(hc.bel c hc').mono z6)) .nil)⟩
 ·intro i s hi hg;have g1:=bA hi;have g2:=bS Sy.enc hi;refine ZE (a2 g1 g2) ?_;refine ZT 5 (a4 vS rS g1 g2) ?_;refine ZP (a2 g1 g2) (by assumption) (hc.call _ (aRh hi)) ?_;refine oN ?_;refine ZI (a2 g1 g2) (λb0=> ?_) (λb0=> ?_)
  ·
   refine ZE (a2 g1 g2) ?_;refine wQ ?_;refine wT ⟨.inr rfl,_,_,rfl, ?_,ZW⟩;rw[pP hi b0 hg];rfl
  ·
   refine qK ?_;exact⟨ZV,(),[],ZV,by simp only[aR0],eD hi hg b0⟩
 ·intro s hg;rw[aR7]at hg;refine jU ?_;refine wQ ?_;refine wT ⟨.inr rfl,_,_,rfl, ?_,ZW⟩;rw[mM hg];rfl
theorem VP{H:aC}{a b:Nat}{m st:Int}(ha:H[a]? =some (.row [.int .i64 m]))(hb:H[b]? =some (.row [.int .i64 st]))(s:Sy):aL Tryz.prog 45 [s.enc, .optr a 0, .optr b 0] H λr H'=>r= .bool (uD m st s)/\H'=H:=by
 have qa:=aB ha;have qb:=aB hb;have nA:(a=H.length)=False:=by have:=lG ha;simp;omega
 have nB:(b=H.length)=False:=by have:=lG hb;simp;omega
 refine cZ (N:=15) Tryz.func45 rfl rfl z6 (.bool _) λhb'=> ?_;refine ZE (a5 rS ha qa nA (a3 hb qb nB)) ?_;refine VF (a5 y3 rS ha qa (a4 nA hb qb nB)) ?_;refine wQ ?_;refine wT ⟨.inr rfl,_,_,rfl, ?_,ZW⟩
 first|rfl| (unfold uD;cases decide (s.mod=m)<;>simp)
theorem YP{H:aC}(ss:List Sy)(m st:Int)(hl:ss.length<=maxLen):aL Tryz.prog 16 [.slice (ss.map Sy.enc) .none,aA m,aA st] H λr H'=>r=aA (mF (uD m st) ss)/\H'=H:=by
 refine cZ (N:=10) Tryz.func16 rfl rfl z6 (.int _ _) λhb'=> ?_;refine ZE y3 ?_;refine PI 2 ?_;refine oP (by simp only[kC,seval,aA,qZ]<;>with_reducible rfl) (by simp only[kC,seval,aA,qZ]) z7 aN1 (LL (p:=uD m st) ⟨aNb,λc hc=>by simp only[aRs,aR2,or_false]at hc;rcases hc with rfl|rfl<;>exact bW.optr _ _ z6,λu _=>VP z6 z6 u⟩ hl) ?_;refine VT ?_;refine wQ ?_;refine wT ⟨.inr rfl,_,_,rfl, ?_,ZW⟩;rfl
set_option maxRecDepth 4000
def iS(n:Nd):Bool:= !decide (mO n false=0)
mutual
def lQ(st:Int):Nd->Option Nd
 | .mk k v t s e n us=>if(iS (.mk k v t s e n us)&&decide (pN (.mk k v t s e n us)=st))=true then some (.mk k v t s e n us)else gV st us
def gV(st:Int):List Nd->Option Nd
 | []=>none
 |u::us=>match lQ st u with
  |some x=>some x
  |none=>gV st us
end
theorem LO(st:Int)(n:Nd):lQ st n=if(iS n&&decide (pN n=st))=true then some n else gV st n.kids:=by cases n;rw[lQ];rfl
theorem vW(st:Int):∀a b:List Nd,gV st (a++b)=match gV st a with|some x=>some x|none=>gV st b
 | [],b=>by simp[gV]
 |u::a,b=>by
  simp only[aQf,gV,vW st a b];cases lQ st u<;>rfl
def JZ(st:Int)(n:Nd):Nd×Bool:=match lQ st n with
 |some x=>(x,true)
 |none=>(dN,false)
theorem zW{st:Int}{us:List Nd}{i:Nat}(hi:i<us.length)(h:gV st (us.take i)=none):gV st (us.take (i+1))=lQ st us[i]:=by
 rw[List.take_succ_eq_append_getElem hi,vW,h];simp only[gV];cases lQ st us[i]<;>rfl
theorem QN{st:Int}{us:List Nd}{i:Nat}(hi:i<us.length)(h:gV st (us.take i)=none){x:Nd}(hx:lQ st us[i]=some x):gV st us=some x:=by
 have h2:=vW st (us.take (i+1)) (us.drop (i+1));rw[List.take_append_drop,zW hi h,hx]at h2;exact h2
theorem BI:∀(k:Nat) (n:Nd) (st:Int),n.size<=k->k<=1000000->PC Tryz.prog 40 [n.enc,aA st] (.tup [(JZ st n).1.enc, .bool (JZ st n).2])
 |0,n,st,h,_=>by cases n;simp[Nd.size]at h
 |k+1,n,st,h,hk=>by
  have hks:n.size=1+aX n.kids:=by cases n;simp only[Nd.size,Nd.kids]
  have hkl:=iU n.kids;have hmx:maxLen=9223372036854775807:=z7
  refine fI (N:=37) Tryz.func40 rfl rfl z6 (by simp[Nd.bel,bW.int]) (.tup _ (by simp[Nd.bel,bW.bool])) ?_;refine ZE cW ?_;refine wQ ?_;refine wR ?_;refine bH ?_;refine ZgT 1 cW ?_;refine ZgP tN aFu (λhc=>aEy n false) ?_;refine ZgT 3 (a2 y3 cW) ?_;refine ZgP tN aE7 (λhc=>aFz n _) ?_;refine ZgX y3 ?_;refine xA (λbt18=> ?_) (λbt18=> ?_)
  ·
   have hd:(iS n&&decide (pN n=st))=true:=by first|exact bt18| (revert bt18;unfold iS;cases decide (mO n false=0)<;>simp)
   have hf:JZ st n=(n,true):=by unfold JZ;rw[LO,if_pos hd]
   refine ZE cW ?_;refine wQ ?_;refine wT ⟨.inr rfl,_,(cC (.cell 4 31) (.tmp 5) rfl (eS lZ z7 (by simp only[jL,jN,seval,aA,bM,bN]<;>with_reducible rfl)) (aP z7)), ?_⟩
   first|rw[hf2]|rw[hf]
   simp only[jN,seval,aA,bM,bN]<;>rfl
  ·
   have hd:(iS n&&decide (pN n=st))=false:=by first|exact bt18| (revert bt18;unfold iS;cases decide (mO n false=0)<;>simp)
   have hf:lQ st n=gV st n.kids:=by rw[LO,if_neg (by rw[hd];simp)]
   refine qK ?_;refine ZE (a2 tT cW) ?_;refine wQ ?_;refine dS (σ:=Unit) (n.kids.length) (λ(u_:Unit)=> [(1,aA st),(2, .optr 0 0),(4, .optr 1 0),(21, .slice (n.kids.map Nd.enc) .none)]) [1,2,4,21] ([]) (λ(u_:Unit)=> [.row [.int .i64 n.kind, .int .i64 n.value, .str n.text, .int .i64 n.st, .int .i64 n.en, .int .i64 n.ns, .slice (n.kids.map Nd.enc) .none], .row [.int .i64 0, .int .i64 0, .str [], .int .i64 0, .int .i64 0, .int .i64 0, .slice [] .full]]) (λ(i:Nat) (u_:Unit)=>gV st (n.kids.take i)=none) (()) (_) rfl rfl rfl rfl rfl rfl rfl rfl rfl z7 z7 z7 (λ_=>rfl) (z8) (Zt tN) (Zf tN) (by simp[gV]) (λ_ _ _=>by first|exact aRk _| (simp only[aRf];omega)) ?_ ?_ ?_
   ·intro i u_ hg;refine⟨?_,ZR⟩;simp only[aRy];exact ZH
   ·intro i u_ hi hg;have g1:=bA hi;have g2:=bS Nd.enc hi;have hmem:n.kids[i]∈n.kids:=aRh hi;have hsa:=kL hmem;have htk:=zW hi hg;have hht:=λx=>QN (x:=x) hi hg;obtain⟨u,hu⟩:∃u,u=n.kids[i]:=⟨_,rfl⟩;rw[<-hu]at g2 hmem hsa htk hht;have ih:=BI k u st z8 z8;obtain⟨m,b,hmb⟩:∃m b,JZ st u=(m,b):=⟨_,_,rfl⟩;rw[hmb]at ih;refine ZE (a4 tT cW g1 g2) ?_;refine ZT 2 (a3 cW g1 g2) ?_;refine ZP (a2 g1 g2) aE1 (ih _) ?_;refine ZX (a3 cW g1 g2) ?_;refine ZE (a2 g1 g2) ?_;refine ZI (a2 g1 g2) (λbt33=> ?_) (λbt33=> ?_)
    ·
     have hf2:JZ st n=(m,true):=by
      have hb:b=true:=bt33;subst hb;unfold JZ at hmb⊢;rw[hf];cases hx:lQ st u with
      |none=>rw[hx]at hmb;cases hmb
      |some x=>rw[hx]at hmb;rw[hht x hx];exact hmb
     refine ZE (a3 cW g1 g2) ?_;refine wQ ?_;refine wT ⟨.inr rfl,_,(cC (.cell 4 31) (.tmp 5) rfl (eS lZ z7 (by simp only[jL,jN,seval,aA,bM,bN,g1,g2,tN,Nd.enc_len]<;>with_reducible rfl)) (aP z7)), ?_⟩
     first|rw[hf2]|rw[hf]
     simp only[jN,seval,aA,bM,bN]<;>rfl
    ·
     have hg2:lQ st u=none:=by
      have hb:b=false:=bt33;subst hb;unfold JZ at hmb;cases hx:lQ st u with
      |none=>rfl
      |some x=>rw[hx]at hmb;cases hmb
     refine qK ?_;exact⟨ZV,(),_,ZV,by simp only[jN,seval,aA,bM,bN]<;>rfl,by rw[htk,hg2]⟩
   ·intro u_ hg;rw[aR7]at hg;have hf2:JZ st n=(dN,false):=by unfold JZ;rw[hf,hg]
    refine ZE cW ?_;refine wQ ?_;refine wT ⟨.inr rfl,_,(cC (.cell 4 31) (.tmp 5) rfl (eS lZ z7 (by simp only[jL,jN,seval,aA,bM,bN]<;>with_reducible rfl)) (aP z7)), ?_⟩
    first|rw[hf2]|rw[hf]
    simp only[jN,seval,aA,bM,bN]<;>rfl
theorem mC:∀(k:Nat) (n:Nd),n.size<=k->k<=1000000->PC Tryz.prog 12 [n.enc,n.enc] (.bool true)
 |0,n,h,_=>by cases n;simp[Nd.size]at h
 |k+1,n,h,hk=>by
  have hks:n.size=1+aX n.kids:=by cases n;simp only[Nd.size,Nd.kids]
  have hkl:=iU n.kids;have hmx:maxLen=9223372036854775807:=z7
  refine fI (N:=74) Tryz.func12 rfl rfl z6 (by simp[Nd.bel]) (.bool _) ?_;refine wQ ?_;refine eE (by simp only[kA,seval,cW,aA,bM,bN,decide_true,aRq,aRm]<;>with_reducible rfl) z7 ?_;refine wQ ?_;refine sR (by simp only[jG,jO,jN,seval,y3,y9,tT,cW,aA,bM,bN,decide_true,aRq,aRm]<;>with_reducible rfl) z7 (by repeat (first|exact dI.base _|with_reducible apply dI.keep|apply dI.drop)) ?_;refine wQ ?_;refine wF rfl (by simp only[jN,seval,aA,bM,bN,decide_true,aRq,aRm]<;>with_reducible rfl) ?_;refine qK ?_;refine wL [2,3] (by simp only[jN,seval,aA,bM,bN,decide_true,aRq,aRm]<;>with_reducible rfl) ?_;refine wQ ?_;refine eE (by simp only[kA,seval,tT,cW,aA,bM,bN,decide_true,aRq,aRm]<;>with_reducible rfl) z7 ?_;refine wQ ?_;refine dS (σ:=Unit) (n.kids.length) (λ(u_:Unit)=> [(2, .optr 0 0),(3, .optr 1 0)]) [2,3] ([]) (λ(u_:Unit)=> [.row [.int .i64 n.kind, .int .i64 n.value, .str n.text, .int .i64 n.st, .int .i64 n.en, .int .i64 n.ns, .slice (n.kids.map Nd.enc) .none], .row [.int .i64 n.kind, .int .i64 n.value, .str n.text, .int .i64 n.st, .int .i64 n.en, .int .i64 n.ns, .slice (n.kids.map Nd.enc) .none]]) (λ(i:Nat) (u_:Unit)=>True) (()) (_) rfl rfl rfl rfl rfl rfl rfl rfl rfl z7 z7 z7 (λ_=>rfl) (z8) ⟨(by first|rfl| (simp only[jN,seval,aA,bM,bN,decide_true,aRq,aRm]<;>first|done|with_reducible rfl)),(by first|rfl| (simp only[jN,seval,aA,bM,bN,decide_true,aRq,aRm]<;>first|done|with_reducible rfl)),(by first|rfl| (simp only[jN,seval,aA,bM,bN,decide_true,aRq,aRm]<;>first|done|with_reducible rfl)),(by first|rfl| (simp only[jN,seval,aA,bM,bN,decide_true,aRq,aRm]<;>first|done|with_reducible rfl)),trivial⟩ (by first|rfl| (simp only[jN,seval,aA,bM,bN,decide_true,aRq,aRm]<;>first|done|with_reducible rfl)) z6 (λ_ _ _=>by first|exact aRk _| (simp only[aRf];omega)) ?_ ?_ ?_
  ·intro i u_ hg;refine⟨?_,ZR⟩;simp only[aRy];exact ZH
  ·intro i u_ hi hg;have g1:=bA hi;have g2:=bS Nd.enc hi;have hmem:n.kids[i]∈n.kids:=aRh hi;have hsa:=kL hmem;obtain⟨u,hu⟩:∃u,u=n.kids[i]:=⟨_,rfl⟩;rw[<-hu]at g2 hmem hsa;have ih:=mC k u z8 z8;refine wQ ?_;refine eE (by simp only[kA,seval,aA,bM,bN,decide_true,aRq,aRm,g1,g2,tN,Nd.enc_len]<;>with_reducible rfl) z7 ?_;refine wQ ?_;refine eA (by kernel_rfl) ?_;refine nV 10 (by simp only[jP,jO,jN,seval,tT,cW,aA,bM,bN,decide_true,aRq,aRm,g1,g2,tN,Nd.enc_len]<;>with_reducible rfl) z7 ?_;refine xU (by simp only[kE,seval,aA,bM,bN,decide_true,aRq,aRm,g1,g2,tN,Nd.enc_len]<;>with_reducible rfl) (by simp only[kE,seval,aA,bM,bN,decide_true,aRq,aRm,g1,g2,tN,Nd.enc_len]<;>with_reducible rfl) (by simp only[kE,seval,aA,bM,bN,decide_true,aRq,aRm,g1,g2,tN,Nd.enc_len]) z7 FF (λhc=>ih _) ?_;refine lU (by simp only[jP,jO,jN,seval,aA,bM,bN,decide_true,aRq,aRm,g1,g2,tN,Nd.enc_len]<;>with_reducible rfl) z7 (by repeat (first|exact dI.base _|with_reducible apply dI.keep|apply dI.drop)) ?_;refine wQ ?_;refine wF rfl (by simp only[jN,seval,aA,bM,bN,decide_true,aRq,aRm,g1,g2,tN,Nd.enc_len]<;>with_reducible rfl) ?_;refine qK ?_;exact⟨ZV,(),_,ZV,by simp only[jN,seval,aA,bM,bN]<;>rfl,trivial⟩
  ·intro u_ hg;refine wQ ?_;refine eE (by simp only[kA,seval,aA,bM,bN,decide_true,aRq,aRm]<;>with_reducible rfl) z7 ?_;refine wQ ?_;refine wT ⟨.inr rfl,_,rfl, ?_⟩;rfl
end Go.Abs
