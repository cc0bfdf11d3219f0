/- Part 10 of a proof of the law ServerReference: Go data as trees, the walks of the functions that the law reaches, the plain laws. -/
import Derived.Test.YtndpndmhoheloaaGreatDoorGHServerReference
import GoSem.ClaimJoined
import Derived.ChangeArms
import Derived.Carry
import Derived.SizedLaws
import Derived.JoinedCond
import Derived.Deep.CondSized
import Derived.OpenShut
open List renaming all_cons->aMi,all_eq_true->aNz,append_nil->aN9,drop_zero->aOh,getD_eq_getElem?_getD->aNj,getElem?_append_left->aM0,getElem?_append_right->aM1,getElem?_eq_getElem->aNi,getElem?_map->aNg,getElem_map->aMm,getElem_mem->aNq,length_map->aMw,map_cons->aNl,map_nil->aOb,mem_append->aN0,mem_cons->aN2,mem_map->aNy,nil_append->aN7
open Nat renaming le_refl->aMq,le_trans->aMr,lt_or_ge->aMo,mul_le_mul_right->aNp,succ_ne_self->aOf,zero_le->aNs
open Array renaming getD_eq_getD_getElem?->aMt,getElem?_eq_none->aMp,getElem?_toList->aNk
open Bool renaming and_eq_true->aMj
set_option linter.unusedSectionVars false
set_option linter.unnecessarySimpa false
set_option linter.unusedVariables false
set_option linter.unusedSimpArgs false
set_option maxRecDepth 4000
set_option maxHeartbeats 1000000
namespace Go.Abs
open Go.Proofs Go.Memo
theorem WY{e:Ev}(h:evOk e):evOk (CS e):=h
theorem WQ.run{S:fX}{e:Ev}{S':fX}{code:Int}{rs:List Rs}(h:WQ S e S' code rs)(h6:e.kind=6)(h0:code=0):∃k,k<=S.ps.length/\(e.n<=k\/k=S.ps.length)/\rs=(S.ps.take k).map (oJ S)/\S'=⟨S.ms,S.vs,S.ps.drop k,S.rev⟩/\kK S e=(0,[],S):=by
 rcases h.2 with⟨_,_,h⟩| ⟨h,_⟩
 ·exact h
 ·exact absurd ⟨h6,h0⟩ h
theorem WQ.oth{S:fX}{e:Ev}{S':fX}{code:Int}{rs:List Rs}(h:WQ S e S' code rs)(hn:¬(e.kind=6/\code=0)):rs=(kK S e).2.1/\S'=(kK S e).2.2:=by
 rcases h.2 with⟨a,b,_⟩| ⟨_,h⟩
 ·exact absurd ⟨a,b⟩ hn
 ·exact h
theorem ZG{S:fX}{e:Ev}{S':fX}{code:Int}{rs:List Rs}(h:WQ S e S' code rs)(h8:S.ms.length<=8):∀r∈rs,r.nums.length<=maxLen:=by
 have em:maxLen=9223372036854775807:=z7
 rcases h.2 with⟨_,_,k,_,_,rfl,_⟩| ⟨_,rfl,_⟩
 ·intro r hr;obtain⟨rq,_,rfl⟩:=aNy.1 hr;unfold oJ
  split
  ·have:=CK S.ms rq;show(eI S.ms rq).nums.length<=_;omega
  ·simp
 ·unfold kK
  split
  ·simp
  ·split
   ·simp
   ·split
    ·simp only;split<;>simp
    ·split
     ·split<;>simp
     ·simp
theorem cW{bA n sr:Nat}{S:fX}{tl1 tl2:bE}{pv:PV}{loc:QK->Nat}{st:Memo.St}{G:eL}{pid:List Nat}{H H':aH}{mr:Nat}(hS:jR bA n sr S tl1 tl2 pv loc st G pid H)(hm:¬bW sr G pid mr)(hm0:mr≠0)(hs:∀j,j<H.length->j≠mr->H'[j]? =H[j]?):jR bA n sr S tl1 tl2 pv loc st G pid H':=
 hS.fr (hs 0 (lG hS.go) (Ne.symm hm0)) λj hj=>hs j (hS.lt j hj) (by rintro rfl;exact hm hj)
theorem aE2{H:aH}(h:H[0]? =some gO):ML G0 H:=λk o hk=>by
 match k,hk with
 |0,hk=>injection hk with hk;subst hk;exact h
theorem law_c{H:aH}(h0:H[0]? =some gO)(es:List Ev)(hx:es.length<=maxLen)(hev:∀e∈es,evOk e):aR Tryz.prog 3 [.slice (es.map Ev.enc) .none] H (λr H'=>r= .bool true):=by
 have em:maxLen=9223372036854775807:=z7
 have hl0:1<=H.length:=lG h0;obtain⟨cs,hcs⟩:∃cs,cs=(es.take 15).map CS:=⟨_,rfl⟩;have hcl:cs.length<=15:=by rw[hcs];simp;omega
 have hce:∀e∈cs,evOk e:=λe he=>by
  rw[hcs]at he;obtain⟨x,hx,rfl⟩:=aNy.1 he;exact WY (hev x (List.mem_of_mem_take hx))
 refine aF (N:=134) Tryz.func3 rfl rfl zz λhb'=> ?_;refine aV (aS qK qR) ?_
 repeat refine wS ?_
 refine wR ?_;refine oW (aS qK qR) aLg (VO h0) ?_;rintro _ H1 ⟨rfl,l1,s1⟩;have h01:H1[0]? =some gO:=(s1 0 z8).trans h0;refine bH (aS qK qR) ?_;refine pJ (bR qK qR gZ) ?_
 repeat refine wS ?_
 refine wK ?_
 repeat refine wS ?_
 refine wR ?_;refine oW (aS qK qR) aJu (WH H1) ?_;rintro _ H2 ⟨rfl,hH2⟩;have hS:=RF h01;rw[<-hH2]at hS;refine oW (aS qK qR) aKv (aGc H2) ?_;rintro _ H3 ⟨rfl,hH3⟩;have hS3:=hS.app [vB ⟨[],[],[],0⟩ .full .full .full];rw[<-hH3]at hS3;have hl2:H2.length=H1.length+7:=by rw[hH2];simp
 have hM3:JV H2.length S0S .full .full .full H3:=⟨by rw[hH3];simp[S0S],trivial,trivial,trivial⟩;have ho3:¬bW (H1.length+6) (G0S H1.length) [] H2.length:=λh=>h.elim (λh=>by have:=AH h;omega) (λh=>h.elim (λh=>z8) (λh=>by cases h));obtain⟨bA,hbA⟩:∃b,b=H1.length:=⟨_,rfl⟩;obtain⟨sr,hsr⟩:∃s,s=H1.length+6:=⟨_,rfl⟩;obtain⟨mr,hmr⟩:∃m,m=H2.length:=⟨_,rfl⟩;have hm0:mr≠0:=z8
 rw[<-hsr,<-hbA,<-hmr]at ho3;rw[<-hmr]at hM3;rw[<-hsr,<-hbA]at hS3;rw[<-hsr,<-hmr];clear hH3 hS hH2;refine bH (aS qK qR) ?_;refine eA 1 (aS qK qR) ?_;refine oW (aS qK qR) aK9 (aDb es _ hx) ?_;rintro _ H4 ⟨⟨tlc,rfl⟩,l4,s4⟩;have hS4:=cW hS3 ho3 hm0 λj hj _=>s4 j hj;have hM4:=hM3.fr (s4 mr (lG hM3.row));rw[<-hcs];refine bH (bD y22 qQ qK qR) ?_
 repeat refine wS ?_
 refine bJ ?_;refine fF (σ:=Nat×fX×Memo.St×bE×bE×PV×(QK->Nat)×eL×List Nat×bE×bE×bE) (λ(z:Nat×fX×Memo.St×bE×bE×PV×(QK->Nat)×eL×List Nat×bE×bE×bE)=> [(3, .optr sr 0),(4, .optr mr 0),(20, .slice (cs.map Ev.enc) tlc),(21,aE (cs.length:Int)),(22,aE (z.1:Int))]) (λ(z:Nat×fX×Memo.St×bE×bE×PV×(QK->Nat)×eL×List Nat×bE×bE×bE)=>λH5=>z.1<=cs.length/\Wk z.2.1 z.2.2.1 z.1/\jR bA (bA+1) sr z.2.1 z.2.2.2.1 z.2.2.2.2.1 z.2.2.2.2.2.1 z.2.2.2.2.2.2.1 z.2.2.1 z.2.2.2.2.2.2.2.1 z.2.2.2.2.2.2.2.2.1 H5/\JV mr z.2.1 z.2.2.2.2.2.2.2.2.2.1 z.2.2.2.2.2.2.2.2.2.2.1 z.2.2.2.2.2.2.2.2.2.2.2 H5/\¬bW sr z.2.2.2.2.2.2.2.1 z.2.2.2.2.2.2.2.2.1 mr) (λ(z:Nat×fX×Memo.St×bE×bE×PV×(QK->Nat)×eL×List Nat×bE×bE×bE)=>cs.length-z.1) ((0,S0S,St.new, .full, .full, .slice [] .full,(λ_=>0),G0S bA,[], .full, .full, .full)) ⟨(dJ (aS qK qR)),(dJ (aS qK qR)),(dJ (aS qK qR)),(dJ (aS qK qR)),(dJ (aS qK qR)),trivial⟩ (⟨aNs _,WU,hS4,hM4,ho3⟩) ?_;intro z H5 hg;obtain⟨i,SA,sA,t1,t2,pA,lA,GA,iA,u1,u2,u3⟩:=z;obtain⟨HA,rfl⟩:∃HA,HA=H5:=⟨_,rfl⟩;obtain⟨hi,hWA,hSA,hMA,hoA⟩:=hg;simp only at hi hWA hSA hMA hoA;refine aV (bR y3 qK qR) ?_;refine gG (aS qK qR) (λbt23=> ?_) (λbt23=> ?_)
 ·
  have hlt:i<cs.length:=by have:=of_decide_eq_true bt23;omega
  have g1:=fS hlt;have g2:=dF Ev.enc hlt;obtain⟨e,he⟩:∃e,e=cs[i]:=⟨_,rfl⟩;rw[<-he,Ev.enc_eq]at g2;have gw:IntKind.i64.wrap ((i:Int)+1)=((i+1:Nat):Int):=by rw[cL z8 z8];omega
  have hee:evOk e:=by rw[he];exact hce _ (aNq hlt)
  have hS1:=hSA.app [.row e.enc.cells];rw[Ev.enc_cells]at hS1;have hHe:=GB hS1 hWA z8 e hee;rw[Ev.enc_eq]at hHe;obtain⟨q,hq⟩:∃q,q=HA.length:=⟨_,rfl⟩;have hql:¬bW sr GA iA q:=λh=>by have:=hSA.lt q h;omega
  have hMr:JV mr SA u1 u2 u3 (HA++ [.row [.int .i64 e.kind, .int .i64 e.n, .int .i64 e.ver, .str e.name, .str e.text, .slice (e.edits.map Te.enc) .none, .int .i64 e.req.cl, .int .i64 e.req.id, .int .i64 e.req.q, .int .i64 e.req.arg, .str e.req.name]]):=hMA.fr (aM0 (lG hMA.row));have heA:(HA++ [.row [.int .i64 e.kind, .int .i64 e.n, .int .i64 e.ver, .str e.name, .str e.text, .slice (e.edits.map Te.enc) .none, .int .i64 e.req.cl, .int .i64 e.req.id, .int .i64 e.req.q, .int .i64 e.req.arg, .str e.req.name]])[q]? =some (.row [.int .i64 e.kind, .int .i64 e.n, .int .i64 e.ver, .str e.name, .str e.text, .slice (e.edits.map Te.enc) .none, .int .i64 e.req.cl, .int .i64 e.req.id, .int .i64 e.req.q, .int .i64 e.req.arg, .str e.req.name]):=by rw[hq];simp
  have h8A:=hWA.l8;have hpA:=hWA.ps
  repeat refine wS ?_
  refine wK ?_
  repeat refine wS ?_
  refine bJ ?_;refine aV (aG y22 qQ qK qR g1 g2 jZ) ?_
  repeat refine wS ?_
  rw[<-hq];refine wR ?_;refine DS 2 (bD qQ qK qR heA) ?_;refine oW (bR qK qR heA) aJv (hHe) ?_;rintro r HB ⟨S2,s2,c,rs,v1,v2,p2,l2,G2,i2,k1,k2,rfl,k3,k4⟩;obtain⟨m1,m2⟩:=k4.get hMr.row hoA;have hMB1:JV mr SA u1 u2 u3 HB:=⟨m1,hMA.t1,hMA.t2,hMA.t3⟩;obtain⟨heB1,hq2⟩:=k4.get heA hql;have hEv:=aBz hMB1 (aE2 k3.go) hm0 e hee z8 hWA.lv hWA.nm hpA;rw[Ev.enc_eq]at hEv;refine bH (bR qK qR heA) ?_;refine eA 2 (bD qQ qK qR heB1) ?_;refine oW (bR qK qR heB1) aJl (hEv) ?_;rintro r HC ⟨rfl,⟨w1,w2,w3,hMC⟩,lC,sC⟩;have hSC:=cW k3 m2 hm0 sC;have heC:=(sC q (lG heB1) (by rintro rfl;rw[hMB1.row]at heB1;cases heB1)).trans heB1;have hcc:=k1.1;rw[<-hcc];refine bH (bR qK qR heB1) ?_;refine gQ [3,4,6,7,8,9,10,20,21,22] (aS qK qR) ?_;refine tJ (cF y3 qQ EN qK qR heC) ?_
  repeat refine wS ?_
  refine nP (σ:=bE×bE×bE) (λ(s:bE×bE×bE)=> [(3, .optr sr 0),(4, .optr mr 0),(6, .optr q 0),(7, .slice (rs.map Rs.enc) .none),(8,aE c),(9, .slice (rs.map Rs.enc) .none),(10,aE c),(20, .slice (cs.map Ev.enc) tlc),(21,aE (cs.length:Int)),(22,aE (i:Int))]) (λ(s:bE×bE×bE)=>λHB2=>JV mr S2 s.1 s.2.1 s.2.2 HB2/\jR bA (bA+1) sr S2 v1 v2 p2 l2 s2 G2 i2 HB2/\HB2[q]? =some (.row [.int .i64 e.kind, .int .i64 e.n, .int .i64 e.ver, .str e.name, .str e.text, .slice (e.edits.map Te.enc) .none, .int .i64 e.req.cl, .int .i64 e.req.id, .int .i64 e.req.q, .int .i64 e.req.arg, .str e.req.name])) ?_ ?_
  ·
   refine gG (aS qK qR) (λb2=> ?_) (λb2=> ?_)
   ·
    simp only[aMj,decide_eq_true_eq]at b2;obtain⟨k,kk1,kk2,hrs,hS2,hmev⟩:=k1.run b2.1 b2.2;rw[hmev]at hMC;simp only at hMC;have hrk:rs.length=k:=by rw[hrs];simp;omega
    have hrC:=hMC.row;simp only[vB,aE]at hrC;have hf:=aI (show decide ((k:Int)>(SA.ps.length:Int))=false from decide_eq_false z8) (show decide ((k:Int)<min e.n (SA.ps.length:Int))=false from decide_eq_false z8);refine aV (cF y35 qO qK qR hrk @zqM) ?_
    repeat refine wS ?_
    refine eJ (by kernel_rfl) ?_;refine iI (aG y3 jH qQ qU sV qK (bL qR hrC heC hf jZ)) ?_;refine pJ (aS qK qR) ?_
    repeat refine wS ?_
    refine wK ?_;refine gQ [2,3,4,6,7,8,9,10,11,20,21,22] (aS qK qR) ?_;refine eA 2 (aS qK qR) ?_;refine oW (aS qK qR) aJk (aFn hMC k kk1 z8 z8) ?_;rintro _ HD ⟨rfl,⟨w4,hMD⟩,lD,sD⟩;rw[<-hS2]at hMD;rw[<-hrs];refine bH (aS qK qR) ?_;exact⟨(w1,w2,w4),(by repeat (first|exact trivial|refine⟨rfl, ?_⟩)),hMD,cW hSC m2 hm0 sD,(sD q (lG heC) (by rintro rfl;rw[hMC.row]at heC;cases heC)).trans heC⟩
   ·
    obtain⟨hrs,hS2⟩:=k1.oth (λh=>by rw[h.1,h.2]at b2;simp at b2);rw[<-hS2]at hMC;rw[<-hrs]
    repeat refine wS ?_
    refine wK ?_;exact⟨(w1,w2,w3),(by repeat (first|exact trivial|refine⟨rfl, ?_⟩)),hMC,hSC,heC⟩
  ·intro s HB2 hg;obtain⟨w1,w2,w3⟩:=s;obtain⟨HB,rfl⟩:∃HB,HB=HB2:=⟨_,rfl⟩;simp only at hg;obtain⟨hMB,hSB,heB⟩:=hg;have hoB:=m2;have hrB:=hMB.row;simp only[vB,aE]at hrB;have hmB:=lG hrB;have h8:=k2.l8;have hp2:=k2.ps;have hlv2:=k2.lv;have hrl:=QS k1 hpA;have hrn:∀r∈rs,r.nums.length<=maxLen:=ZG k1 h8A
   repeat refine wS ?_
   refine lM (D:=bE×bE) 29 (by kernel_rfl) rfl [0,0,3,7,15,15,63,127,255,511,1023,2047,1023,5119,13311,29695,65535,131071,262143,524287,1048575,2097151,1048575,5242879,13631487,30408703,67108863,134217727,268435455] (by kernel_rfl) [(29,3),(30,4),(31,6),(32,7),(33,8),(34,9),(35,10),(36,20),(37,21),(38,22),(0,69),(1,70),(2,71),(3,72),(4,73),(5,74),(6,75),(7,76),(8,77),(9,78),(10,79),(11,80),(12,81),(13,82),(14,83),(15,84),(16,85),(17,86),(18,87),(19,88),(20,89),(21,90),(22,91),(23,92),(24,93),(25,94),(26,95),(27,96),(28,97)] (λd=> [.optr sr 0, .optr mr 0, .optr q 0, .slice (rs.map Rs.enc) .none, .int .i64 c, .slice (rs.map Rs.enc) .none, .int .i64 c, .slice (cs.map Ev.enc) tlc, .int .i64 (cs.length:Int), .int .i64 (i:Int), .int .i64 c, .int .i64 c, .bool false, .bool false, .slice (rs.map Rs.enc) .none, .slice (rs.map Rs.enc) .none, .bool true, .bool false, .bool false, .bool false, .optr sr 0, .slice (S2.ms.map Md.enc) d.1, .optr mr 0, .optr mr 0, .optr mr 0, .slice (S2.ms.map Md.enc) w1, .bool true, .bool false, .bool false, .bool false, .optr sr 0, .slice (S2.ps.map Rq.enc) d.2, .optr mr 0, .optr mr 0, .optr mr 2, .slice (S2.ps.map Rq.enc) w3, .bool true, .bool false, .bool false]) (λd m HX=>((∀j,j<HB.length->HX[j]? =HB[j]?)/\HB.length<=HX.length)) (.none, .none) ⟨.inr rfl, .inr rfl, .inr rfl, .inr rfl, .inr rfl, .inr rfl, .inr rfl, .inr rfl, .inr rfl, .inr rfl, .inl z7, .inl z7, .inl z7, .inl z7, .inl z7, .inl z7, .inl z7, .inl z7, .inl z7, .inl z7, .inl z7, .inl z7, .inl z7, .inl z7, .inl z7, .inl z7, .inl z7, .inl z7, .inl z7, .inl z7, .inl z7, .inl z7, .inl z7, .inl z7, .inl z7, .inl z7, .inl z7, .inl z7, .inl z7,trivial⟩ (⟨λ_ _=>rfl,aMq _⟩) ⟨?_, ?_, ?_, ?_, ?_, ?_, ?_, ?_, ?_, ?_, ?_, ?_, ?_, ?_, ?_, ?_, ?_, ?_, ?_, ?_, ?_, ?_, ?_, ?_, ?_, ?_, ?_, ?_, ?_,trivial⟩ ?_
   ·
    intro m d HX hm hp hno hge hg;have hsX:=hg.1;have hrX:=(hsX mr hmB).trans hrB;have hSX:=cW (mr:=mr) hSB hoB hm0 λj hj _=>hsX j hj;exact bH (aG qK qR (hge 33 z7) hrX gZ uR (aS dU jZ)) ⟨d,hg,cU 0 69⟩
   ·
    intro m d HX hm hp hno hge hg;have hsX:=hg.1;have hrX:=(hsX mr hmB).trans hrB;have hSX:=cW (mr:=mr) hSB hoB hm0 λj hj _=>hsX j hj;exact bH (aG qK qR (hge 35 z7) hrX gZ uR (aS dU jZ)) ⟨d,hg,cU 1 70⟩
   ·
    intro m d HX hm hp hno hge hg;have hsX:=hg.1;have hrX:=(hsX mr hmB).trans hrB;have hSX:=cW (mr:=mr) hSB hoB hm0 λj hj _=>hsX j hj;exact bH (aG EN qK qR (hp 0 rfl) (hp 1 rfl) hrX (bD gZ uR dU jZ)) ⟨d,hg,cU 2 71⟩
   ·
    intro m d HX hm hp hno hge hg;have hsX:=hg.1;have hrX:=(hsX mr hmB).trans hrB;have hSX:=cW (mr:=mr) hSB hoB hm0 λj hj _=>hsX j hj;exact bH (aG qK qR (hp 2 rfl) hrX gZ uR (aS dU jZ)) ⟨d,hg,cU 3 72⟩
   ·
    intro m d HX hm hp hno hge hg;have hsX:=hg.1;have hrX:=(hsX mr hmB).trans hrB;have hSX:=cW (mr:=mr) hSB hoB hm0 λj hj _=>hsX j hj;exact bH (aG qK qR (hp 3 rfl) (hge 32 z7) hrX gZ (bR uR dU jZ)) ⟨d,hg,cU 4 73⟩
   ·
    intro m d HX hm hp hno hge hg;have hsX:=hg.1;have hrX:=(hsX mr hmB).trans hrB;have hSX:=cW (mr:=mr) hSB hoB hm0 λj hj _=>hsX j hj;exact bH (aG qK qR (hp 3 rfl) (hge 34 z7) hrX gZ (bR uR dU jZ)) ⟨d,hg,cU 5 74⟩
   ·
    intro m d HX hm hp hno hge hg;have hsX:=hg.1;have hrX:=(hsX mr hmB).trans hrB;have hSX:=cW (mr:=mr) hSB hoB hm0 λj hj _=>hsX j hj;have m3:=hp 3 rfl;have m4:=hp 4 rfl;have m5:=hp 5 rfl;refine oW (aG qK qR m3 m4 m5 hrX (bD gZ uR dU jZ)) aDk ((aAr rs z8 hrn HX)) ?_;rintro _ _ ⟨rfl,rfl⟩;exact oN ⟨d,hg,TH 6 75⟩
   ·
    intro m d HX hm hp hno hge hg;have hsX:=hg.1;have hrX:=(hsX mr hmB).trans hrB;have hSX:=cW (mr:=mr) hSB hoB hm0 λj hj _=>hsX j hj;exact bH (aG qK qR (hp 3 rfl) (hp 6 rfl) hrX gZ (bR uR dU jZ)) ⟨d,hg,cU 7 76⟩
   ·
    intro m d HX hm hp hno hge hg;have hsX:=hg.1;have hrX:=(hsX mr hmB).trans hrB;have hSX:=cW (mr:=mr) hSB hoB hm0 λj hj _=>hsX j hj;exact bH (aG qK qR (hp 3 rfl) (hp 7 rfl) hrX gZ (bR uR dU jZ)) ⟨d,hg,cU 8 77⟩
   ·
    intro m d HX hm hp hno hge hg;have hsX:=hg.1;have hrX:=(hsX mr hmB).trans hrB;have hSX:=cW (mr:=mr) hSB hoB hm0 λj hj _=>hsX j hj;exact bH (aG qK qR (hp 8 rfl) hrX gZ uR (aS dU jZ)) ⟨d,hg,cU 9 78⟩
   ·
    intro m d HX hm hp hno hge hg;have hsX:=hg.1;have hrX:=(hsX mr hmB).trans hrB;have hSX:=cW (mr:=mr) hSB hoB hm0 λj hj _=>hsX j hj;exact bH (aG qK qR (hp 9 rfl) (hge 29 z7) hrX gZ (bR uR dU jZ)) ⟨d,hg,cU 10 79⟩
   ·
    intro m d HX hm hp hno hge hg;have hsX:=hg.1;have hrX:=(hsX mr hmB).trans hrB;have hSX:=cW (mr:=mr) hSB hoB hm0 λj hj _=>hsX j hj;have m9:=hp 9 rfl;have m10:=hp 10 rfl;refine oW (aG qK qR m9 m10 hrX gZ (bR uR dU jZ)) aI2 (UC hSX h8) ?_;rintro r HY ⟨⟨tl,rfl⟩,q1,q2⟩;exact oN ⟨(tl,d.2),⟨λj hj=>(q2 j (by have:=hg.2;omega)).trans (hg.1 j hj),by have:=hg.2;omega⟩,TH 11 80⟩
   ·
    intro m d HX hm hp hno hge hg;have hsX:=hg.1;have hrX:=(hsX mr hmB).trans hrB;have hSX:=cW (mr:=mr) hSB hoB hm0 λj hj _=>hsX j hj;exact bH (aG qK qR (hp 9 rfl) (hge 30 z7) hrX gZ (bR uR dU jZ)) ⟨d,hg,cU 12 81⟩
   ·
    intro m d HX hm hp hno hge hg;have hsX:=hg.1;have hrX:=(hsX mr hmB).trans hrB;have hSX:=cW (mr:=mr) hSB hoB hm0 λj hj _=>hsX j hj;exact bH (aG qK qR (hp 9 rfl) (hp 12 rfl) hrX gZ (bR uR dU jZ)) ⟨d,hg,cU 13 82⟩
   ·
    intro m d HX hm hp hno hge hg;have hsX:=hg.1;have hrX:=(hsX mr hmB).trans hrB;have hSX:=cW (mr:=mr) hSB hoB hm0 λj hj _=>hsX j hj;exact bH (aG sV qK qR (hp 9 rfl) (hp 13 rfl) hrX (bD gZ uR dU jZ)) ⟨d,hg,cU 14 83⟩
   ·
    intro m d HX hm hp hno hge hg;have hsX:=hg.1;have hrX:=(hsX mr hmB).trans hrB;have hSX:=cW (mr:=mr) hSB hoB hm0 λj hj _=>hsX j hj;exact bH (aG lZ jI qK qR (hp 9 rfl) (hp 14 rfl) (bL hrX gZ uR dU jZ)) ⟨d,hg,cU 15 84⟩
   ·
    intro m d HX hm hp hno hge hg;have hsX:=hg.1;have hrX:=(hsX mr hmB).trans hrB;have hSX:=cW (mr:=mr) hSB hoB hm0 λj hj _=>hsX j hj;have m9:=hp 9 rfl;have m11:=hp 11 rfl;have m15:=hp 15 rfl;refine oW (aG qK qR m9 m11 m15 hrX (bD gZ uR dU jZ)) aJ6 ((aJw S2.ms z8 HX)) ?_;rintro _ _ ⟨rfl,rfl⟩;exact oN ⟨d,hg,TH 16 85⟩
   ·
    intro m d HX hm hp hno hge hg;have hsX:=hg.1;have hrX:=(hsX mr hmB).trans hrB;have hSX:=cW (mr:=mr) hSB hoB hm0 λj hj _=>hsX j hj;exact bH (aG qK qR (hp 9 rfl) (hp 16 rfl) hrX gZ (bR uR dU jZ)) ⟨d,hg,cU 17 86⟩
   ·
    intro m d HX hm hp hno hge hg;have hsX:=hg.1;have hrX:=(hsX mr hmB).trans hrB;have hSX:=cW (mr:=mr) hSB hoB hm0 λj hj _=>hsX j hj;exact bH (aG qK qR (hp 9 rfl) (hp 17 rfl) hrX gZ (bR uR dU jZ)) ⟨d,hg,cU 18 87⟩
   ·
    intro m d HX hm hp hno hge hg;have hsX:=hg.1;have hrX:=(hsX mr hmB).trans hrB;have hSX:=cW (mr:=mr) hSB hoB hm0 λj hj _=>hsX j hj;exact bH (aG qK qR (hp 18 rfl) hrX gZ uR (aS dU jZ)) ⟨d,hg,cU 19 88⟩
   ·
    intro m d HX hm hp hno hge hg;have hsX:=hg.1;have hrX:=(hsX mr hmB).trans hrB;have hSX:=cW (mr:=mr) hSB hoB hm0 λj hj _=>hsX j hj;exact bH (aG qK qR (hp 19 rfl) (hge 29 z7) hrX gZ (bR uR dU jZ)) ⟨d,hg,cU 20 89⟩
   ·
    intro m d HX hm hp hno hge hg;have hsX:=hg.1;have hrX:=(hsX mr hmB).trans hrB;have hSX:=cW (mr:=mr) hSB hoB hm0 λj hj _=>hsX j hj;have m19:=hp 19 rfl;have m20:=hp 20 rfl;refine oW (aG qK qR m19 m20 hrX gZ (bR uR dU jZ)) aDs (GK hSX z8) ?_;rintro r HY ⟨⟨tl,rfl⟩,q1,q2⟩;exact oN ⟨(d.1,tl),⟨λj hj=>(q2 j (by have:=hg.2;omega)).trans (hg.1 j hj),by have:=hg.2;omega⟩,TH 21 90⟩
   ·
    intro m d HX hm hp hno hge hg;have hsX:=hg.1;have hrX:=(hsX mr hmB).trans hrB;have hSX:=cW (mr:=mr) hSB hoB hm0 λj hj _=>hsX j hj;exact bH (aG qK qR (hp 19 rfl) (hge 30 z7) hrX gZ (bR uR dU jZ)) ⟨d,hg,cU 22 91⟩
   ·
    intro m d HX hm hp hno hge hg;have hsX:=hg.1;have hrX:=(hsX mr hmB).trans hrB;have hSX:=cW (mr:=mr) hSB hoB hm0 λj hj _=>hsX j hj;exact bH (aG qK qR (hp 19 rfl) (hp 22 rfl) hrX gZ (bR uR dU jZ)) ⟨d,hg,cU 23 92⟩
   ·
    intro m d HX hm hp hno hge hg;have hsX:=hg.1;have hrX:=(hsX mr hmB).trans hrB;have hSX:=cW (mr:=mr) hSB hoB hm0 λj hj _=>hsX j hj;exact bH (aG sV qK qR (hp 19 rfl) (hp 23 rfl) hrX (bD gZ uR dU jZ)) ⟨d,hg,cU 24 93⟩
   ·
    intro m d HX hm hp hno hge hg;have hsX:=hg.1;have hrX:=(hsX mr hmB).trans hrB;have hSX:=cW (mr:=mr) hSB hoB hm0 λj hj _=>hsX j hj;exact bH (aG jH qU qK qR (hp 19 rfl) (hp 24 rfl) (bL hrX gZ uR dU jZ)) ⟨d,hg,cU 25 94⟩
   ·
    intro m d HX hm hp hno hge hg;have hsX:=hg.1;have hrX:=(hsX mr hmB).trans hrB;have hSX:=cW (mr:=mr) hSB hoB hm0 λj hj _=>hsX j hj;have m19:=hp 19 rfl;have m21:=hp 21 rfl;have m25:=hp 25 rfl;refine oW (aG qK qR m19 m21 m25 hrX (bD gZ uR dU jZ)) aJj ((aJ2 S2.ps z8 HX)) ?_;rintro _ _ ⟨rfl,rfl⟩;exact oN ⟨d,hg,TH 26 95⟩
   ·
    intro m d HX hm hp hno hge hg;have hsX:=hg.1;have hrX:=(hsX mr hmB).trans hrB;have hSX:=cW (mr:=mr) hSB hoB hm0 λj hj _=>hsX j hj;exact bH (aG qK qR (hp 19 rfl) (hp 26 rfl) hrX gZ (bR uR dU jZ)) ⟨d,hg,cU 27 96⟩
   ·
    intro m d HX hm hp hno hge hg;have hsX:=hg.1;have hrX:=(hsX mr hmB).trans hrB;have hSX:=cW (mr:=mr) hSB hoB hm0 λj hj _=>hsX j hj;exact bH (aG qK qR (hp 19 rfl) (hp 27 rfl) hrX gZ (bR uR dU jZ)) ⟨d,hg,cU 28 97⟩
   intro d HF hg;obtain⟨hgs,hgl⟩:=hg;have hSF:=cW (mr:=mr) hSB hoB hm0 λj hj _=>hgs j hj;have hMF:=hMB.fr (hgs mr hmB);have hrF:=(hgs mr hmB).trans hrB;have heF:=(hgs q (lG heB)).trans heB;refine eG (F:=gM [(3, .optr sr 0),(4, .optr mr 0),(6, .optr q 0),(97, .bool false),(20, .slice (cs.map Ev.enc) tlc),(21, .int .i64 (cs.length:Int)),(22, .int .i64 (i:Int))]) (cO ⟨rfl,rfl,rfl,rfl,rfl,rfl,rfl,trivial⟩) ?_;refine pJ (aS qK qR) ?_
   repeat refine wS ?_
   refine wK ?_;refine gQ [3,4,6,20,21,22] (aS qK qR) ?_;refine eA 3 (bL y9 qQ qK qR heF) ?_;refine qT (bR qK qR heF) aDx (FM hSF e.name z8 hlv2) ?_;refine bH (bR qK qR heF) ?_
   repeat refine wS ?_
   refine eJ (by kernel_rfl) ?_;refine lY 6 (aG y9 qQ lZ sV jI qK (bR qR hrF heF)) ?_;refine CE (bD qK qR hrF heF) KJ (λhc=>(wQ S2.ms e.name z8 _)) ?_;refine iI (bD qK qR hrF heF) ?_;refine gQ [3,4,12,13,14,20,21,22] (aS qK qR) ?_;refine aV (bR y3 qK qR) ?_;refine gG (aS qK qR) (λb5=> ?_) (λb5=> ?_)
   ·
    have hv:MM S2 e.name=(0,5):=by unfold MM;rw[if_pos (of_decide_eq_true b5)]
    rw[hv];refine aV (cF y3 EN qK qR dU gZ) ?_;refine pJ (bD qK qR dU gZ) ?_
    repeat refine wS ?_
    refine wK ?_;refine aV (bD y3 qK qR gw) ?_
    try simp only[bQ,cB]
    exact⟨(i+1,S2,s2,v1,v2,p2,l2,G2,i2,w1,w2,w3),by show _<_;omega,(by repeat (first|exact trivial|refine⟨rfl, ?_⟩)),hlt,k2,hSF,hMF,hoB⟩
   ·
    have hi0:=of_decide_eq_false b5;obtain⟨k,hk⟩:∃k:Nat,cN (aO e.name) S2.ms=(k:Int):=⟨(cN (aO e.name) S2.ms).toNat,z8⟩;have hkl:k<S2.ms.length:=by have:=rZ (p:=aO e.name) (xs:=S2.ms) z8;omega
    have hv:MM S2 e.name=(S2.vs[k]'z8,0):=by unfold MM;rw[if_neg hi0,hk,tN,aNj,aNi z8];rfl
    rw[hv,hk];have ge:=dF aE (xs:=S2.vs) (i:=k) z8;obtain⟨vk,hvk⟩:∃v,v=S2.vs[k]'z8:=⟨_,rfl⟩;rw[<-hvk]at ge⊢;simp only[aE]at ge;have hf:=aI (show((0:Int)<=(k:Int)/\(k:Int)<(S2.vs.length:Int))=True by simp;omega) ge;refine aV (aG y3 EN lW sV qK qR (bL hrF hf jZ dU gZ)) ?_;refine pJ (bD qK qR dU gZ) ?_
    repeat refine wS ?_
    refine wK ?_;refine gQ [3,4,20,21,22] (aS qK qR) ?_;refine aV (bD y3 qK qR gw) ?_
    try simp only[bQ,cB]
    exact⟨(i+1,S2,s2,v1,v2,p2,l2,G2,i2,w1,w2,w3),by show _<_;omega,(by repeat (first|exact trivial|refine⟨rfl, ?_⟩)),hlt,k2,hSF,hMF,hoB⟩
 ·
  have hge:=of_decide_eq_false bt23
  repeat refine wS ?_
  refine dO ?_;simp only[bQ,cB,reduceIte,Nat.reduceEqDiff,aOf,if_true,if_false];refine aV (aS qK qR) ?_
  repeat refine wS ?_
  refine wT ⟨.inr rfl,_,rfl, ?_⟩;rfl
end Go.Abs
namespace Go.Abs
def env0(W:World):aK:= {w:=W,κ:=λ_=>.fixed,ρ:=λ_=>0,tb:=λ_=>none,H:= []}
theorem VN(W:World)(a:Addr):(env0 W).view.cell a=W.cell? a:=rfl
def RLl(V:cG)(cs:List Value)(ps:List PV):Prop:=cs.length=ps.length/\∀i (h:i<ps.length),aQ V (cs.getD i undef) ps[i]
theorem RLl.nil{V:cG}:RLl V [] []:=⟨rfl,λi h=>by cases h⟩
theorem RLl.cons{V:cG}{c:Value}{cs:List Value}{p:PV}{ps:List PV}(h:aQ V c p)(hs:RLl V cs ps):RLl V (c::cs) (p::ps):=by
 refine⟨by simp[hs.1],λi hi=> ?_⟩;cases i with
 |zero=>exact h
 |succ i=>exact hs.2 i (by simpa using hi)
theorem RLl.app{V:cG}{c1 c2:List Value}{p1 p2:List PV}(h1:RLl V c1 p1)(h2:RLl V c2 p2):RLl V (c1++c2) (p1++p2):=by
 refine⟨by simp[h1.1,h2.1],λi hi=> ?_⟩
 by_cases h:i<p1.length
 ·have:=h1.2 i h;simp only[aNj]at this⊢;rw[aM0 (by rw[h1.1];exact h),List.getElem_append_left h];exact this
 ·have:=h2.2 (i-p1.length) (by simp at hi;omega);simp only[aNj]at this⊢;rw[aM1 (by rw[h1.1];omega),List.getElem_append_right z8,h1.1];exact this
theorem RLl.agg{V:cG}{arr:Array Value}{ps:List PV}(h:RLl V arr.toList ps):aQ V (.agg arr) (.agg ps):=by
 refine .agg _ _ (by have:=h.1;simpa using this) λi hi=> ?_;have:=h.2 i hi;rw[aNj,aNk]at this;rw[aMt];exact this
theorem RLl.one{V:cG}{v:Value}{p:PV}(h:RLl V [v] [p]):aQ V v p:=h.2 0 zz
theorem LE{α:Type}{n:Nat}{p:Nat->α->Prop}(h:∀i,i<n->∃a,p i a):∃xs:List α,xs.length=n/\∀i (hi:i<xs.length),p i xs[i]:=by
 induction n with
 |zero=>exact⟨[],rfl,λi hi=>by cases hi⟩
 |succ n ih=>
  obtain⟨xs,h1,h2⟩:=ih λi hi=>h i z8;obtain⟨a,ha⟩:=h n z8;refine⟨xs++ [a],by simp[h1],λi hi=> ?_⟩
  by_cases hlt:i<xs.length
  ·rw[List.getElem_append_left hlt];exact h2 i hlt
  ·rw[List.getElem_append_right z8];simp at hi;obtain rfl:i=n:=z8
   simpa using ha
def SlD{α:Type}{H:Type}(D:α->DataW H->Prop)(xs:List α)(d:DataW H):Prop:=
 (xs= []/\d= .nil)\/∃els sp,d= .slice els sp/\xs.length=els.length/\∀i (h1:i<xs.length) (h2:i<els.length),D xs[i] els[i]
section
variable{H:Type}{enc:TypeId×Value->H}{P:Program}{W:World}{spare:Nat->Bool}{held:Bool}
theorem rd_slice{α:Type}(en:α->PV)(D:α->DataW H->Prop){t e:TypeId}{fuel:Nat}{cs:List Value}{x:DataW H×List MemPlace}(ht:P.underlying t=some (.slice e))(hsz:∀a,(en a).cells.length=P.cellsOf e)
  (h:DataW.trod enc P W 0 spare held fuel t cs=some x) (ih:∀n cs' x',n<fuel->DataW.trod enc P W 0 spare held n e cs'=some x'->∃a,RLl (env0 W).view cs' (en a).cells/\D a x'.1):
  ∃(xs:List α) (v:Value),cs= [v]/\aQ (env0 W).view v (.slice (xs.map en) .none)/\SlD D xs x.1:=by
 rcases DataW.trod_slice ht h with⟨rfl,rfl⟩| ⟨a,len,cap,elems,rest,n,rfl,rfl,rfl,hb,hl,hm,hlen,hel,_,_⟩
 ·exact⟨[],_,rfl, .nils .none trivial, .inl ⟨rfl,rfl⟩⟩
 ·obtain⟨ys,hys,hp⟩:=LE (α:=α×List Value) (n:=len) (p:=λi y=>W.cells? 0 (a.add (i*P.cellsOf e)) (P.cellsOf e)=some y.2/\RLl (env0 W).view y.2 (en y.1).cells/\∀h:i<elems.length,D y.1 elems[i].1) (λi hi=>by
   have:=hel i hi;rw[aNi z8]at this;obtain⟨cs',h1,h2⟩:=oB this;obtain⟨y,h3,h4⟩:=ih n cs' _ z8 h2;exact⟨(y,cs'),h1,h3,λ_=>h4⟩)
  refine⟨ys.map (·.1),_,rfl, ?_, .inr ⟨_,_,rfl,by simp[hys,hlen],λi h1 h2=> ?_⟩⟩
  ·have hget:∀i (hi:i<ys.length),ys[i]? =some ys[i]:=λi hi=>aNi hi;refine .slice a len cap (P.cellsOf e) _ .none (λi j=>match ys[i]? with|some y=>y.2.getD j undef|none=>undef) (by simp[hys]) hl hm ?_ ?_ ?_ trivial
   ·intro i hi;simp only[aMm];exact hsz _
   ·intro i j hi hj;have hi':i<ys.length:=z8
    obtain⟨h1,h2,_⟩:=hp i hi';obtain⟨_,h4,h5⟩:=World.cells?_some h1;have:=h5 j hj;rw[hget i hi'];simp only;rw[VN,<-AK,this,aNj,aNi z8];rfl
   ·intro i j hi hj;have hi':i<ys.length:=by simpa using hi
    simp only[aMm]at hj⊢;rw[hget i hi'];exact(hp i hi').2.1.2 j hj
  ·simp only[aMm];exact(hp i (by simpa using h1)).2.2 _
theorem uL{t:TypeId}{fs:Array Field}{fuel:Nat}{cs:List Value}{x:DataW H×List MemPlace}(ht:P.underlying t=some (.struct fs))(h:DataW.trod enc P W 0 spare held fuel t cs=some x):
  ∃(ds:List (DataW H)) (n:Nat),fuel=n+1/\x.1= .agg ds/\cs.length=P.cellsOf t/\ds.length=fs.size/\∀(i:Nat) (f:Field),fs[i]? =some f->∃d ps,ds[i]? =some d/\DataW.trod enc P W 0 spare held n f.type ((cs.drop f.offset).take (P.cellsOf f.type))=some (d,ps):=by
 obtain⟨xs,n,h1,rfl,h3,h4,h5⟩:=DataW.trod_struct ht h;refine⟨xs.map (·.1),n,h1,rfl,h3,by simpa using h4,λi f hf=> ?_⟩;have hi:i<xs.length:=by
  rw[h4];rcases aMo i fs.size with hl|hl
  ·exact hl
  ·rw[aMp hl]at hf;cases hf
 have:=h5 i f hf;rw[aNi hi]at this;exact⟨xs[i].1,xs[i].2,by simp[hi],this⟩
theorem rd_int{t:TypeId}{k:IntKind}{fuel:Nat}{cs:List Value}{x:DataW H×List MemPlace}(ht:P.underlying t=some (.int k))(h:DataW.trod enc P W 0 spare held fuel t cs=some x):∃n,RLl (env0 W).view cs [.int k n]/\x.1= .lit (.int k n)/\(Lit.int k n).wf=true/\cs= [.int k n]:=by
 obtain⟨n,rfl,rfl,h3⟩:=DataW.trod_int ht h;exact⟨n, .cons (.int _ _) .nil,rfl,h3,rfl⟩
theorem rd_string{t:TypeId}{fuel:Nat}{cs:List Value}{x:DataW H×List MemPlace}(ht:P.underlying t=some .string)(h:DataW.trod enc P W 0 spare held fuel t cs=some x):∃s:List UInt8,RLl (env0 W).view cs [.str s]/\x.1= .lit (.string s)/\s.length<=maxLen:=by
 obtain⟨s,rfl,rfl,h3⟩:=DataW.trod_string ht h;exact⟨s.data.toList, .cons (.str _) .nil,rfl,by simpa using h3⟩
end
inductive TyD{H:Type}:Ty->DataW H->Prop
 |nil (k i:Int):TyD (.mk k i []) (.agg [.lit (.int .i64 k), .lit (.int .i64 i), .nil])
 |slice (k i:Int) (xs:List Ty) (es sp:List (DataW H)) (hl:xs.length=es.length) (h:∀j (h1:j<xs.length) (h2:j<es.length),TyD xs[j] es[j]):TyD (.mk k i xs) (.agg [.lit (.int .i64 k), .lit (.int .i64 i), .slice es sp])
theorem TyD.of{H:Type}{k i:Int}{xs:List Ty}{d:DataW H}(h:SlD TyD xs d):TyD (.mk k i xs) (.agg [.lit (.int .i64 k), .lit (.int .i64 i),d]):=by
 rcases h with⟨rfl,rfl⟩| ⟨es,sp,rfl,h1,h2⟩
 ·exact .nil k i
 ·exact .slice k i xs es sp h1 h2
structure aKm(P:Program)(T S:TypeId):Prop where
 st:∃f0 f1 f2:Field,P.underlying T=some (.struct #[f0,f1,f2])/\P.underlying f0.type=some (.int .i64)/\P.underlying f1.type=some (.int .i64)/\f2.type=S/\f0.offset=0/\f1.offset=1/\f2.offset=2/\P.cellsOf f0.type=1/\P.cellsOf f1.type=1
 sl:P.underlying S=some (.slice T)
 c:P.cellsOf T=3
 cs:P.cellsOf S=1
 by40:P.bytesOf T=40
section
variable{H:Type}{enc:TypeId×Value->H}{P:Program}{W:World}{spare:Nat->Bool}{held:Bool}{T S:TypeId}
theorem rd_ty(F:aKm P T S):∀(fuel:Nat) (cs:List Value) (x:DataW H×List MemPlace),DataW.trod enc P W 0 spare held fuel T cs=some x->∃t:Ty,RLl (env0 W).view cs t.enc.cells/\TyD t x.1:=by
 intro fuel
 induction fuel using Nat.strongRecOn with
 |_ fuel ih=>
 intro cs x h;obtain⟨f0,f1,f2,hst,u0,u1,e2,o0,o1,o2,c0,c1⟩:=F.st;obtain⟨ds,n,rfl,hx,hlen,hdl,hf⟩:=uL hst h;rw[F.c]at hlen
 match cs,hlen with
 | [v0,v1,v2],_=>
 obtain⟨d0,p0,g0,r0⟩:=hf 0 f0 rfl;obtain⟨d1,p1,g1,r1⟩:=hf 1 f1 rfl;obtain⟨d2,p2,g2,r2⟩:=hf 2 f2 rfl;rw[o0,c0]at r0;rw[o1,c1]at r1;rw[o2,e2,F.cs]at r2;obtain⟨k,q0,rfl,w0,_⟩:=rd_int u0 r0;obtain⟨i,q1,rfl,w1,_⟩:=rd_int u1 r1;obtain⟨xs,v,hv,hr,hd⟩:=rd_slice Ty.enc TyD F.sl (λa=>by rw[F.c,Ty.enc_len]) r2 (λm cs' x' hm h'=>ih m z8 cs' x' h');simp only[List.drop_succ_cons,aOh,List.take_succ_cons,List.take_zero,List.cons.injEq,and_true]at hv;subst hv;refine⟨.mk k i xs, ?_, ?_⟩
 ·rw[Ty.enc_cells];exact .cons q0.one (.cons q1.one (.cons hr .nil))
 ·rw[hx];have:ds= [.lit (.int .i64 k), .lit (.int .i64 i),d2]:=by
   match ds,hdl with
   | [a,b,c],_=>
    simp at g0 g1 g2;rw[g0,g1,g2]
  rw[this];exact .of hd
theorem LB{l:List (DataW H)}{e:TypeId}{d:DataW H}(hd:d∈l)(h:(DataW.weightsAll P e l).all (· <=reachBytes)=true):(d.weights P e).all (· <=reachBytes)=true:=by
 rw[aNz]at h⊢;intro x hx;refine h x ?_;clear h
 induction l with
 |nil=>cases hd
 |cons a l ih=>
  simp only[DataW.weightsAll,aN0];rcases aN2.1 hd with rfl|hd
  ·exact .inl hx
  ·exact .inr (ih hd)
theorem sl_weights{α:Type}{D:α->DataW H->Prop}{Sl E:TypeId}(hs:P.underlying Sl=some (.slice E)){xs:List α}{d:DataW H}(h:SlD D xs d)(hw:(d.weights P Sl).all (· <=reachBytes)=true):
  xs.length*P.bytesOf E<=reachBytes/\∀a∈xs,∃d',D a d'/\(d'.weights P E).all (· <=reachBytes)=true:=by
 rcases h with⟨rfl,rfl⟩| ⟨els,sp,rfl,h1,h2⟩
 ·simp
 ·simp only[DataW.weights,hs,aMi,List.all_append,aMj,decide_eq_true_eq]at hw;refine⟨?_,λa ha=> ?_⟩
  ·rw[h1];refine aMr (aNp _ (Nat.le_add_right _ _)) hw.1
  ·obtain⟨j,hj,rfl⟩:=List.mem_iff_getElem.1 ha;exact⟨_,h2 j hj z8,LB (aNq _) hw.2.1⟩
end
theorem RLl.rl{V:cG}{arr:Array Value}{ps:List PV}(h:RLl V arr.toList ps):RL V arr ps:=by
 refine⟨by have:=h.1;simpa using this,λi hi=> ?_⟩;have:=h.2 i hi;rw[aNj,aNk]at this;rw[aMt];exact this
def Agr(s:MSt)(xs:List Ty):Prop:=∀i,s.2.getD i false=true->xs.getD i .zero=s.1.getD i .zero
def MLe(s s':MSt):Prop:=∀i,s.2.getD i false=true->s'.2.getD i false=true/\s'.1.getD i .zero=s.1.getD i .zero
theorem MLe.refl(s:MSt):MLe s s:=λi h=>⟨h,rfl⟩
theorem MLe.trans{a b c:MSt}(h:MLe a b)(k:MLe b c):MLe a c:=λi hi=>⟨(k i (h i hi).1).1,(k i (h i hi).1).2.trans (h i hi).2⟩
theorem Agr.mono{s s':MSt}{xs:List Ty}(h:MLe s s')(k:Agr s' xs):Agr s xs:=λi hi=>(k i (h i hi).1).trans (h i hi).2
structure MRt(ps:List Int)(xs:List Ty)(s:MSt):Prop where
 agr:Agr s xs
 zero:∀i,s.2.getD i false=false->s.1.getD i .zero= .zero
structure Bd where
 v:Int
 t:Ty
def Bd.enc(b:Bd):PV:=.agg [.int .i64 b.v, .int .i64 b.t.kind, .int .i64 b.t.id, .slice (b.t.args.map Ty.enc) .none]
theorem Bd.enc_len(b:Bd):b.enc.cells.length=4:=rfl
theorem Bd.bel(n:Nat)(b:Bd):bF n b.enc:=.agg _ (by
 intro c hc;simp at hc;rcases hc with rfl|rfl|rfl|rfl
 ·exact .int _ _
 ·exact .int _ _
 ·exact .int _ _
 ·exact HI _ _)
structure aMa(P:Program)(B T:TypeId):Prop where
 st:∃f0 f1:Field,P.underlying B=some (.struct #[f0,f1])/\P.underlying f0.type=some (.int .i64)/\f1.type=T/\f0.offset=0/\f1.offset=1/\P.cellsOf f0.type=1
 c:P.cellsOf B=4
section
variable{H:Type}{enc:TypeId×Value->H}{P:Program}{W:World}{spare:Nat->Bool}{held:Bool}{B T S:TypeId}
end
open Go.Proofs
def RqD{H:Type}(t:Rq)(d:DataW H):Prop:=d= .agg [.lit (.int .i64 t.cl), .lit (.int .i64 t.id), .lit (.int .i64 t.q), .lit (.int .i64 t.arg), .lit (.string t.name)]/\t.name.length<=maxLen
section
variable{H:Type}{enc:TypeId×Value->H}{W:World}{spare:Nat->Bool}{held:Bool}
theorem aHv(fuel:Nat)(cs:List Value)(x:DataW H×List MemPlace)(h:DataW.trod enc Tryz.prog W 0 spare held fuel 32 cs=some x):∃t:Rq,RLl (env0 W).view cs t.enc.cells/\RqD t x.1:=by
 obtain⟨ds,n,rfl,hx,hlen,hdl,hf⟩:=uL Tryz.underlying32 h;rw[show Tryz.prog.cellsOf 32=5 from by kernel_rfl]at hlen
 match cs,hlen with
 | [v0,v1,v2,v3,v4],_=>
 obtain⟨d0,p0,g0,r0⟩:=hf 0 _ rfl;have r0:DataW.trod enc Tryz.prog W 0 spare held n 3 [v0]=some (d0,p0):=by
  have e:Tryz.prog.cellsOf 3=1:=by kernel_rfl
  have r0:DataW.trod enc Tryz.prog W 0 spare held n 3 (List.take (Tryz.prog.cellsOf 3) (List.drop 0 [v0,v1,v2,v3,v4]))=some (d0,p0):=r0;rw[e]at r0;exact r0
 obtain⟨a0,q0,rfl,_,_⟩:=rd_int Tryz.underlying3 r0;obtain⟨d1,p1,g1,r1⟩:=hf 1 _ rfl;have r1:DataW.trod enc Tryz.prog W 0 spare held n 3 [v1]=some (d1,p1):=by
  have e:Tryz.prog.cellsOf 3=1:=by kernel_rfl
  have r1:DataW.trod enc Tryz.prog W 0 spare held n 3 (List.take (Tryz.prog.cellsOf 3) (List.drop 1 [v0,v1,v2,v3,v4]))=some (d1,p1):=r1;rw[e]at r1;exact r1
 obtain⟨a1,q1,rfl,_,_⟩:=rd_int Tryz.underlying3 r1;obtain⟨d2,p2,g2,r2⟩:=hf 2 _ rfl;have r2:DataW.trod enc Tryz.prog W 0 spare held n 3 [v2]=some (d2,p2):=by
  have e:Tryz.prog.cellsOf 3=1:=by kernel_rfl
  have r2:DataW.trod enc Tryz.prog W 0 spare held n 3 (List.take (Tryz.prog.cellsOf 3) (List.drop 2 [v0,v1,v2,v3,v4]))=some (d2,p2):=r2;rw[e]at r2;exact r2
 obtain⟨a2,q2,rfl,_,_⟩:=rd_int Tryz.underlying3 r2;obtain⟨d3,p3,g3,r3⟩:=hf 3 _ rfl;have r3:DataW.trod enc Tryz.prog W 0 spare held n 3 [v3]=some (d3,p3):=by
  have e:Tryz.prog.cellsOf 3=1:=by kernel_rfl
  have r3:DataW.trod enc Tryz.prog W 0 spare held n 3 (List.take (Tryz.prog.cellsOf 3) (List.drop 3 [v0,v1,v2,v3,v4]))=some (d3,p3):=r3;rw[e]at r3;exact r3
 obtain⟨a3,q3,rfl,_,_⟩:=rd_int Tryz.underlying3 r3;obtain⟨d4,p4,g4,r4⟩:=hf 4 _ rfl;have r4:DataW.trod enc Tryz.prog W 0 spare held n 9 [v4]=some (d4,p4):=by
  have e:Tryz.prog.cellsOf 9=1:=by kernel_rfl
  have r4:DataW.trod enc Tryz.prog W 0 spare held n 9 (List.take (Tryz.prog.cellsOf 9) (List.drop 4 [v0,v1,v2,v3,v4]))=some (d4,p4):=r4;rw[e]at r4;exact r4
 obtain⟨a4,q4,rfl,l4⟩:=rd_string Tryz.underlying9 r4;refine⟨Rq.mk a0 a1 a2 a3 a4, ?_, ?_⟩
 ·rw[Rq.enc_cells];exact(RLl.app q0 (RLl.app q1 (RLl.app q2 (RLl.app q3 q4))))
 ·rw[hx];have e:ds= [.lit (.int .i64 a0), .lit (.int .i64 a1), .lit (.int .i64 a2), .lit (.int .i64 a3), .lit (.string a4)]:=by
   match ds,hdl with
   | [e0,e1,e2,e3,e4],_=>
    simp at g0 g1 g2 g3 g4;rw[g0,g1,g2,g3,g4]
  rw[e];exact⟨rfl,l4⟩
theorem PY{t:Rq}{d:DataW H}(h:RqD t d)(hw:(d.weights Tryz.prog 32).all (· <=reachBytes)=true):t.W:=by
 have hb:reachBytes=140737488351232:=rfl;have hfl:∀(c:DataW H),True:=λ_=>trivial;obtain⟨rfl,k4⟩:=h;simp only[DataW.weights,Tryz.underlying32,DataW.weightsEach,aNl,aOb,aN7,aN9,List.all_append,aMi,List.all_nil,aMj,Bool.and_true,decide_eq_true_eq]at hw;have s4:=hw;unfold Rq.W;exact(by have:=s4;simp only[hb]at this;omega)
end
def TeD{H:Type}(t:Te)(d:DataW H):Prop:=d= .agg [.lit (.int .i64 t.st), .lit (.int .i64 t.en), .lit (.string t.text)]/\t.text.length<=maxLen
section
variable{H:Type}{enc:TypeId×Value->H}{W:World}{spare:Nat->Bool}{held:Bool}
theorem aJh(fuel:Nat)(cs:List Value)(x:DataW H×List MemPlace)(h:DataW.trod enc Tryz.prog W 0 spare held fuel 102 cs=some x):∃t:Te,RLl (env0 W).view cs t.enc.cells/\TeD t x.1:=by
 obtain⟨ds,n,rfl,hx,hlen,hdl,hf⟩:=uL Tryz.underlying102 h;rw[show Tryz.prog.cellsOf 102=3 from by kernel_rfl]at hlen
 match cs,hlen with
 | [v0,v1,v2],_=>
 obtain⟨d0,p0,g0,r0⟩:=hf 0 _ rfl;have r0:DataW.trod enc Tryz.prog W 0 spare held n 3 [v0]=some (d0,p0):=by
  have e:Tryz.prog.cellsOf 3=1:=by kernel_rfl
  have r0:DataW.trod enc Tryz.prog W 0 spare held n 3 (List.take (Tryz.prog.cellsOf 3) (List.drop 0 [v0,v1,v2]))=some (d0,p0):=r0;rw[e]at r0;exact r0
 obtain⟨a0,q0,rfl,_,_⟩:=rd_int Tryz.underlying3 r0;obtain⟨d1,p1,g1,r1⟩:=hf 1 _ rfl;have r1:DataW.trod enc Tryz.prog W 0 spare held n 3 [v1]=some (d1,p1):=by
  have e:Tryz.prog.cellsOf 3=1:=by kernel_rfl
  have r1:DataW.trod enc Tryz.prog W 0 spare held n 3 (List.take (Tryz.prog.cellsOf 3) (List.drop 1 [v0,v1,v2]))=some (d1,p1):=r1;rw[e]at r1;exact r1
 obtain⟨a1,q1,rfl,_,_⟩:=rd_int Tryz.underlying3 r1;obtain⟨d2,p2,g2,r2⟩:=hf 2 _ rfl;have r2:DataW.trod enc Tryz.prog W 0 spare held n 9 [v2]=some (d2,p2):=by
  have e:Tryz.prog.cellsOf 9=1:=by kernel_rfl
  have r2:DataW.trod enc Tryz.prog W 0 spare held n 9 (List.take (Tryz.prog.cellsOf 9) (List.drop 2 [v0,v1,v2]))=some (d2,p2):=r2;rw[e]at r2;exact r2
 obtain⟨a2,q2,rfl,l2⟩:=rd_string Tryz.underlying9 r2;refine⟨Te.mk a0 a1 a2, ?_, ?_⟩
 ·rw[Te.enc_cells];exact(RLl.app q0 (RLl.app q1 q2))
 ·rw[hx];have e:ds= [.lit (.int .i64 a0), .lit (.int .i64 a1), .lit (.string a2)]:=by
   match ds,hdl with
   | [e0,e1,e2],_=>
    simp at g0 g1 g2;rw[g0,g1,g2]
  rw[e];exact⟨rfl,l2⟩
theorem PZ{t:Te}{d:DataW H}(h:TeD t d)(hw:(d.weights Tryz.prog 102).all (· <=reachBytes)=true):t.W:=by
 have hb:reachBytes=140737488351232:=rfl;have hfl:∀(c:DataW H),True:=λ_=>trivial;obtain⟨rfl,k2⟩:=h;simp only[DataW.weights,Tryz.underlying102,DataW.weightsEach,aNl,aOb,aN7,aN9,List.all_append,aMi,List.all_nil,aMj,Bool.and_true,decide_eq_true_eq]at hw;have s2:=hw;unfold Te.W;exact(by have:=s2;simp only[hb]at this;omega)
end
def EvD{H:Type}(t:Ev)(d:DataW H):Prop:=∃d5 d6,d= .agg [.lit (.int .i64 t.kind), .lit (.int .i64 t.n), .lit (.int .i64 t.ver), .lit (.string t.name), .lit (.string t.text),d5,d6]/\t.name.length<=maxLen/\t.text.length<=maxLen/\SlD TeD t.edits d5/\RqD t.req d6/\(Lit.int IntKind.i64 t.n).wf=true
section
variable{H:Type}{enc:TypeId×Value->H}{W:World}{spare:Nat->Bool}{held:Bool}
theorem rd_Ev(fuel:Nat)(cs:List Value)(x:DataW H×List MemPlace)(h:DataW.trod enc Tryz.prog W 0 spare held fuel 34 cs=some x):∃t:Ev,RLl (env0 W).view cs t.enc.cells/\EvD t x.1:=by
 obtain⟨ds,n,rfl,hx,hlen,hdl,hf⟩:=uL Tryz.underlying34 h;rw[show Tryz.prog.cellsOf 34=11 from by kernel_rfl]at hlen
 match cs,hlen with
 | [v0,v1,v2,v3,v4,v5,v6,v7,v8,v9,v10],_=>
 obtain⟨d0,p0,g0,r0⟩:=hf 0 _ rfl;have r0:DataW.trod enc Tryz.prog W 0 spare held n 3 [v0]=some (d0,p0):=by
  have e:Tryz.prog.cellsOf 3=1:=by kernel_rfl
  have r0:DataW.trod enc Tryz.prog W 0 spare held n 3 (List.take (Tryz.prog.cellsOf 3) (List.drop 0 [v0,v1,v2,v3,v4,v5,v6,v7,v8,v9,v10]))=some (d0,p0):=r0;rw[e]at r0;exact r0
 obtain⟨a0,q0,rfl,_,_⟩:=rd_int Tryz.underlying3 r0;obtain⟨d1,p1,g1,r1⟩:=hf 1 _ rfl;have r1:DataW.trod enc Tryz.prog W 0 spare held n 3 [v1]=some (d1,p1):=by
  have e:Tryz.prog.cellsOf 3=1:=by kernel_rfl
  have r1:DataW.trod enc Tryz.prog W 0 spare held n 3 (List.take (Tryz.prog.cellsOf 3) (List.drop 1 [v0,v1,v2,v3,v4,v5,v6,v7,v8,v9,v10]))=some (d1,p1):=r1;rw[e]at r1;exact r1
 obtain⟨a1,q1,rfl,w1,_⟩:=rd_int Tryz.underlying3 r1;obtain⟨d2,p2,g2,r2⟩:=hf 2 _ rfl;have r2:DataW.trod enc Tryz.prog W 0 spare held n 3 [v2]=some (d2,p2):=by
  have e:Tryz.prog.cellsOf 3=1:=by kernel_rfl
  have r2:DataW.trod enc Tryz.prog W 0 spare held n 3 (List.take (Tryz.prog.cellsOf 3) (List.drop 2 [v0,v1,v2,v3,v4,v5,v6,v7,v8,v9,v10]))=some (d2,p2):=r2;rw[e]at r2;exact r2
 obtain⟨a2,q2,rfl,_,_⟩:=rd_int Tryz.underlying3 r2;obtain⟨d3,p3,g3,r3⟩:=hf 3 _ rfl;have r3:DataW.trod enc Tryz.prog W 0 spare held n 9 [v3]=some (d3,p3):=by
  have e:Tryz.prog.cellsOf 9=1:=by kernel_rfl
  have r3:DataW.trod enc Tryz.prog W 0 spare held n 9 (List.take (Tryz.prog.cellsOf 9) (List.drop 3 [v0,v1,v2,v3,v4,v5,v6,v7,v8,v9,v10]))=some (d3,p3):=r3;rw[e]at r3;exact r3
 obtain⟨a3,q3,rfl,l3⟩:=rd_string Tryz.underlying9 r3;obtain⟨d4,p4,g4,r4⟩:=hf 4 _ rfl;have r4:DataW.trod enc Tryz.prog W 0 spare held n 9 [v4]=some (d4,p4):=by
  have e:Tryz.prog.cellsOf 9=1:=by kernel_rfl
  have r4:DataW.trod enc Tryz.prog W 0 spare held n 9 (List.take (Tryz.prog.cellsOf 9) (List.drop 4 [v0,v1,v2,v3,v4,v5,v6,v7,v8,v9,v10]))=some (d4,p4):=r4;rw[e]at r4;exact r4
 obtain⟨a4,q4,rfl,l4⟩:=rd_string Tryz.underlying9 r4;obtain⟨d5,p5,g5,r5⟩:=hf 5 _ rfl;have r5:DataW.trod enc Tryz.prog W 0 spare held n 30 [v5]=some (d5,p5):=by
  have e:Tryz.prog.cellsOf 30=1:=by kernel_rfl
  have r5:DataW.trod enc Tryz.prog W 0 spare held n 30 (List.take (Tryz.prog.cellsOf 30) (List.drop 5 [v0,v1,v2,v3,v4,v5,v6,v7,v8,v9,v10]))=some (d5,p5):=r5;rw[e]at r5;exact r5
 obtain⟨a5,w5,hv5,hr5,hd5⟩:=rd_slice Te.enc TeD Tryz.underlying30 (by intro a;rw[Te.enc_len];kernel_rfl) r5 (λm cs' x' hm h'=>aJh m cs' x' h');obtain rfl:v5=w5:=by simpa using hv5
 have q5:RLl (env0 W).view [v5] [_]:=.cons hr5 .nil;obtain⟨d6,p6,g6,r6⟩:=hf 6 _ rfl;have r6:DataW.trod enc Tryz.prog W 0 spare held n 32 [v6,v7,v8,v9,v10]=some (d6,p6):=by
  have e:Tryz.prog.cellsOf 32=5:=by kernel_rfl
  have r6:DataW.trod enc Tryz.prog W 0 spare held n 32 (List.take (Tryz.prog.cellsOf 32) (List.drop 6 [v0,v1,v2,v3,v4,v5,v6,v7,v8,v9,v10]))=some (d6,p6):=r6;rw[e]at r6;exact r6
 obtain⟨a6,q6,hd6⟩:=aHv _ _ _ r6;rw[Rq.enc_cells]at q6;refine⟨Ev.mk a0 a1 a2 a3 a4 a5 a6, ?_, ?_⟩
 ·rw[Ev.enc_cells];exact(RLl.app q0 (RLl.app q1 (RLl.app q2 (RLl.app q3 (RLl.app q4 (RLl.app q5 q6))))))
 ·rw[hx];have e:ds= [.lit (.int .i64 a0), .lit (.int .i64 a1), .lit (.int .i64 a2), .lit (.string a3), .lit (.string a4),d5,d6]:=by
   match ds,hdl with
   | [e0,e1,e2,e3,e4,e5,e6],_=>
    simp at g0 g1 g2 g3 g4 g5 g6;rw[g0,g1,g2,g3,g4,g5,g6]
  rw[e];exact⟨_,_,rfl,l3,l4,hd5,hd6,w1⟩
theorem PO{t:Ev}{d:DataW H}(h:EvD t d)(hw:(d.weights Tryz.prog 34).all (· <=reachBytes)=true):t.W:=by
 have hb:reachBytes=140737488351232:=rfl;have hfl:∀(c:DataW H),True:=λ_=>trivial;obtain⟨d5,d6,rfl,k3,k4,k5,k6,_⟩:=h;simp only[DataW.weights,Tryz.underlying34,DataW.weightsEach,aNl,aOb,aN7,aN9,List.all_append,aMi,List.all_nil,aMj,Bool.and_true,decide_eq_true_eq]at hw;obtain⟨s3,s4,z5,z6⟩:=hw;have m5:=sl_weights Tryz.underlying30 k5 z5;exact⟨(by have:=s3;simp only[hb]at this;omega),(by have:=s4;simp only[hb]at this;omega),(by
   have e:Tryz.prog.bytesOf 102=32:=by kernel_rfl
   have:=m5.1;rw[e]at this;omega),(λu hu=>by
   obtain⟨e,h1,h2⟩:=m5.2 u hu;exact PZ h1 h2),(PY k6 z6)⟩
end
theorem evOk_rd{H:Type}{t:Ev}{d:DataW H}(h:EvD t d)(hw:(d.weights Tryz.prog 34).all (· <=reachBytes)=true):evOk t:=by
 have hW:=PO h hw;have em:maxLen=9223372036854775807:=z7
 obtain⟨d5,d6,rfl,k3,k4,k5,k6,k7⟩:=h;obtain⟨w1,w2,w3,w4,w5⟩:=hW;refine⟨?_,k3,z8,λx hx=>w4 x hx⟩;have:IntKind.i64.max=9223372036854775807:=z7
 simp[Lit.wf]at k7;omega
def aBi(W:World)(G:aH):aK:= {w:=W,κ:=λ_=>.fixed,ρ:=λ_=>0,tb:=λ_=>none,H:=G}
theorem aCs{W:World}{G:aH}(hG:∀o∈G,∃b vs,o=AObj.glob b vs)(hW:∀b vs,AObj.glob b vs∈G->∀i (h:i<vs.length),W.cell? ⟨b,i,none⟩=some vs[i]):(aBi W G).Ok:=by
 have hk:∀id o,(aBi W G).H[id]? =some o->∃b vs,o=AObj.glob b vs:=λid o h=>hG o (List.mem_of_getElem? h);constructor
 ·intro id cs h;obtain⟨b,vs,e⟩:=hk _ _ h;cases e
 ·intro id n sz b h;obtain⟨b,vs,e⟩:=hk _ _ h;cases e
 ·intro id id' cs cs' h;obtain⟨b,vs,e⟩:=hk _ _ h;cases e
 ·intro id id' n sz n' sz' b h;obtain⟨b,vs,e⟩:=hk _ _ h;cases e
 ·intro id b vs h i hi;exact hW b vs (List.mem_of_getElem? h) i hi
 ·exact⟨λid k h=>(by obtain⟨b,vs,e⟩:=hk _ _ h;cases e),λid id' k k' h=>(by obtain⟨b,vs,e⟩:=hk _ _ h;cases e)⟩
theorem UR(W:World)(G:aH):(env0 W).view.le (aBi W G).view:=by
 have hb:∀id,¬(env0 W).view.born id:=by
  rintro id ⟨o,h,_⟩;simp[env0]at h
 exact⟨λa v h=>h,λid h=>absurd h (hb id),λid h=>absurd h (hb id),λid t h=>absurd h (hb id)⟩
theorem calls_of_ga{P:Program}{f:FuncId}{args:List PV}{b:Bool}{G:aH}(h:aR P f args G λr _=>r= .bool b)(W:World)(hG:∀o∈G,∃b vs,o=AObj.glob b vs)(hW:∀b vs,AObj.glob b vs∈G->∀i (h:i<vs.length),W.cell? ⟨b,i,none⟩=some vs[i])
  (vargs:Array Value) (hr:RL (env0 W).view vargs args):Calls P f vargs W λe w'=>e= .returned (.bool b)/\Go.RowKit.Below W.heap.size W w':=by
 refine(h (aBi W G) vargs (aCs hG hW) rfl (hr.mono (UR W G))).mono ?_;rintro e w' ⟨E',v,r,rfl,rfl,hle,hok,hv,rfl⟩;refine⟨by rw[hv.bool_inv],hle.os,hle.tape,hle.output,hle.size,λk hk=>(hle.other k hk ?_).2⟩;rintro(⟨id,cs,h,_⟩| ⟨id,n,sz,h,_⟩| ⟨id,k,h,_⟩)<;>(obtain⟨b,vs,e⟩:=hG _ (List.mem_of_getElem? h);cases e)
theorem laid_ints{H:Type}{enc:TypeId×Value->H}{P:Program}{w:World}{sp:Nat->Bool}{held:Bool}{t e:TypeId}{n f:Nat}{k:IntKind}{cs:List Value}{ds:List (DataW H)}{q:List MemPlace}
  (ht:P.underlying t=some (.array n e)) (he:P.underlying e=some (.int k)) (hc:P.cellsOf e=1) (h:DataW.trod enc P w 0 sp held f t cs=some (.agg ds,q)):
  ∀i,i<n->∃v,ds[i]? =some (.lit (.int k v))/\cs[i]? =some (.int k v):=by
 intro i hi;obtain⟨xs,m,rfl,hx,hlen,hn,hel⟩:=DataW.trod_array ht h;have h1:=hel i hi;rw[hc,Nat.mul_one]at h1;rw[aNi z8]at h1;obtain⟨v,e1,e2,_⟩:=DataW.trod_int he h1;simp only[Prod.mk.injEq,DataW.agg.injEq]at hx;refine⟨v, ?_, ?_⟩
 ·rw[hx.1,aNg,aNi z8];simp[e2]
 ·have:(cs.drop i).head? =some (.int k v):=by
   cases hd:cs.drop i with
   |nil=>rw[hd]at e1;cases e1
   |cons a l=>rw[hd]at e1;simp at e1;rw[e1];rfl
  rw[List.head?_drop]at this;exact this
end Go.Abs
