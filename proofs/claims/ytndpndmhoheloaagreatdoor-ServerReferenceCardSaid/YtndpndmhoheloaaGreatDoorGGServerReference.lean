/- Part 8 of a proof of the law ServerReference: Go data as trees, the walks of the functions that the law reaches, the plain laws. -/
import Derived.Test.YtndpndmhoheloaaGreatDoorGFServerReference
open List renaming all_eq_true->aNz,append_assoc->aOe,append_nil->aN9,cons_append->aMl,drop_eq_getElem_cons->aOi,getD_eq_getElem?_getD->aNj,getElem?_append_left->aM0,getElem?_eq_getElem->aNi,getElem?_eq_none->aM2,getElem?_set_ne->aM5,getElem?_set_self->aM4,getElem_cons_zero->aMn,getElem_mem->aNq,length_append->aNo,length_cons->aM7,length_drop->aNd,length_map->aMw,length_nil->aOa,map_append->aN3,map_cons->aNl,mem_cons->aN2,mem_map->aNy,nil_append->aN7,take_length->aOj
open Go.Sem renaming run_bind->aM9,run_pure->aNc
open Nat renaming add_zero->aNm,le_refl->aMq,le_trans->aMr,lt_of_lt_of_le->aMs,succ_ne_self->aOf,zero_add->aNn,zero_le->aNs
open Go.Result renaming andThen_ok->aNa
open Array renaming getD_eq_getD_getElem?->aMt
open Option renaming bind_some->aM3
set_option linter.unusedSectionVars false
set_option linter.unnecessarySimpa false
set_option linter.unusedVariables false
set_option linter.unusedSimpArgs false
set_option maxRecDepth 4000
set_option maxHeartbeats 1000000
namespace Go.Abs
open Go.Proofs Go.Memo
theorem ZK{H:aH}{i:Nat}{o:AObj}(h:H[i]? =some o):H.set i o=H:=by
 apply List.ext_getElem?;intro j
 by_cases e:i=j
 ·subst e;rw[aM4 (lG h),h]
 ·rw[aM5 e]
def aDy(S:fX)(rq:Rq)(st st':Memo.St)(o:Option gU)(st2:Memo.St)(r:PV):Prop:=
 (cN (aO rq.name) S.ms<0/\st2=st/\r= .tup [(⟨rq.cl,rq.id,5,S.rev,[],[]⟩:Rs).enc,aE 0])\/(0<=cN (aO rq.name) S.ms/\st2=st'/\((o=none/\r= .tup [(⟨0,0,0,0,[],[]⟩:Rs).enc,aE 12])\/∃rec e nums,o=some rec/\rec.val.nums=e::nums/\r= .tup [(⟨rq.cl,rq.id,e,S.rev,nums,rec.val.text⟩:Rs).enc,aE 0]))
theorem ED.fr{sr:Nat}{G:eL}{pid:List Nat}{bs bst bn:Nat}{start N:Int}{H H':aH}(h:ED sr G pid bs bst bn start N H)(hs:∀j,j<H.length->H'[j]? =H[j]?):ED sr G pid bs bst bn start N H':=
 ⟨(hs bs (lG h.b1)).trans h.b1,(hs bst (lG h.b2)).trans h.b2,(hs bn (lG h.b3)).trans h.b3,h.o1,h.o2,h.o3,h.z⟩
theorem ED.set{sr:Nat}{G:eL}{pid:List Nat}{bs bst bn a:Nat}{start N:Int}{H:aH}{ob:AObj}(h:ED sr G pid bs bst bn start N H)(ha:a≠bs/\a≠bst/\a≠bn):ED sr G pid bs bst bn start N (H.set a ob):=
 ⟨(aM5 ha.1).trans h.b1,(aM5 ha.2.1).trans h.b2,(aM5 ha.2.2).trans h.b3,h.o1,h.o2,h.o3,h.z⟩
theorem dE.two{F F':eL}{H0 H H':aH}(hl:H0.length<=H.length)(hs:∀j,j<H0.length->H[j]? =H0[j]?)(f:dE F F' H H'):dE F F' H0 H':=
 ⟨aMr hl f.len,λid h1 h2=>(f.same id z8 h2).trans (hs id h1),λid h hl2=>f.ids id h z8⟩
theorem SU{bA n sr:Nat}{S:fX}{tl1 tl2:bE}{pv:PV}{loc:QK->Nat}{st:Memo.St}{G:eL}{pid:List Nat}{H:aH}(hS:jR bA n sr S tl1 tl2 pv loc st G pid H){bs bst bn:Nat}{start N:Int}(hB:ED sr G pid bs bst bn start N H)(rq:Rq)(fu:Nat)(hml:S.ms.length<=maxLen)(o:Option gU)(st':Memo.St)(hmm:∀i:Nat,cN (aO rq.name) S.ms=(i:Int)->rq.q≠0/\Memo.upd (EI start N) sH fu [] (rq.q,rq.arg,(i:Int)) st=some (o,st')/\∀r,o=some r->r.val.nums.length<=rD/\r.val.nums≠ []):aR Tryz.prog 65 [.optr sr 0,rq.enc, .fn (.func 64) [] [.optr bs 0, .optr bst 0, .optr bn 0]] H (λr H'=>∃loc' st2 G',aDy S rq st st' o st2 r/\jR bA n sr S tl1 tl2 pv loc' st2 G' pid H'/\ED sr G' pid bs bst bn start N H'/\dE (bW sr G pid) (bW sr G' pid) H H'):=by
 have hrow:=hS.row;simp only[bV,aE]at hrow;have hrowL:=bU hrow;have h0l:=lG hS.go;refine aF (N:=61) Tryz.func65 rfl rfl zz λhb'=> ?_;refine aV (aG jH qO qJ qM qR hrow hrowL) ?_
 repeat refine wS ?_
 refine iU 1 (n0:=H.length+2) (by first|rfl| (simp only[aNo,aM7,aOa,Nat.reduceAdd,aNn,hrow,hrowL];done)) (by kernel_rfl) ?_;refine eP 9 (by first|rfl| (simp only[aNo,aM7,aOa,Nat.reduceAdd,aNn,hrow,hrowL];done)) (DQ (aG y3 jH qO uS qJ qM (bR qR hrow hrowL))) z7 z7 z7 ?_;refine mR (by first| (simp only[LS,HS,aOe,aMl,aN7,hrow,hrowL]<;>with_reducible rfl)|rfl) ?_;refine iO (bm:= [0,1,0,4,0,16,48,112,255,0,1023]) (fresh:=(H.length+2)) (by kernel_rfl) (JW (cF qO qJ qM qR hrow hrowL)) z7 (by repeat (first|exact fT.base _|with_reducible apply fT.keep|apply fT.drop)) ?_;refine eA 3 (aG y9 jH qJ qM qR hrow hrowL) ?_;refine qT (bL qJ qM qR hrow hrowL) MG (xJ (hS.app _) rq.name hml) ?_;refine bH (bL qJ qM qR hrow hrowL) ?_;refine gQ [0,2,4,6,8,9] (bL qJ qM qR hrow hrowL) ?_;refine aV (cF y3 qJ qM qR hrow hrowL) ?_;refine gG (bL qJ qM qR hrow hrowL) (λbt26=> ?_) (λbt26=> ?_)
 ·
  have hneg:=of_decide_eq_true bt26;refine aV (aG EN qO qJ qM qR hrow hrowL) ?_;refine aV (cF qO qJ qM qR hrow hrowL) ?_
  repeat refine wS ?_
  refine wT ⟨.inr rfl,_,(bI (.cell 6 60) (.tmp 7) rfl (kS CB z7 (JA (bL qJ qM qR hrow hrowL))) (aM z7)), ?_⟩;refine⟨loc,st,G, .inl ⟨hneg,rfl,rfl⟩,hS.app _,hB.fr λj hj=>aM0 hj,dE.app _ _ _ hS.lt⟩
 ·
  have hpos:=of_decide_eq_false bt26;have hpos0:0<=cN (aO rq.name) S.ms:=z8
  obtain⟨i,hi,hii⟩:∃i,i<S.ms.length/\cN (aO rq.name) S.ms=(i:Int):=by
   rcases kY (aO rq.name) S.ms with⟨e,_⟩| ⟨i,h,e,e2,_⟩
   ·rw[e]at hpos;exact absurd z7 hpos
   ·exact⟨i,h,e⟩
  obtain⟨hq0,hup,hrc⟩:=hmm i hii;obtain⟨vn,vt,hvo,hvr⟩:∃vn vt,aFg o= .agg [.slice (vn.map aE) .none, .str vt]/\∀r,o=some r->r.val.nums=vn/\r.val.text=vt:=by
   cases o with
   |none=>exact⟨[],[],rfl,λr h=>by cases h⟩
   |some r=>exact⟨r.val.nums,r.val.text,rfl,λr' h=>by cases h;exact⟨rfl,rfl⟩⟩
  repeat refine wS ?_
  refine wK ?_;refine eG (F:=gM [(0, .optr sr 0),(2, .fn (.func 64) [] [.optr bs 0, .optr bst 0, .optr bn 0]),(4, .optr H.length 0),(6, .optr (H.length+1) 0),(8, .optr (H.length+2) 0),(9,aE (i:Int))]) (cO ⟨rfl,rfl,rfl,rfl,rfl,by rw[<-hii];rfl,trivial⟩) ?_;refine dI (λHZ=>HZ=H++ [.row [.int .i64 rq.cl, .int .i64 rq.id, .int .i64 rq.q, .int .i64 rq.arg, .str rq.name], .row [.int .i64 0, .int .i64 0, .int .i64 0, .int .i64 0, .slice [] .full, .str []], .row [.int .i64 rq.cl, .int .i64 rq.id, .int .i64 0, .int .i64 S.rev, .slice [] .full, .str []]]) rfl ?_;rintro HA hHA;have hlA:HA.length=H.length+3:=by rw[hHA];simp
  have hAs:∀j,j<H.length->HA[j]? =H[j]? :=λj hj=>by rw[hHA];exact aM0 hj
  have a1:HA[H.length]? =some (.row [.int .i64 rq.cl, .int .i64 rq.id, .int .i64 rq.q, .int .i64 rq.arg, .str rq.name]):=by rw[hHA];simp
  have a2:HA[H.length+1]? =some (.row [.int .i64 0, .int .i64 0, .int .i64 0, .int .i64 0, .slice [] .full, .str []]):=by rw[hHA];simp
  have a3:HA[H.length+2]? =some (.row [.int .i64 rq.cl, .int .i64 rq.id, .int .i64 0, .int .i64 S.rev, .slice [] .full, .str []]):=by rw[hHA];simp
  have hSA:jR bA n sr S tl1 tl2 pv loc st G pid HA:=hS.fr (hAs 0 h0l) λj hj=>hAs j (hS.lt j hj);have hBA:ED sr G pid bs bst bn start N HA:=hB.fr hAs;have hox:∀k,¬bW sr G pid (H.length+k):=λk h=>by have:=hS.lt _ h;omega
  clear hHA
  repeat refine wS ?_
  refine lM (D:=Nat×(QK->Nat)×eL) 18 (by kernel_rfl) rfl [0,1,3,7,0,16,0,64,0,496,0,2047,4095,8191,8191,0,49151,131071] (by kernel_rfl) [(18,0),(19,2),(20,4),(21,6),(22,8),(23,9),(0,30),(1,31),(2,32),(3,33),(4,34),(5,35),(6,36),(7,37),(8,38),(9,39),(10,40),(11,41),(12,29),(13,42),(14,43),(15,10),(17,11)] (λd=> [.optr sr 0, .fn (.func 64) [] [.optr bs 0, .optr bst 0, .optr bn 0], .optr H.length 0, .optr (H.length+1) 0, .optr (H.length+2) 0,aE (i:Int), .optr sr 0, .optr sr 0, .optr sr 4, .optr (n+4) 0, .optr H.length 2,aE rq.q, .optr H.length 3,aE rq.arg,aE (i:Int), .agg [aE rq.q,aE rq.arg,aE (i:Int)], .fn (.func 64) [] [.optr bs 0, .optr bst 0, .optr bn 0], .tup [.agg [.slice (vn.map aE) .none, .str vt],aE (IF o)], .tup [.agg [.slice (vn.map aE) .none, .str vt],aE (IF o)], .agg [.slice (vn.map aE) .none, .str vt],aE (IF o), .optr d.1 0,aE (IF o)]) (λd m HX=>((m 11=false->jR bA n sr S tl1 tl2 pv loc st G pid HX/\ED sr G pid bs bst bn start N HX/\∀j,j<HA.length->HX[j]? =HA[j]?)/\(m 11=true->jR bA n sr S tl1 tl2 pv d.2.1 st' d.2.2 pid HX/\ED sr d.2.2 pid bs bst bn start N HX/\dE (bW sr G pid) (bW sr d.2.2 pid) HA HX/\∀j,j<HA.length->bW sr d.2.2 pid j->bW sr G pid j)/\HA.length<=HX.length/\(HX[H.length]? =some (.row [.int .i64 rq.cl, .int .i64 rq.id, .int .i64 rq.q, .int .i64 rq.arg, .str rq.name])/\HX[H.length+1]? =some (.row [.int .i64 0, .int .i64 0, .int .i64 0, .int .i64 0, .slice [] .full, .str []])/\HX[H.length+2]? =some (.row [.int .i64 rq.cl, .int .i64 rq.id, .int .i64 0, .int .i64 S.rev, .slice [] .full, .str []]))/\(m 15=true->HA.length<=d.1/\d.1<HX.length/\(m 16=false->HX[d.1]? =some (.row [.slice [] .full, .str []]))/\(m 16=true->HX[d.1]? =some (.row [.slice (vn.map aE) .none, .str vt]))/\(m 11=true->¬bW sr d.2.2 pid d.1)))) (0,loc,G) ⟨.inr rfl, .inr rfl, .inr rfl, .inr rfl, .inr rfl, .inr rfl, .inl z7, .inl z7, .inl z7, .inl z7, .inl z7, .inl z7, .inl z7, .inl z7, .inl z7, .inl z7, .inl z7, .inl z7, .inl z7, .inl z7, .inl z7, .inl z7, .inl z7,trivial⟩ (⟨λ_=>⟨hSA,hBA,λ_ _=>rfl⟩,λh=>Bool.noConfusion h,aMq _,⟨a1,a2,a3⟩,λh=>Bool.noConfusion h⟩) ⟨?_, ?_, ?_, ?_, ?_, ?_, ?_, ?_, ?_, ?_, ?_, ?_, ?_, ?_, ?_, ?_, ?_, ?_,trivial⟩ ?_
  ·
   intro m d HX hm hp hno hge hg;obtain⟨bX,_,_⟩:=hg.2.2.2.1;have n11:=hno 11 rfl;have gS:=hg.1 n11;have hrX:=gS.1.row;simp only[bV,aE]at hrX;exact bH (cF qJ qM qR (hge 18 z7) hrX bX) ⟨d,hg,cU 0 30⟩
  ·
   intro m d HX hm hp hno hge hg;obtain⟨bX,_,_⟩:=hg.2.2.2.1;have n11:=hno 11 rfl;have gS:=hg.1 n11;have hrX:=gS.1.row;simp only[bV,aE]at hrX;exact bH (cF qJ qM qR (hp 0 rfl) hrX bX) ⟨d,hg,cU 1 31⟩
  ·
   intro m d HX hm hp hno hge hg;obtain⟨bX,_,_⟩:=hg.2.2.2.1;have n11:=hno 11 rfl;have gS:=hg.1 n11;have hrX:=gS.1.row;simp only[bV,aE]at hrX;exact bH (aG uS qJ qM qR (hp 1 rfl) hrX bX) ⟨d,hg,cU 2 32⟩
  ·
   intro m d HX hm hp hno hge hg;obtain⟨bX,_,_⟩:=hg.2.2.2.1;have n11:=hno 11 rfl;have gS:=hg.1 n11;have hrX:=gS.1.row;simp only[bV,aE]at hrX;exact bH (aG qV qJ qM qR (hp 2 rfl) hrX bX) ⟨d,hg,cU 3 33⟩
  ·
   intro m d HX hm hp hno hge hg;obtain⟨bX,_,_⟩:=hg.2.2.2.1;have n11:=hno 11 rfl;have gS:=hg.1 n11;have hrX:=gS.1.row;simp only[bV,aE]at hrX;exact bH (aG jH qJ qM qR (hge 20 z7) hrX bX) ⟨d,hg,cU 4 34⟩
  ·
   intro m d HX hm hp hno hge hg;obtain⟨bX,_,_⟩:=hg.2.2.2.1;have n11:=hno 11 rfl;have gS:=hg.1 n11;have hrX:=gS.1.row;simp only[bV,aE]at hrX;exact bH (aG y3 qJ qM qR (hp 4 rfl) hrX bX) ⟨d,hg,cU 5 35⟩
  ·
   intro m d HX hm hp hno hge hg;obtain⟨bX,_,_⟩:=hg.2.2.2.1;have n11:=hno 11 rfl;have gS:=hg.1 n11;have hrX:=gS.1.row;simp only[bV,aE]at hrX;exact bH (aG jH qJ qM qR (hge 20 z7) hrX bX) ⟨d,hg,cU 6 36⟩
  ·
   intro m d HX hm hp hno hge hg;obtain⟨bX,_,_⟩:=hg.2.2.2.1;have n11:=hno 11 rfl;have gS:=hg.1 n11;have hrX:=gS.1.row;simp only[bV,aE]at hrX;exact bH (aG y3 qJ qM qR (hp 6 rfl) hrX bX) ⟨d,hg,cU 7 37⟩
  ·
   intro m d HX hm hp hno hge hg;obtain⟨bX,_,_⟩:=hg.2.2.2.1;have n11:=hno 11 rfl;have gS:=hg.1 n11;have hrX:=gS.1.row;simp only[bV,aE]at hrX;exact bH (cF qJ qM qR (hge 23 z7) hrX bX) ⟨d,hg,cU 8 38⟩
  ·
   intro m d HX hm hp hno hge hg;obtain⟨bX,_,_⟩:=hg.2.2.2.1;have n11:=hno 11 rfl;have gS:=hg.1 n11;have hrX:=gS.1.row;simp only[bV,aE]at hrX;exact bH (aG iB qJ qM qR (hp 5 rfl) (hp 7 rfl) (bR (hp 8 rfl) hrX bX)) ⟨d,hg,cU 9 39⟩
  ·
   intro m d HX hm hp hno hge hg;obtain⟨bX,_,_⟩:=hg.2.2.2.1;have n11:=hno 11 rfl;have gS:=hg.1 n11;have hrX:=gS.1.row;simp only[bV,aE]at hrX;exact bH (cF qJ qM qR (hge 19 z7) hrX bX) ⟨d,hg,cU 10 40⟩
  ·
   intro m d HX hm hp hno hge hg;obtain⟨bX,_,_⟩:=hg.2.2.2.1;have n11:m 11=false:=hm;have gS:=hg.1 n11;have hrX:=gS.1.row;simp only[bV,aE]at hrX;have m3:=hp 3 rfl;have m9:=hp 9 rfl;have m10:=hp 10 rfl;refine oW (aG qJ qM qR m3 m9 m10 (aS hrX bX)) aJa ((id (aLf gS.1 gS.2.1 fu (rq.q,rq.arg,(i:Int)) hq0 o st' hup (λr hr=>(hrc r hr).1)):aR _ _ [.optr (n+4) 0, .agg [.int .i64 rq.q, .int .i64 rq.arg, .int .i64 (i:Int)], .fn (.func 64) [] [.optr bs 0, .optr bst 0, .optr bn 0]] HX _)) ?_;rintro _ HC ⟨loc',G',rfl,hSN,hBN,hF⟩;rw[hvo];have ows:∀j,HA.length<=j->¬bW sr G pid j:=λj hj h=>by have:=hSA.lt j h;omega
   refine oN ⟨(d.1,loc',G'),⟨λh=>Bool.noConfusion h,λ_=>⟨hSN,hBN,dE.two hg.2.2.1 gS.2.2 hF,λj hj h=>hF.ids j h (aMs hj hg.2.2.1)⟩,aMr hg.2.2.1 hF.len,⟨(hF.get hg.2.2.2.1.1 (hox 0)).1,(hF.get hg.2.2.2.1.2.1 (hox 1)).1,(hF.get hg.2.2.2.1.2.2 (hox 2)).1⟩,λh15=>by
    obtain⟨q1,q2,q3,q4,_⟩:=hg.2.2.2.2 h15;have n16:=hno 16 rfl;have:=hF.get (q3 n16) (ows _ q1);exact⟨q1,aMs q2 hF.len,λ_=>this.1,oU n16,λ_=>this.2⟩⟩,zV (i:=11) (d:=some 41) (r:=_) ?_⟩
   exact aI ⟨trivial,λ_=>rfl⟩ (aI ⟨trivial,λ_=>rfl⟩ (aI ⟨trivial,λ_=>rfl⟩ (aI ⟨trivial,λ_=>rfl⟩ (aI ⟨trivial,λ_=>rfl⟩ (aI ⟨trivial,λ_=>rfl⟩ (aI ⟨trivial,λ_=>rfl⟩ (aI ⟨trivial,λ_=>rfl⟩ (aI ⟨trivial,λ_=>rfl⟩ (aI ⟨trivial,λ_=>rfl⟩ (aI ⟨trivial,λ_=>rfl⟩ (aI ⟨trivial,λ_=>rfl⟩ (aI ⟨trivial,λ_=>rfl⟩ (aI ⟨trivial,λ_=>rfl⟩ (aI ⟨trivial,λ_=>rfl⟩ (aI ⟨trivial,λ_=>rfl⟩ (aI ⟨trivial,λ_=>rfl⟩ (aI ⟨rfl,rfl⟩ (aI ⟨trivial,λ_=>rfl⟩ (aI ⟨trivial,λ_=>rfl⟩ (aI ⟨trivial,λ_=>rfl⟩ (aI ⟨trivial,λ_=>rfl⟩ (aI ⟨trivial,λ_=>rfl⟩ (trivial)))))))))))))))))))))))
  ·
   intro m d HX hm hp hno hge hg;obtain⟨bX,_,_⟩:=hg.2.2.2.1;have hrX:=bX;exact bH (cF qJ qM qR (hp 11 rfl) hrX bX) ⟨d,hg,cU 12 29⟩
  ·
   intro m d HX hm hp hno hge hg;obtain⟨bX,_,_⟩:=hg.2.2.2.1;have hrX:=bX;exact bH (cF qJ qM qR (hp 12 rfl) hrX bX) ⟨d,hg,cU 13 42⟩
  ·
   intro m d HX hm hp hno hge hg;obtain⟨bX,_,_⟩:=hg.2.2.2.1;have hrX:=bX;exact bH (cF qJ qM qR (hp 12 rfl) hrX bX) ⟨d,hg,cU 14 43⟩
  ·
   intro m d HX hm hp hno hge hg;obtain⟨bX,_,_⟩:=hg.2.2.2.1;have hrX:=bX;have n16:=hno 16 rfl;refine bH (cF nU qJ qM qR hrX bX) ?_;refine⟨(HX.length,d.2),⟨λh=>by
    have q:=hg.1 h;exact⟨q.1.app _,q.2.1.fr (λj hj=>aM0 hj),λj hj=>(aM0 (aMs hj hg.2.2.1)).trans (q.2.2 j hj)⟩,λh=>by
    have q:=hg.2.1 h;exact⟨q.1.app _,q.2.1.fr (λj hj=>aM0 hj),q.2.2.1.trans (dE.app _ _ _ q.1.lt),q.2.2.2⟩,by rw[aNo];exact aMr hg.2.2.1 (Nat.le_add_right _ _),⟨bU hg.2.2.2.1.1 _,bU hg.2.2.2.1.2.1 _,bU hg.2.2.2.1.2.2 _⟩,λ_=>⟨hg.2.2.1,zz,λ_=>zz,oU n16,λh=>λhh=>by have:=(hg.2.1 h).1.lt _ hh;omega⟩⟩,zV (i:=15) (d:=some 10) (r:=_) ?_⟩
   exact aI ⟨trivial,λ_=>rfl⟩ (aI ⟨trivial,λ_=>rfl⟩ (aI ⟨trivial,λ_=>rfl⟩ (aI ⟨trivial,λ_=>rfl⟩ (aI ⟨trivial,λ_=>rfl⟩ (aI ⟨trivial,λ_=>rfl⟩ (aI ⟨trivial,λ_=>rfl⟩ (aI ⟨trivial,λ_=>rfl⟩ (aI ⟨trivial,λ_=>rfl⟩ (aI ⟨trivial,λ_=>rfl⟩ (aI ⟨trivial,λ_=>rfl⟩ (aI ⟨trivial,λ_=>rfl⟩ (aI ⟨trivial,λ_=>rfl⟩ (aI ⟨trivial,λ_=>rfl⟩ (aI ⟨trivial,λ_=>rfl⟩ (aI ⟨trivial,λ_=>rfl⟩ (aI ⟨trivial,λ_=>rfl⟩ (aI ⟨trivial,λ_=>rfl⟩ (aI ⟨trivial,λ_=>rfl⟩ (aI ⟨trivial,λ_=>rfl⟩ (aI ⟨trivial,λ_=>rfl⟩ (aI ⟨rfl,rfl⟩ (aI ⟨trivial,λ_=>rfl⟩ (trivial)))))))))))))))))))))))
  ·
   intro m d HX hm hp hno hge hg;obtain⟨bX,_,_⟩:=hg.2.2.2.1;have hrX:=bX;have m15:=hp 15 rfl;have m11:=hp 11 rfl;obtain⟨q1,q2,q3,q4,q5⟩:=hg.2.2.2.2 m15;have q3:=q3 hm;have q5:=q5 m11;have gS:=hg.2.1 m11;have ndX:(d.1=HX.length)=False:=by simp;omega
   have dB:d.1≠bs/\d.1≠bst/\d.1≠bn:=by have:=lG hBA.b1;have:=lG hBA.b2;have:=lG hBA.b3;refine⟨?_, ?_, ?_⟩<;>omega
   have ns:∀ob,jR bA n sr S tl1 tl2 pv d.2.1 st' d.2.2 pid (HX.set d.1 ob):=λob=>gS.1.fr (aM5 (by have:=lG hSA.go;omega)) λid hi=>aM5 (by rintro rfl;exact q5 hi);have nf:∀ob,dE (bW sr G pid) (bW sr d.2.2 pid) HA (HX.set d.1 ob):=λob=>⟨by rw[lS];exact hg.2.2.1,λid h1 h2=>by rw[aM5 z8];exact gS.2.2.1.same id h1 h2,gS.2.2.1.ids⟩;refine bH (aG nU qJ qM qR (hp 13 rfl) m15 (bD hrX bX ndX q3)) ?_;refine⟨d,⟨oU m11,λ_=>⟨ns _,gS.2.1.set dB,nf _,gS.2.2.2⟩,by rw[lS];exact hg.2.2.1,⟨by rw[aM5 z8];exact hg.2.2.2.1.1,by rw[aM5 z8];exact hg.2.2.2.1.2.1,by rw[aM5 z8];exact hg.2.2.2.1.2.2⟩,λ_=>⟨q1,by rw[lS];exact q2,λh=>Bool.noConfusion h,λ_=>aM4 q2,λ_=>q5⟩⟩,Zt0 16⟩
  ·
   intro m d HX hm hp hno hge hg;obtain⟨bX,_,_⟩:=hg.2.2.2.1;have hrX:=bX;exact bH (cF qJ qM qR (hp 14 rfl) hrX bX) ⟨d,hg,cU 17 11⟩
  intro d HF hg;obtain⟨al,loc',G'⟩:=d;obtain⟨_,g2,hlF,⟨b1,b2,b3⟩,g5⟩:=hg;obtain⟨hSF,hBF,hFF,_⟩:=g2 rfl;obtain⟨q1,q2,_,q4,q5⟩:=g5 rfl;have q4:=q4 rfl;have q5:=q5 rfl;simp only at hSF hBF hFF q1 q2 q4 q5;have c1:(H.length+1=HF.length)=False:=by simp;omega
  have c2:(H.length+2=HF.length)=False:=by simp;omega
  have OO:∀ob,(HF.set (H.length+1) ob)[H.length+1]? =some ob:=λob=>aM4 z8;have FL:∀ob,(HF.set (H.length+2) ob)[H.length+2]? =some ob:=λob=>aM4 z8;have nz:∀j,j=H.length+1\/j=H.length+2->¬bW sr G' pid j:=λj hj h=>by
   have:=hFF.ids j h z8;have:=hS.lt j this;omega
  have hSs:∀a ob,(a=H.length+1\/a=H.length+2)->∀HY,jR bA n sr S tl1 tl2 pv loc' st' G' pid HY->jR bA n sr S tl1 tl2 pv loc' st' G' pid (HY.set a ob):=λa ob ha HY h=>h.fr (aM5 z8) λid hi=>aM5 (by rintro rfl;exact nz _ ha hi);have hBs:∀a ob,(a=H.length+1\/a=H.length+2)->∀HY,ED sr G' pid bs bst bn start N HY->ED sr G' pid bs bst bn start N (HY.set a ob):=λa ob ha HY h=>h.set (by have:=lG hB.b1;have:=lG hB.b2;have:=lG hB.b3;refine⟨?_, ?_, ?_⟩<;>omega);have hFs:∀a ob,(a=H.length+1\/a=H.length+2)->∀HY,dE (bW sr G pid) (bW sr G' pid) H HY->dE (bW sr G pid) (bW sr G' pid) H (HY.set a ob):=λa ob ha HY h=>⟨by rw[lS];exact h.len,λid h1 h2=>by rw[aM5 z8];exact h.same id h1 h2,h.ids⟩;have hF0:dE (bW sr G pid) (bW sr G' pid) H HF:=dE.two z8 hAs hFF;refine eG (F:=gM [(6, .optr (H.length+1) 0),(8, .optr (H.length+2) 0),(10, .optr al 0),(11,aE (IF o))]) (cO ⟨rfl,rfl,rfl,rfl,trivial⟩) ?_;refine gQ [6,8,10,11] (bL qJ qM qR hrow hrowL) ?_;refine aV (cF EN qJ qM qR hrow hrowL) ?_;refine gG (bL qJ qM qR hrow hrowL) (λbt45=> ?_) (λbt45=> ?_)
  ·
   have hon:o=none:=by
    cases o with
    |none=>rfl
    |some r=>simp[IF]at bt45
   refine aV (aG qO qJ qM qR hrow hrowL (bR b2 c1 OO)) ?_
   repeat refine wS ?_
   refine wT ⟨.inr rfl,_,(bI (.cell 6 60) (.tmp 7) rfl (kS CB z7 (JA (aG qJ qM qR hrow hrowL OO FL))) (aM z7)), ?_⟩;subst hon;exact⟨loc',st',G', .inr ⟨hpos0,rfl, .inl ⟨rfl,rfl⟩⟩,hSs _ _ (.inl rfl) _ hSF,hBs _ _ (.inl rfl) _ hBF,hFs _ _ (.inl rfl) _ hF0⟩
  ·
   obtain⟨rec,hrec⟩:∃rec,o=some rec:=by
    cases o with
    |none=>simp[IF]at bt45
    |some r=>exact⟨r,rfl⟩
   obtain⟨hv1,hv2⟩:=hvr rec hrec;obtain⟨e,nums,hvn⟩:∃e nums,vn=e::nums:=by
    cases vn with
    |nil=>exact absurd hv1 (hrc rec hrec).2
    |cons e nums=>exact⟨e,nums,rfl⟩
   obtain⟨es,hes⟩:∃es,es=vn.map aE:=⟨_,rfl⟩;rw[<-hes]at q4;rw[hvn,aNl]at hes;have ge0:es[0]? =some (.int .i64 e):=by rw[hes];rfl
   have gel:es.length=nums.length+1:=by rw[hes];simp
   have gi0:((0:Int)<=0/\(0:Int)<(es.length:Int))=True:=by simp;omega
   have c4:decide (HF.length<=H.length+2)=false:=decide_eq_false z8;have gi2:((0:Int)<(es.length:Int))=True:=by simp;omega
   have gi3:((1:Int)<=(es.length:Int))=True:=by simp;omega
   have gi1:((0:Int)<=1/\(1:Int)<=(es.length:Int))=True:=by simp;omega
   have gal:(∀x∈es,x.cells.length=1)=True:=eq_true λx hx=>by
    rw[hes]at hx;rcases aN2.1 hx with rfl|hx
    ·rfl
    ·obtain⟨v,_,rfl⟩:=aNy.1 hx;rfl
   have gec:(PV.int IntKind.i64 e).cells.length=1:=rfl;have gdr:(es.take es.length).drop 1=nums.map aE:=by rw[aOj,hes];rfl
   repeat refine wS ?_
   refine wK ?_
   repeat refine wS ?_
   refine lM (D:=Unit) 15 (by kernel_rfl) rfl [0,1,3,7,0,16,48,0,128,15,527,1663,3711,8191,16383] (by kernel_rfl) [(15,6),(16,8),(17,10),(0,48),(1,49),(2,50),(3,51),(4,52),(5,53),(6,54),(7,55),(8,56),(9,57),(11,58),(13,59)] (λd=> [.optr (H.length+1) 0, .optr (H.length+2) 0, .optr al 0, .optr al 0, .slice es .none, .iptr [.int .i64 e], .int .i64 e, .optr al 0, .slice es .none, .slice (nums.map aE) .none, .optr al 1, .str vt, .optr (H.length+2) 2, .optr (H.length+2) 4, .optr (H.length+2) 5]) (λd m HX=>HX=HF.set (H.length+2) (.row [.int .i64 rq.cl, .int .i64 rq.id,(bif m 10 then .int .i64 e else .int .i64 0), .int .i64 S.rev,(bif m 12 then .slice (nums.map aE) .none else .slice [] .full),(bif m 14 then .str vt else .str [])])) () ⟨.inr rfl, .inr rfl, .inr rfl, .inl z7, .inl z7, .inl z7, .inl z7, .inl z7, .inl z7, .inl z7, .inl z7, .inl z7, .inl z7, .inl z7, .inl z7,trivial⟩ ((ZK b3).symm) ⟨?_, ?_, ?_, ?_, ?_, ?_, ?_, ?_, ?_, ?_, ?_, ?_, ?_, ?_, ?_,trivial⟩ ?_
   ·
    intro m d HX hm hp hno hge hg;have rX:HX[H.length+2]? =some (.row [.int .i64 rq.cl, .int .i64 rq.id,(bif m 10 then .int .i64 e else .int .i64 0), .int .i64 S.rev,(bif m 12 then .slice (nums.map aE) .none else .slice [] .full),(bif m 14 then .str vt else .str [])]):=by rw[hg];exact aM4 z8
    have aX:HX[al]? =some (.row [.slice es .none, .str vt]):=by rw[hg];exact(aM5 z8).trans q4
    have cX:(H.length+2=HX.length)=False:=by rw[hg,lS];exact c2
    exact bH (aG nU qJ qM qR (hge 17 z7) jS (aG rX aX ge0 gi0 gi1 gi2 (cF gi3 gal gdr gec vV OH))) ⟨d,hg,cU 0 48⟩
   ·
    intro m d HX hm hp hno hge hg;have rX:HX[H.length+2]? =some (.row [.int .i64 rq.cl, .int .i64 rq.id,(bif m 10 then .int .i64 e else .int .i64 0), .int .i64 S.rev,(bif m 12 then .slice (nums.map aE) .none else .slice [] .full),(bif m 14 then .str vt else .str [])]):=by rw[hg];exact aM4 z8
    have aX:HX[al]? =some (.row [.slice es .none, .str vt]):=by rw[hg];exact(aM5 z8).trans q4
    have cX:(H.length+2=HX.length)=False:=by rw[hg,lS];exact c2
    exact bH (aG y3 lW qJ qM qR (hp 0 rfl) (aG jS rX aX ge0 gi0 gi1 (aG gi2 gi3 gal gdr gec vV OH))) ⟨d,hg,cU 1 49⟩
   ·
    intro m d HX hm hp hno hge hg;have rX:HX[H.length+2]? =some (.row [.int .i64 rq.cl, .int .i64 rq.id,(bif m 10 then .int .i64 e else .int .i64 0), .int .i64 S.rev,(bif m 12 then .slice (nums.map aE) .none else .slice [] .full),(bif m 14 then .str vt else .str [])]):=by rw[hg];exact aM4 z8
    have aX:HX[al]? =some (.row [.slice es .none, .str vt]):=by rw[hg];exact(aM5 z8).trans q4
    have cX:(H.length+2=HX.length)=False:=by rw[hg,lS];exact c2
    exact bH (aG y3 lW qJ qM qR (hp 1 rfl) (aG jS rX aX ge0 gi0 gi1 (aG gi2 gi3 gal gdr gec vV OH))) ⟨d,hg,cU 2 50⟩
   ·
    intro m d HX hm hp hno hge hg;have rX:HX[H.length+2]? =some (.row [.int .i64 rq.cl, .int .i64 rq.id,(bif m 10 then .int .i64 e else .int .i64 0), .int .i64 S.rev,(bif m 12 then .slice (nums.map aE) .none else .slice [] .full),(bif m 14 then .str vt else .str [])]):=by rw[hg];exact aM4 z8
    have aX:HX[al]? =some (.row [.slice es .none, .str vt]):=by rw[hg];exact(aM5 z8).trans q4
    have cX:(H.length+2=HX.length)=False:=by rw[hg,lS];exact c2
    exact bH (aG y3 qJ qM qR (hp 2 rfl) jS (aG rX aX ge0 gi0 gi1 gi2 (cF gi3 gal gdr gec vV OH))) ⟨d,hg,cU 3 51⟩
   ·
    intro m d HX hm hp hno hge hg;have rX:HX[H.length+2]? =some (.row [.int .i64 rq.cl, .int .i64 rq.id,(bif m 10 then .int .i64 e else .int .i64 0), .int .i64 S.rev,(bif m 12 then .slice (nums.map aE) .none else .slice [] .full),(bif m 14 then .str vt else .str [])]):=by rw[hg];exact aM4 z8
    have aX:HX[al]? =some (.row [.slice es .none, .str vt]):=by rw[hg];exact(aM5 z8).trans q4
    have cX:(H.length+2=HX.length)=False:=by rw[hg,lS];exact c2
    exact bH (aG nU qJ qM qR (hge 17 z7) jS (aG rX aX ge0 gi0 gi1 gi2 (cF gi3 gal gdr gec vV OH))) ⟨d,hg,cU 4 52⟩
   ·
    intro m d HX hm hp hno hge hg;have rX:HX[H.length+2]? =some (.row [.int .i64 rq.cl, .int .i64 rq.id,(bif m 10 then .int .i64 e else .int .i64 0), .int .i64 S.rev,(bif m 12 then .slice (nums.map aE) .none else .slice [] .full),(bif m 14 then .str vt else .str [])]):=by rw[hg];exact aM4 z8
    have aX:HX[al]? =some (.row [.slice es .none, .str vt]):=by rw[hg];exact(aM5 z8).trans q4
    have cX:(H.length+2=HX.length)=False:=by rw[hg,lS];exact c2
    exact bH (aG y3 lW qJ qM qR (hp 4 rfl) (aG jS rX aX ge0 gi0 gi1 (aG gi2 gi3 gal gdr gec vV OH))) ⟨d,hg,cU 5 53⟩
   ·
    intro m d HX hm hp hno hge hg;have rX:HX[H.length+2]? =some (.row [.int .i64 rq.cl, .int .i64 rq.id,(bif m 10 then .int .i64 e else .int .i64 0), .int .i64 S.rev,(bif m 12 then .slice (nums.map aE) .none else .slice [] .full),(bif m 14 then .str vt else .str [])]):=by rw[hg];exact aM4 z8
    have aX:HX[al]? =some (.row [.slice es .none, .str vt]):=by rw[hg];exact(aM5 z8).trans q4
    have cX:(H.length+2=HX.length)=False:=by rw[hg,lS];exact c2
    exact bH (aG y3 lW qJ qM qR (hp 5 rfl) (aG jS rX aX ge0 gi0 gi1 (aG gi2 gi3 gal gdr gec vV OH))) ⟨d,hg,cU 6 54⟩
   ·
    intro m d HX hm hp hno hge hg;have rX:HX[H.length+2]? =some (.row [.int .i64 rq.cl, .int .i64 rq.id,(bif m 10 then .int .i64 e else .int .i64 0), .int .i64 S.rev,(bif m 12 then .slice (nums.map aE) .none else .slice [] .full),(bif m 14 then .str vt else .str [])]):=by rw[hg];exact aM4 z8
    have aX:HX[al]? =some (.row [.slice es .none, .str vt]):=by rw[hg];exact(aM5 z8).trans q4
    have cX:(H.length+2=HX.length)=False:=by rw[hg,lS];exact c2
    exact bH (aG nU qJ qM qR (hge 17 z7) jS (aG rX aX ge0 gi0 gi1 gi2 (cF gi3 gal gdr gec vV OH))) ⟨d,hg,cU 7 55⟩
   ·
    intro m d HX hm hp hno hge hg;have rX:HX[H.length+2]? =some (.row [.int .i64 rq.cl, .int .i64 rq.id,(bif m 10 then .int .i64 e else .int .i64 0), .int .i64 S.rev,(bif m 12 then .slice (nums.map aE) .none else .slice [] .full),(bif m 14 then .str vt else .str [])]):=by rw[hg];exact aM4 z8
    have aX:HX[al]? =some (.row [.slice es .none, .str vt]):=by rw[hg];exact(aM5 z8).trans q4
    have cX:(H.length+2=HX.length)=False:=by rw[hg,lS];exact c2
    exact bH (aG y9 qJ qM qR (hp 7 rfl) jS (aG rX aX ge0 gi0 gi1 gi2 (cF gi3 gal gdr gec vV OH))) ⟨d,hg,cU 8 56⟩
   ·
    intro m d HX hm hp hno hge hg;have rX:HX[H.length+2]? =some (.row [.int .i64 rq.cl, .int .i64 rq.id,(bif m 10 then .int .i64 e else .int .i64 0), .int .i64 S.rev,(bif m 12 then .slice (nums.map aE) .none else .slice [] .full),(bif m 14 then .str vt else .str [])]):=by rw[hg];exact aM4 z8
    have aX:HX[al]? =some (.row [.slice es .none, .str vt]):=by rw[hg];exact(aM5 z8).trans q4
    have cX:(H.length+2=HX.length)=False:=by rw[hg,lS];exact c2
    exact bH (aG qO qJ qM qR (hge 16 z7) jS (aG rX aX ge0 gi0 gi1 gi2 (cF gi3 gal gdr gec vV OH))) ⟨d,hg,cU 9 57⟩
   ·
    intro m d HX hm hp hno hge hg;have rX:HX[H.length+2]? =some (.row [.int .i64 rq.cl, .int .i64 rq.id,(bif m 10 then .int .i64 e else .int .i64 0), .int .i64 S.rev,(bif m 12 then .slice (nums.map aE) .none else .slice [] .full),(bif m 14 then .str vt else .str [])]):=by rw[hg];exact aM4 z8
    have aX:HX[al]? =some (.row [.slice es .none, .str vt]):=by rw[hg];exact(aM5 z8).trans q4
    have cX:(H.length+2=HX.length)=False:=by rw[hg,lS];exact c2
    refine bH (aG EN qJ qM qR (hp 3 rfl) (hp 9 rfl) (aG jS rX aX ge0 gi0 gi1 (aG gi2 gi3 gal gdr gec vV (aS OH cX)))) ?_;exact⟨(),by rw[hg,List.set_set];rfl,Zt0 10⟩
   ·
    intro m d HX hm hp hno hge hg;have rX:HX[H.length+2]? =some (.row [.int .i64 rq.cl, .int .i64 rq.id,(bif m 10 then .int .i64 e else .int .i64 0), .int .i64 S.rev,(bif m 12 then .slice (nums.map aE) .none else .slice [] .full),(bif m 14 then .str vt else .str [])]):=by rw[hg];exact aM4 z8
    have aX:HX[al]? =some (.row [.slice es .none, .str vt]):=by rw[hg];exact(aM5 z8).trans q4
    have cX:(H.length+2=HX.length)=False:=by rw[hg,lS];exact c2
    exact bH (aG qO qJ qM qR (hge 16 z7) jS (aG rX aX ge0 gi0 gi1 gi2 (cF gi3 gal gdr gec vV OH))) ⟨d,hg,cU 11 58⟩
   ·
    intro m d HX hm hp hno hge hg;have rX:HX[H.length+2]? =some (.row [.int .i64 rq.cl, .int .i64 rq.id,(bif m 10 then .int .i64 e else .int .i64 0), .int .i64 S.rev,(bif m 12 then .slice (nums.map aE) .none else .slice [] .full),(bif m 14 then .str vt else .str [])]):=by rw[hg];exact aM4 z8
    have aX:HX[al]? =some (.row [.slice es .none, .str vt]):=by rw[hg];exact(aM5 z8).trans q4
    have cX:(H.length+2=HX.length)=False:=by rw[hg,lS];exact c2
    refine bH (aG y3 lW qJ qM qR (hp 6 rfl) (aG (hp 11 rfl) jS rX aX ge0 gi0 (aG gi1 gi2 gi3 gal gdr gec (bR vV OH cX)))) ?_;exact⟨(),by rw[hg,List.set_set];rfl,Zt0 12⟩
   ·
    intro m d HX hm hp hno hge hg;have rX:HX[H.length+2]? =some (.row [.int .i64 rq.cl, .int .i64 rq.id,(bif m 10 then .int .i64 e else .int .i64 0), .int .i64 S.rev,(bif m 12 then .slice (nums.map aE) .none else .slice [] .full),(bif m 14 then .str vt else .str [])]):=by rw[hg];exact aM4 z8
    have aX:HX[al]? =some (.row [.slice es .none, .str vt]):=by rw[hg];exact(aM5 z8).trans q4
    have cX:(H.length+2=HX.length)=False:=by rw[hg,lS];exact c2
    exact bH (aG qO qJ qM qR (hge 16 z7) jS (aG rX aX ge0 gi0 gi1 gi2 (cF gi3 gal gdr gec vV OH))) ⟨d,hg,cU 13 59⟩
   ·
    intro m d HX hm hp hno hge hg;have rX:HX[H.length+2]? =some (.row [.int .i64 rq.cl, .int .i64 rq.id,(bif m 10 then .int .i64 e else .int .i64 0), .int .i64 S.rev,(bif m 12 then .slice (nums.map aE) .none else .slice [] .full),(bif m 14 then .str vt else .str [])]):=by rw[hg];exact aM4 z8
    have aX:HX[al]? =some (.row [.slice es .none, .str vt]):=by rw[hg];exact(aM5 z8).trans q4
    have cX:(H.length+2=HX.length)=False:=by rw[hg,lS];exact c2
    refine bH (aG y9 qJ qM qR (hp 8 rfl) (hp 13 rfl) (aG jS rX aX ge0 gi0 gi1 (aG gi2 gi3 gal gdr gec vV (aS OH cX)))) ?_;exact⟨(),by rw[hg,List.set_set];rfl,Zt0 14⟩
   intro d HF hg;subst hg;refine eG (F:=gM [(6, .optr (H.length+1) 0),(8, .optr (H.length+2) 0)]) (cO ⟨rfl,rfl,trivial⟩) ?_
   repeat refine wS ?_
   refine dI (λHZ=>HZ[H.length+2]? =some (.row [.int .i64 rq.cl, .int .i64 rq.id, .int .i64 e, .int .i64 S.rev, .slice (nums.map aE) .none, .str vt])/\HZ[H.length+1]? =some (.row [.int .i64 0, .int .i64 0, .int .i64 0, .int .i64 0, .slice [] .full, .str []])/\HZ.length=HF.length/\jR bA n sr S tl1 tl2 pv loc' st' G' pid HZ/\ED sr G' pid bs bst bn start N HZ/\dE (bW sr G pid) (bW sr G' pid) H HZ) ⟨FL _,(aM5 z8).trans b2,zz,hSs _ _ (.inr rfl) _ hSF,hBs _ _ (.inr rfl) _ hBF,hFs _ _ (.inr rfl) _ hF0⟩ ?_;rintro HG ⟨k1,k2,k3,k4,k5,k6⟩;have c3:(H.length+1=HG.length)=False:=by simp;omega
   have QM:∀ob,(HG.set (H.length+1) ob)[H.length+1]? =some ob:=λob=>aM4 z8;refine eE (fI (aG qO qJ qM qR hrow hrowL (bR k1 k2 c3))) z7 ?_
   repeat refine wS ?_
   refine wT ⟨.inr rfl,_,(bI (.cell 6 60) (.tmp 7) rfl (kS CB z7 (JA (cF qJ qM qR hrow hrowL QM))) (aM z7)), ?_⟩;exact⟨loc',st',G', .inr ⟨hpos0,rfl, .inr ⟨rec,e,nums,hrec,hv1.trans hvn,by rw[hv2];rfl⟩⟩,hSs _ _ (.inl rfl) _ k4,hBs _ _ (.inl rfl) _ k5,hFs _ _ (.inl rfl) _ k6⟩
end Go.Abs
namespace Go.Abs
open Go.Proofs Go.Memo
theorem HJ(a:Rs):a.enc.cells.all PV.isCell=true:=by rw[Rs.enc_cells];rfl
def qL(S:fX)(val:Rq->Nat->QV)(rq:Rq):Rs:=
 if cN (aO rq.name) S.ms<0 then⟨rq.cl,rq.id,5,S.rev,[],[]⟩
 else⟨rq.cl,rq.id,(val rq (cN (aO rq.name) S.ms).toNat).nums.headD 0,S.rev,(val rq (cN (aO rq.name) S.ms).toNat).nums.tail,(val rq (cN (aO rq.name) S.ms).toNat).text⟩
def IX(S:fX)(val:Rq->Nat->QV)(Good:Nat->Memo.St->Prop)(fu:Nat)(start N:Int):Prop:=
 ∀j s,j<S.ps.length->Good j s->∀rq∈S.ps,∀i:Nat,cN (aO rq.name) S.ms=(i:Int)->rq.q≠0/\∃o s',Memo.upd (EI start N) sH fu [] (rq.q,rq.arg,(i:Int)) s=some (o,s')/\Good (j+1) s'/\s.comps<=s'.comps/\s'.comps<=s.comps+1/\(∀r,o=some r->r.val=val rq i/\r.val.nums.length<=rD/\r.val.nums≠ [])/\(o=none->EI start N s.comps=true)
def aD2(S:fX)(val:Rq->Nat->QV)(Good:Nat->Memo.St->Prop)(start N:Int)(j:Nat)(s:Memo.St)(rq:Rq)(st2:Memo.St)(resp:Rs)(e:Int):Prop:=
 Good (j+1) st2/\s.comps<=st2.comps/\st2.comps<=s.comps+1/\((e=0/\resp=qL S val rq)\/(e=12/\EI start N s.comps=true))
theorem aC3{S:fX}{val:Rq->Nat->QV}{Good:Nat->Memo.St->Prop}{fu:Nat}{start N:Int}(hup:∀j s,Good j s->Good (j+1) s)(h:IX S val Good fu start N){j0:Nat}(hj:j0<S.ps.length){s:Memo.St}(hs:Good j0 s){rq:Rq}(hrq:rq∈S.ps)(ps':List Rq):
  ∃o s',(∀i:Nat,cN (aO rq.name) S.ms=(i:Int)->rq.q≠0/\Memo.upd (EI start N) sH fu [] (rq.q,rq.arg,(i:Int)) s=some (o,s')/\∀r,o=some r->r.val.nums.length<=rD/\r.val.nums≠ [])/\
   ∀st2 r,aDy ⟨S.ms,S.vs,ps',S.rev⟩ rq s s' o st2 r->∃resp e,r= .tup [resp.enc,aE e]/\aD2 S val Good start N j0 s rq st2 resp e:=by
 rcases kY (aO rq.name) S.ms with⟨e,_⟩| ⟨i,hi,e,_,_⟩
 ·refine⟨none,s,λi hi=> ?_,λst2 r hr=> ?_⟩
  ·rw[e]at hi;omega
  ·rcases hr with⟨h1,rfl,rfl⟩| ⟨h1,_,_⟩
   ·refine⟨_,_,rfl,hup _ _ hs,Int.le_refl _,z8, .inl ⟨rfl, ?_⟩⟩;unfold qL;rw[if_pos h1]
   ·simp only at h1;rw[e]at h1;exact absurd h1 z7
 ·obtain⟨hq,o,s',h1,h2,h3,h4,h5,h6⟩:=h j0 s hj hs rq hrq i e;refine⟨o,s',λj hj=> ?_,λst2 r hr=> ?_⟩
  ·obtain rfl:i=j:=by rw[e]at hj;omega
   exact⟨hq,h1,λr hr=>(h5 r hr).2⟩
  ·rcases hr with⟨h7,_,_⟩| ⟨_,rfl,h7⟩
   ·simp only at h7;rw[e]at h7;omega
   ·rcases h7 with⟨rfl,rfl⟩| ⟨rec,er,nums,rfl,hn,rfl⟩
    ·exact⟨_,_,rfl,h2,h3,h4, .inr ⟨rfl,h6 rfl⟩⟩
    ·refine⟨_,_,rfl,h2,h3,h4, .inl ⟨rfl, ?_⟩⟩;obtain⟨hv,_⟩:=h5 rec rfl;unfold qL;rw[if_neg (by rw[e];omega),e,tN,<-hv,hn];rfl
theorem YX{HB:aH}{ic c po sr:Nat}{ys ys':List Rq}{a:Rq}{ob:AObj}(hk:vK Rq.enc 5 HB (.msl ic po ys.length c) ys [ic])(hdk:ys=a::ys')(hne:sr≠ic):vK Rq.enc 5 (HB.set sr ob) (.msl ic (nJ po 5 1 c) (ys.length-1) (c-1)) ys' [ic]:=by
 rcases hk.cases2 with⟨e,_,_⟩| ⟨ic2,c2,pre,rest,hpv,hpd,hHr,hcc,hm1,hm2⟩
 ·rw[e]at hdk;cases hdk
 ·injection hpv with e1 e2 e3 e4;subst e1 e2 e4;have hH2:(HB.set sr ob)[ic]? =some (.row (pre++(aL (ys.map Rq.enc)++rest))):=(aM5 hne).trans hHr;have hl:ys.length=ys'.length+1:=by rw[hdk];rfl
  unfold nJ
  split
  ·rename_i h1;have h0:ys'= []:=List.length_eq_zero_iff.1 z8;subst h0;exact vK.of (pre:=pre) (rest:=aL (ys.map Rq.enc)++rest) rfl (by rw[hl];rfl) hH2 (by rw[<-h1];simp) z8 z8
  ·refine vK.of (pre:=pre++a.enc.cells) (rest:=rest) (by rw[aNo,Rq.enc_len]) z8 ?_ z8 z8 z8;rw[hH2,hdk];simp[aL]
theorem aHd{c s N:Int}{k:Nat}(h:EI s N c=true)(h1:s<=c)(h2:c<=s+k)(hk:k<=1000):N<=k:=by
 have:=of_decide_eq_true h;unfold wrap64 at this;omega
theorem aHw{bA n sr:Nat}{S:fX}{tl1 tl2:bE}{pv:PV}{loc:QK->Nat}{st:Memo.St}{G:eL}{pid:List Nat}{H:aH}(hS:jR bA n sr S tl1 tl2 pv loc st G pid H)(N:Int)(fu:Nat)(hml:S.ms.length<=maxLen)(hpl:S.ps.length<=20)(Good:Nat->Memo.St->Prop)(hup:∀j s,Good j s->Good (j+1) s)(hg0:Good 0 st)(val:Rq->Nat->QV)(hstep:IX S val Good fu st.comps N):aR Tryz.prog 31 [.optr sr 0,aE N] H (λr H'=>(N<0/\r= .tup [.slice [] .none,aE 1]/\jR bA n sr S tl1 tl2 pv loc st G pid H'/\dE (bW sr G pid) (bW sr G pid) H H')\/(0<=N/\∃k st2 loc' G' pv' pid',k<=S.ps.length/\(N<=k\/k=S.ps.length)/\(∃j,j<=S.ps.length+1/\Good j st2)/\r= .tup [.slice (((S.ps.take k).map (qL S val)).map Rs.enc) .none,aE 0]/\jR bA n sr ⟨S.ms,S.vs,S.ps.drop k,S.rev⟩ tl1 tl2 pv' loc' st2 G' pid' H'/\dE (bW sr G pid) (bW sr G' pid') H H')):=by
 have hrow:=hS.row;simp only[bV,aE]at hrow;have hrowL:=bU hrow;have h0l:=lG hS.go;have em:maxLen=9223372036854775807:=z7
 obtain⟨F0,hD0,_⟩:=hS.w;obtain⟨clock,hdb⟩:=hD0.db;have hdb:H[n+4]? =some (.row [(RS bA n).ix.cf, .optr (RS bA n).ix.s 0, .mapp (RS bA n).ix.m, .mapp (RS bA n).ix.a,(RS bA n).ix.stp,aE st.comps,aE clock]):=hdb;have hfB:dE (bW sr G pid) (bW sr G pid) H (H++ [.row [.optr sr 0], .row [aE N]]):=dE.app _ _ _ hS.lt;refine aF (N:=52) Tryz.func31 rfl rfl zz λhb'=> ?_;refine aV (aG y3 y24 qJ qM qR hrow hrowL) ?_;refine aV (cF y3 qJ qM qR hrow hrowL) ?_;refine gG (bL qJ qM qR hrow hrowL) (λbt12=> ?_) (λbt12=> ?_)
 ·
  have hneg:=of_decide_eq_true bt12;refine aV (bL qJ qM qR hrow hrowL) ?_
  repeat refine wS ?_
  refine wT ⟨.inr rfl,_,(bI (.tmp 4) (.tmp 5) rfl (aM z7) (aM z7)), ?_⟩;exact .inl ⟨hneg,rfl,hS.app _,dE.app _ _ _ hS.lt⟩
 ·
  have hN0:0<=N:=by have:=of_decide_eq_false bt12;omega
  repeat refine wS ?_
  refine wK ?_;refine aV (bL qJ qM qR hrow hrowL) ?_;refine eA 4 (aG y24 qV uS qJ qM qR (aS hrow hrowL)) ?_;refine oW (bL qJ qM qR hrow hrowL) aEi (tI (bU hdb _)) ?_;rintro _ HX ⟨rfl,hX⟩;rw[hX];clear hX;refine bH (cF y3 qJ qM qR hrow hrowL) ?_;refine aV (bL qJ qM qR hrow hrowL) ?_
  repeat refine wS ?_
  refine bJ ?_;refine fF (σ:=Nat×Memo.St×(QK->Nat)×eL×PV×List Nat×PV×List Nat) (λ(z:Nat×Memo.St×(QK->Nat)×eL×PV×List Nat×PV×List Nat)=> [(2, .optr H.length 0),(3, .optr (H.length+1) 0),(6,z.2.2.2.2.2.2.1),(8, .fn (.func 64) [] [.optr H.length 0, .optr (H.length+2) 0, .optr (H.length+1) 0])]) (λ(z:Nat×Memo.St×(QK->Nat)×eL×PV×List Nat×PV×List Nat)=>λH2=>z.1<=S.ps.length/\jR bA n sr ⟨S.ms,S.vs,S.ps.drop z.1,S.rev⟩ tl1 tl2 z.2.2.2.2.1 z.2.2.1 z.2.1 z.2.2.2.1 z.2.2.2.2.2.1 H2/\Good z.1 z.2.1/\(st.comps<=z.2.1.comps/\z.2.1.comps<=st.comps+z.1)/\ED sr z.2.2.2.1 z.2.2.2.2.2.1 H.length (H.length+2) (H.length+1) st.comps N H2/\fV Rs.enc 6 H2 z.2.2.2.2.2.2.1 ((S.ps.take z.1).map (qL S val)) z.2.2.2.2.2.2.2/\(∀i∈z.2.2.2.2.2.2.2,¬bW sr z.2.2.2.1 z.2.2.2.2.2.1 i/\(H.length+2)<i)/\dE (bW sr G pid) (bW sr z.2.2.2.1 z.2.2.2.2.2.1) H H2) (λ(z:Nat×Memo.St×(QK->Nat)×eL×PV×List Nat×PV×List Nat)=>S.ps.length-z.1) ((0,st,loc,G,pv,pid, .slice [] .full,[])) ⟨(dJ (bL qJ qM qR hrow hrowL)),(dJ (bL qJ qM qR hrow hrowL)),(dJ (bL qJ qM qR hrow hrowL)),(dJ (bL qJ qM qR hrow hrowL)),trivial⟩ (⟨aNs _,hS.app _,hg0,⟨Int.le_refl _,zz⟩,⟨zz,zz,zz,λh=>by have:=hS.lt _ h;omega,λh=>by have:=hS.lt _ h;omega,λh=>by have:=hS.lt _ h;omega,z8,z8,z8⟩, .nil,(λi hi=>by cases hi),dE.app _ _ _ hS.lt⟩) ?_;intro z H2 hg;obtain⟨k,s,locz,Gz,pvz,pidz,cv,cid⟩:=z;obtain⟨HA,rfl⟩:∃HA,HA=H2:=⟨_,rfl⟩;obtain⟨hk,hSA,hGs,⟨hco1,hco2⟩,hBA,hcv,hci,hFr⟩:=hg;simp only at hk hSA hGs hco1 hco2 hBA hcv hci hFr;have hrA:=hSA.row;simp only[bV,aE]at hrA;have bs0:=hBA.b1;obtain⟨hpc0,hpc,hpj⟩:=hSA.p.one;have hDl:(S.ps.drop k).length=S.ps.length-k:=aNd;refine eA 4 (aG y24 jH qU uS qJ qM (aG qR hrow hrowL bs0 hrA hpj hpc)) ?_;refine LZ (bP (aG qJ qM qR bs0 hrA hpj hpc)) rfl z7 (n:=(S.ps.drop k).length) (by simp only[kC,seval,aE,qJ,qM,qR,bs0,hrA,hpj,hpc]<;>first|done|exact hSA.p.len) (by rw[kD];rfl) ?_;refine bH (aG y3 qJ qM qR hrow hrowL (bD bs0 hrA hpj hpc)) ?_;refine gG (aG qJ qM qR hrow hrowL bs0 (bR hrA hpj hpc)) (λbt24=> ?_) (λbt24=> ?_)
  ·
   have hgt:k<S.ps.length:=by have:=of_decide_eq_true bt24;omega
   obtain⟨rq,hrq⟩:∃r,r=S.ps[k]:=⟨_,rfl⟩;have hdk:S.ps.drop k=rq::S.ps.drop (k+1):=by rw[hrq];exact aOi hgt
   rcases hSA.p.cases2 with⟨e,_,_⟩| ⟨ic,c,pre,rest,hpv,hpd,hHr,hcc,hm1,hm2⟩
   ·simp only at e;rw[hdk]at e;cases e
   simp only at hpv hHr hcc hm1;subst hpv;subst hpd;obtain⟨ge,gf⟩:=xV (enc:=Rq.enc) (sz:=5) Rq.enc_len (pre:=pre) (rest:=rest) (xs:=S.ps.drop k) (i:=0) z8;have hH0:=hHr;obtain⟨RW,hRW⟩:∃R,R=pre++(aL ((S.ps.drop k).map Rq.enc)++rest):=⟨_,rfl⟩;rw[<-hRW]at hHr ge gf;simp only[Nat.zero_mul,aNm]at ge gf;have gf2:(pre.length+5<=RW.length)=True:=eq_true gf;rw[show(S.ps.drop k)[0]'z8=rq from by simp only[hdk,aMn]]at ge;have gagg:PV.agg (rq.enc.cells.map PV.drop1)=rq.enc:=rfl;have gi2:((0:Int)<((S.ps.drop k).length:Int))=True:=by simp;omega
   obtain⟨o,s',hmm,hcon⟩:=aC3 hup hstep hgt hGs (rq:=rq) (by rw[hrq];exact aNq hgt) (S.ps.drop k)
   repeat refine wS ?_
   refine wK ?_
   repeat refine wS ?_
   refine bJ ?_
   repeat refine wS ?_
   refine lM (D:=Nat×Rs×Int×(QK->Nat)×Memo.St×eL) 15 (by kernel_rfl) rfl [0,0,2,6,14,30,62,0,255,511,1023,1023,0,6143,16383] (by kernel_rfl) [(15,2),(16,3),(17,6),(18,8),(0,26),(1,27),(2,28),(3,29),(4,30),(5,31),(6,32),(7,33),(8,34),(9,25),(10,35),(11,36),(12,9),(14,10)] (λd=> [.optr H.length 0, .optr (H.length+1) 0,cv, .fn (.func 64) [] [.optr H.length 0, .optr (H.length+2) 0, .optr (H.length+1) 0], .optr sr 0, .optr sr 0, .optr sr 0, .optr sr 2, .msl ic pre.length (S.ps.drop k).length c, .optr ic pre.length,rq.enc, .fn (.func 64) [] [.optr H.length 0, .optr (H.length+2) 0, .optr (H.length+1) 0], .tup [d.2.1.enc,aE d.2.2.1], .tup [d.2.1.enc,aE d.2.2.1],d.2.1.enc,aE d.2.2.1, .optr d.1 0,aE d.2.2.1]) (λd m HX=>((m 8=false->jR bA n sr ⟨S.ms,S.vs,S.ps.drop k,S.rev⟩ tl1 tl2 (.msl ic pre.length (S.ps.drop k).length c) locz s Gz [ic] HX/\ED sr Gz [ic] H.length (H.length+2) (H.length+1) st.comps N HX/\∀j,j<HA.length->HX[j]? =HA[j]?)/\(m 8=true->jR bA n sr ⟨S.ms,S.vs,S.ps.drop k,S.rev⟩ tl1 tl2 (.msl ic pre.length (S.ps.drop k).length c) d.2.2.2.1 d.2.2.2.2.1 d.2.2.2.2.2 [ic] HX/\ED sr d.2.2.2.2.2 [ic] H.length (H.length+2) (H.length+1) st.comps N HX/\dE (bW sr Gz [ic]) (bW sr d.2.2.2.2.2 [ic]) HA HX/\aD2 S val Good st.comps N k s rq d.2.2.2.2.1 d.2.1 d.2.2.1)/\HA.length<=HX.length/\(m 12=true->HA.length<=d.1/\d.1<HX.length/\(m 13=false->HX[d.1]? =some (.row [.int .i64 0, .int .i64 0, .int .i64 0, .int .i64 0, .slice [] .full, .str []]))/\(m 13=true->HX[d.1]? =some (.row d.2.1.enc.cells))/\(m 8=true->¬bW sr d.2.2.2.2.2 [ic] d.1)))) (0,⟨0,0,0,0,[],[]⟩,0,locz,s,Gz) ⟨.inr rfl, .inr rfl, .inr rfl, .inr rfl, .inl z7, .inl z7, .inl z7, .inl z7, .inl z7, .inl z7, .inl z7, .inl z7, .inl z7, .inl z7, .inl z7, .inl z7, .inl z7, .inl z7,trivial⟩ (⟨λ_=>⟨hSA,hBA,λ_ _=>rfl⟩,λh=>Bool.noConfusion h,aMq _,λh=>Bool.noConfusion h⟩) ⟨?_, ?_, ?_, ?_, ?_, ?_, ?_, ?_, ?_, ?_, ?_, ?_, ?_, ?_, ?_,trivial⟩ ?_
   ·
    intro m d HX hm hp hno hge hg;have n8:=hno 8 rfl;have gS:=hg.1 n8;have hrX:=gS.1.row;simp only[bV,aE]at hrX;have bX:=gS.2.1.b1;have iX:=(gS.2.2 ic (lG hHr)).trans hHr;exact bH (aG y24 qJ qM qR (hge 15 z7) hrX (aG bX iX gi2 ge gf2 gagg (bR vV PF PW))) ⟨d,hg,cU 0 26⟩
   ·
    intro m d HX hm hp hno hge hg;have n8:=hno 8 rfl;have gS:=hg.1 n8;have hrX:=gS.1.row;simp only[bV,aE]at hrX;have bX:=gS.2.1.b1;have iX:=(gS.2.2 ic (lG hHr)).trans hHr;exact bH (aG y24 qJ qM qR (hge 15 z7) hrX (aG bX iX gi2 ge gf2 gagg (bR vV PF PW))) ⟨d,hg,cU 1 27⟩
   ·
    intro m d HX hm hp hno hge hg;have n8:=hno 8 rfl;have gS:=hg.1 n8;have hrX:=gS.1.row;simp only[bV,aE]at hrX;have bX:=gS.2.1.b1;have iX:=(gS.2.2 ic (lG hHr)).trans hHr;exact bH (aG qJ qM qR (hp 1 rfl) hrX bX (aG iX gi2 ge gf2 gagg vV (aS PF PW))) ⟨d,hg,cU 2 28⟩
   ·
    intro m d HX hm hp hno hge hg;have n8:=hno 8 rfl;have gS:=hg.1 n8;have hrX:=gS.1.row;simp only[bV,aE]at hrX;have bX:=gS.2.1.b1;have iX:=(gS.2.2 ic (lG hHr)).trans hHr;exact bH (aG uS qJ qM qR (hp 2 rfl) hrX (aG bX iX gi2 ge gf2 gagg (bR vV PF PW))) ⟨d,hg,cU 3 29⟩
   ·
    intro m d HX hm hp hno hge hg;have n8:=hno 8 rfl;have gS:=hg.1 n8;have hrX:=gS.1.row;simp only[bV,aE]at hrX;have bX:=gS.2.1.b1;have iX:=(gS.2.2 ic (lG hHr)).trans hHr;exact bH (aG jH qU qJ qM qR (hp 3 rfl) (aG hrX bX iX gi2 ge gf2 (bD gagg vV PF PW))) ⟨d,hg,cU 4 30⟩
   ·
    intro m d HX hm hp hno hge hg;have n8:=hno 8 rfl;have gS:=hg.1 n8;have hrX:=gS.1.row;simp only[bV,aE]at hrX;have bX:=gS.2.1.b1;have iX:=(gS.2.2 ic (lG hHr)).trans hHr;exact bH (aG jH qU qJ qM qR (hp 4 rfl) (aG hrX bX iX gi2 ge gf2 (bD gagg vV PF PW))) ⟨d,hg,cU 5 31⟩
   ·
    intro m d HX hm hp hno hge hg;have n8:=hno 8 rfl;have gS:=hg.1 n8;have hrX:=gS.1.row;simp only[bV,aE]at hrX;have bX:=gS.2.1.b1;have iX:=(gS.2.2 ic (lG hHr)).trans hHr;exact bH (aG jH qJ qM qR (hp 5 rfl) hrX (aG bX iX gi2 ge gf2 gagg (bR vV PF PW))) ⟨d,hg,cU 6 32⟩
   ·
    intro m d HX hm hp hno hge hg;have n8:=hno 8 rfl;have gS:=hg.1 n8;have hrX:=gS.1.row;simp only[bV,aE]at hrX;have bX:=gS.2.1.b1;have iX:=(gS.2.2 ic (lG hHr)).trans hHr;exact bH (aG qJ qM qR (hge 18 z7) hrX bX (aG iX gi2 ge gf2 gagg vV (aS PF PW))) ⟨d,hg,cU 7 33⟩
   ·
    intro m d HX hm hp hno hge hg;have n8:m 8=false:=hm;have gS:=hg.1 n8;have hrX:=gS.1.row;simp only[bV,aE]at hrX;have bX:=gS.2.1.b1;have iX:=(gS.2.2 ic (lG hHr)).trans hHr;have m0:=hp 0 rfl;have m6:=hp 6 rfl;have m7:=hp 7 rfl;have n9:=hno 9 rfl;have n10:=hno 10 rfl;have n11:=hno 11 rfl;have n14:=hno 14 rfl;refine oW (aG qJ qM qR m0 m6 m7 (aG hrX bX iX gi2 ge gf2 (bD gagg vV PF PW))) aIi ((id (SU gS.1 gS.2.1 rq fu hml o s' hmm):aR _ _ [.optr sr 0,rq.enc, .fn (.func 64) [] [.optr H.length 0, .optr (H.length+2) 0, .optr (H.length+1) 0]] HX _)) ?_;rintro r HC ⟨loc',st2,G',hRR,hSN,hBN,hF⟩;obtain⟨resp,er,rfl,hst⟩:=hcon st2 r hRR;have ows:∀j,HA.length<=j->¬bW sr Gz [ic] j:=λj hj h=>by have:=hSA.lt j h;omega
    refine oN ⟨(d.1,resp,er,loc',st2,G'),⟨λh=>Bool.noConfusion h,λ_=>⟨hSN,hBN,dE.two hg.2.2.1 gS.2.2 hF,hst⟩,aMr hg.2.2.1 hF.len,λh12=>by
     obtain⟨q1,q2,q3,q4,_⟩:=hg.2.2.2 h12;have n13:=hno 13 rfl;have:=hF.get (q3 n13) (ows _ q1);exact⟨q1,aMs q2 hF.len,λ_=>this.1,oU n13,λ_=>this.2⟩⟩,zV (i:=8) (d:=some 34) (r:=_) ?_⟩
    exact aI ⟨trivial,λ_=>rfl⟩ (aI ⟨trivial,λ_=>rfl⟩ (aI ⟨trivial,λ_=>rfl⟩ (aI ⟨trivial,λ_=>rfl⟩ (aI ⟨trivial,λ_=>rfl⟩ (aI ⟨trivial,λ_=>rfl⟩ (aI ⟨trivial,λ_=>rfl⟩ (aI ⟨trivial,λ_=>rfl⟩ (aI ⟨trivial,λ_=>rfl⟩ (aI ⟨trivial,λ_=>rfl⟩ (aI ⟨trivial,λ_=>rfl⟩ (aI ⟨trivial,λ_=>rfl⟩ (aI ⟨rfl,rfl⟩ (aI ⟨trivial,oU n9⟩ (aI ⟨trivial,oU n10⟩ (aI ⟨trivial,oU n11⟩ (aI ⟨trivial,λ_=>rfl⟩ (aI ⟨trivial,oU n14⟩ (trivial))))))))))))))))))
   ·
    intro m d HX hm hp hno hge hg;have hrX:=bs0;have bX:=bs0;have iX:=bs0;exact bH (aG qJ qM qR (hp 8 rfl) hrX bX (aG iX gi2 ge gf2 gagg vV (aS PF PW))) ⟨d,hg,cU 9 25⟩
   ·
    intro m d HX hm hp hno hge hg;have hrX:=bs0;have bX:=bs0;have iX:=bs0;exact bH (aG qJ qM qR (hp 9 rfl) hrX bX (aG iX gi2 ge gf2 gagg vV (aS PF PW))) ⟨d,hg,cU 10 35⟩
   ·
    intro m d HX hm hp hno hge hg;have hrX:=bs0;have bX:=bs0;have iX:=bs0;exact bH (aG qJ qM qR (hp 9 rfl) hrX bX (aG iX gi2 ge gf2 gagg vV (aS PF PW))) ⟨d,hg,cU 11 36⟩
   ·
    intro m d HX hm hp hno hge hg;have hrX:=bs0;have bX:=bs0;have iX:=bs0;have n13:=hno 13 rfl;refine bH (aG qO qJ qM qR hrX bX (aG iX gi2 ge gf2 gagg vV (aS PF PW))) ?_;refine⟨(HX.length,d.2),⟨λh=>by
     have q:=hg.1 h;exact⟨q.1.app _,q.2.1.fr (λj hj=>aM0 hj),λj hj=>(aM0 (aMs hj hg.2.2.1)).trans (q.2.2 j hj)⟩,λh=>by
     have q:=hg.2.1 h;exact⟨q.1.app _,q.2.1.fr (λj hj=>aM0 hj),q.2.2.1.trans (dE.app _ _ _ q.1.lt),q.2.2.2⟩,by rw[aNo];exact aMr hg.2.2.1 (Nat.le_add_right _ _),λ_=>⟨hg.2.2.1,zz,λ_=>zz,oU n13,λh=>λhh=>by have:=(hg.2.1 h).1.lt _ hh;omega⟩⟩,zV (i:=12) (d:=some 9) (r:=_) ?_⟩
    exact aI ⟨trivial,λ_=>rfl⟩ (aI ⟨trivial,λ_=>rfl⟩ (aI ⟨trivial,λ_=>rfl⟩ (aI ⟨trivial,λ_=>rfl⟩ (aI ⟨trivial,λ_=>rfl⟩ (aI ⟨trivial,λ_=>rfl⟩ (aI ⟨trivial,λ_=>rfl⟩ (aI ⟨trivial,λ_=>rfl⟩ (aI ⟨trivial,λ_=>rfl⟩ (aI ⟨trivial,λ_=>rfl⟩ (aI ⟨trivial,λ_=>rfl⟩ (aI ⟨trivial,λ_=>rfl⟩ (aI ⟨trivial,λ_=>rfl⟩ (aI ⟨trivial,λ_=>rfl⟩ (aI ⟨trivial,λ_=>rfl⟩ (aI ⟨trivial,λ_=>rfl⟩ (aI ⟨rfl,rfl⟩ (aI ⟨trivial,λ_=>rfl⟩ (trivial))))))))))))))))))
   ·
    intro m d HX hm hp hno hge hg;have hrX:=bs0;have bX:=bs0;have iX:=bs0;have m12:=hp 12 rfl;have m8:=hp 8 rfl;obtain⟨q1,q2,q3,q4,q5⟩:=hg.2.2.2 m12;have q3:=q3 hm;have q5:=q5 m8;have gS:=hg.2.1 m8;have ndX:(d.1=HX.length)=False:=by simp;omega
    have dB:d.1≠H.length/\d.1≠(H.length+2)/\d.1≠(H.length+1):=by have:=lG hBA.b1;have:=lG hBA.b2;have:=lG hBA.b3;refine⟨?_, ?_, ?_⟩<;>omega
    have ns:∀ob,jR bA n sr ⟨S.ms,S.vs,S.ps.drop k,S.rev⟩ tl1 tl2 (.msl ic pre.length (S.ps.drop k).length c) d.2.2.2.1 d.2.2.2.2.1 d.2.2.2.2.2 [ic] (HX.set d.1 ob):=λob=>gS.1.fr (aM5 (by have:=lG hSA.go;omega)) λid hi=>aM5 (by rintro rfl;exact q5 hi);have nf:∀ob,dE (bW sr Gz [ic]) (bW sr d.2.2.2.2.2 [ic]) HA (HX.set d.1 ob):=λob=>⟨by rw[lS];exact hg.2.2.1,λid h1 h2=>by rw[aM5 z8];exact gS.2.2.1.same id h1 h2,gS.2.2.1.ids⟩;refine bH (aG qO qJ qM qR (hp 10 rfl) m12 (aG hrX bX iX gi2 ge gf2 (aG gagg vV PF PW ndX q3 Rs.enc_cells))) ?_;refine⟨d,⟨oU m8,λ_=>⟨ns _,gS.2.1.set dB,nf _,gS.2.2.2⟩,by rw[lS];exact hg.2.2.1,λ_=>⟨q1,by rw[lS];exact q2,λh=>Bool.noConfusion h,λ_=>aM4 q2,λ_=>q5⟩⟩,Zt0 13⟩
   ·
    intro m d HX hm hp hno hge hg;have hrX:=bs0;have bX:=bs0;have iX:=bs0;exact bH (aG qJ qM qR (hp 11 rfl) hrX bX (aG iX gi2 ge gf2 gagg vV (aS PF PW))) ⟨d,hg,cU 14 10⟩
   intro d HF hg;obtain⟨al,rs,er,loc',st2,G'⟩:=d;obtain⟨_,g2,hlF,g5⟩:=hg;obtain⟨hSF,hBF,hFF,hst⟩:=g2 rfl;obtain⟨q1,q2,_,q4,q5⟩:=g5 rfl;have q4:=q4 rfl;have q5:=q5 rfl;simp only at hSF hBF hFF q1 q2 q4 q5 hst;rw[Rs.enc_cells]at q4;obtain⟨hGd,hc1,hc2,hor⟩:=hst;have hF0:dE (bW sr G pid) (bW sr G' [ic]) H HF:=hFr.trans hFF;have hcF:∀i∈cid,HF[i]? =HA[i]? /\¬bW sr G' [ic] i:=λi hi=>by
    have hlt:=hcv.lt i hi;exact⟨hFF.same i hlt (hci i hi).1,λh=>(hci i hi).1 (hFF.ids i h hlt)⟩
   refine eG (F:=gM [(2, .optr H.length 0),(3, .optr (H.length+1) 0),(6,cv),(8, .fn (.func 64) [] [.optr H.length 0, .optr (H.length+2) 0, .optr (H.length+1) 0]),(9, .optr al 0),(10,aE er)]) (cO ⟨rfl,rfl,rfl,rfl,rfl,rfl,trivial⟩) ?_;refine gQ [2,3,6,8,9,10] (aG qJ qM qR hrow hrowL bs0 (bR hrA hpj hpc)) ?_;refine aV (aG EN qJ qM qR hrow hrowL (bD bs0 hrA hpj hpc)) ?_;refine gG (aG qJ qM qR hrow hrowL bs0 (bR hrA hpj hpc)) (λbt38=> ?_) (λbt38=> ?_)
   ·
    have he12:er=12/\EI st.comps N s.comps=true:=by
     rcases hor with⟨rfl,_⟩|h
     ·simp at bt38
     ·exact h
    have hcX:=hcv.fr (H':=HF) λi hi=>(hcF i hi).1;have hSX:=hSF;have hFX:=hF0;have hiX:∀i∈cid,¬bW sr G' [ic] i/\H.length+2<i:=λi hi=>⟨(hcF i hi).2,(hci i hi).2⟩
    repeat refine wS ?_
    refine dO ?_;simp only[bQ,cB,reduceIte,Nat.reduceEqDiff,aOf,if_true,if_false];refine iN Rs.enc_len z7 6 hcX rfl λHQ hlQ hsQ=> ?_;have hsv:=hSX.fr (H':=HQ) (hsQ 0 λh=>by have:=(hiX 0 h).2;omega) λj hj=>hsQ j λh=>(hiX j h).1 hj;have hfr:=hFX.upd (Nat.le_of_eq hlQ.symm) λj hj=>hsQ j λh=>by have:=(hiX j h).2;omega
    refine aV (bR qJ qM qR) ?_
    repeat refine wS ?_
    refine wT ⟨.inr rfl,_,(bI (.tmp 4) (.tmp 5) rfl (aM z7) (aM z7)), ?_⟩;exact .inr ⟨hN0,k,st2,loc',G',_,[ic],hk, .inl (aHd he12.2 hco1 hco2 z8),⟨_,z8,hGd⟩,rfl,hsv,hfr⟩
   ·
    obtain⟨he0,hrs⟩:er=0/\rs=qL S val rq:=by
     rcases hor with h| ⟨rfl,_⟩
     ·exact h
     ·simp at bt38
    repeat refine wS ?_
    refine wK ?_;refine eA 3 (aG y35 qO qJ qM qR hrow (cF hrowL bs0 hrA hpj hpc q4)) ?_;refine dX (enc:=Rs.enc) (sz:=6) Rs.enc_len HJ z7 (cv:=cv) (xs:=(S.ps.take k).map (qL S val)) (a:=rs) (cid:=cid) (bP (bD qJ qM qR q4)) rfl z7 z7 (bK (bD qJ qM qR q4)) (bK (bD qJ qM qR q4)) (hcv.fr λi hi=>(hcF i hi).1) wJ rfl (by show(_+1)*72<=_;simp;omega) (by simp;omega) (by rw[wJ];rfl) KU rfl ?_;intro cv2 cid2 HB hk2 hi2 hl2 hs2;refine bH (aG qJ qM qR hrow hrowL bs0 (bD hrA hpj hpc q4)) ?_;have hd2:∀i∈cid2,¬bW sr G' [ic] i/\(H.length+2)<i:=λi hi=>by
     rcases hi2 i hi with h|h
     ·exact⟨(hcF i h).2,(hci i h).2⟩
     ·refine⟨λhh=>by have:=hSF.lt i hh;omega,by have:=lG hBF.b2;omega⟩
    have hB0:∀j,j<HF.length->j∉cid->HB[j]? =HF[j]? :=hs2;have nci:∀j,bW sr G' [ic] j->j∉cid:=λj hj h=>(hcF j h).2 hj;have ncb:∀j,j<=(H.length+2)->j∉cid:=λj hj h=>by have:=(hci j h).2;omega
    have hSB:jR bA n sr ⟨S.ms,S.vs,S.ps.drop k,S.rev⟩ tl1 tl2 (.msl ic pre.length (S.ps.drop k).length c) loc' st2 G' [ic] HB:=hSF.fr (hB0 0 (lG hSF.go) (ncb 0 z8)) λj hj=>hB0 j (hSF.lt j hj) (nci j hj);have hBB:ED sr G' [ic] H.length (H.length+2) (H.length+1) st.comps N HB:=⟨(hB0 H.length (lG hBF.b1) (ncb H.length z8)).trans hBF.b1,(hB0 (H.length+2) (lG hBF.b2) (ncb (H.length+2) z8)).trans hBF.b2,(hB0 (H.length+1) (lG hBF.b3) (ncb (H.length+1) z8)).trans hBF.b3,hBF.o1,hBF.o2,hBF.o3,hBF.z⟩;have hrB:=hSB.row;simp only[bV,aE]at hrB;have bB:=hBB.b1
    repeat refine wS ?_
    refine lM (D:=Unit) 9 (by kernel_rfl) rfl [0,0,2,6,14,30,63,127,255] (by kernel_rfl) [(9,2),(10,3),(11,6),(12,8),(0,43),(1,44),(2,45),(3,46),(4,47),(5,48),(6,49),(7,50)] (λd=> [.optr H.length 0, .optr (H.length+1) 0,cv2, .fn (.func 64) [] [.optr H.length 0, .optr (H.length+2) 0, .optr (H.length+1) 0], .optr sr 0, .optr sr 0, .optr sr 0, .optr sr 2, .msl ic pre.length (S.ps.drop k).length c, .msl ic (nJ pre.length 5 1 c) ((S.ps.drop k).length -1) (c-1), .optr sr 0, .optr sr 2]) (λd m HX=>((m 8=false->HX=HB)/\(m 8=true->HX=HB.set sr (bV ⟨S.ms,S.vs,S.ps.drop (k+1),S.rev⟩ tl1 tl2 (.msl ic (nJ pre.length 5 1 c) ((S.ps.drop k).length -1) (c-1)) n)))) () ⟨.inr rfl, .inr rfl, .inr rfl, .inr rfl, .inl z7, .inl z7, .inl z7, .inl z7, .inl z7, .inl z7, .inl z7, .inl z7,trivial⟩ (⟨λ_=>rfl,λh=>Bool.noConfusion h⟩) ⟨?_, ?_, ?_, ?_, ?_, ?_, ?_, ?_, ?_,trivial⟩ ?_
    ·
     intro m d HX hm hp hno hge hg;have n8:=hno 8 rfl;have hXe:=hg.1 n8;have hrX:=hrB;rw[<-hXe]at hrX;have bX:=bB;rw[<-hXe]at bX;have cX:(sr=HX.length)=False:=by have:=lG hrX;simp;omega
     exact bH (aG y24 qJ qM qR (hge 9 z7) hrX bX) ⟨d,hg,cU 0 43⟩
    ·
     intro m d HX hm hp hno hge hg;have n8:=hno 8 rfl;have hXe:=hg.1 n8;have hrX:=hrB;rw[<-hXe]at hrX;have bX:=bB;rw[<-hXe]at bX;have cX:(sr=HX.length)=False:=by have:=lG hrX;simp;omega
     exact bH (aG y24 qJ qM qR (hge 9 z7) hrX bX) ⟨d,hg,cU 1 44⟩
    ·
     intro m d HX hm hp hno hge hg;have n8:=hno 8 rfl;have hXe:=hg.1 n8;have hrX:=hrB;rw[<-hXe]at hrX;have bX:=bB;rw[<-hXe]at bX;have cX:(sr=HX.length)=False:=by have:=lG hrX;simp;omega
     exact bH (cF qJ qM qR (hp 1 rfl) hrX bX) ⟨d,hg,cU 2 45⟩
    ·
     intro m d HX hm hp hno hge hg;have n8:=hno 8 rfl;have hXe:=hg.1 n8;have hrX:=hrB;rw[<-hXe]at hrX;have bX:=bB;rw[<-hXe]at bX;have cX:(sr=HX.length)=False:=by have:=lG hrX;simp;omega
     exact bH (aG uS qJ qM qR (hp 2 rfl) hrX bX) ⟨d,hg,cU 3 46⟩
    ·
     intro m d HX hm hp hno hge hg;have n8:=hno 8 rfl;have hXe:=hg.1 n8;have hrX:=hrB;rw[<-hXe]at hrX;have bX:=bB;rw[<-hXe]at bX;have cX:(sr=HX.length)=False:=by have:=lG hrX;simp;omega
     exact bH (aG jH qU qJ qM qR (hp 3 rfl) (aS hrX bX)) ⟨d,hg,cU 4 47⟩
    ·
     intro m d HX hm hp hno hge hg;have n8:=hno 8 rfl;have hXe:=hg.1 n8;have hrX:=hrB;rw[<-hXe]at hrX;have bX:=bB;rw[<-hXe]at bX;have cX:(sr=HX.length)=False:=by have:=lG hrX;simp;omega
     have m4:=hp 4 rfl;refine fE (bP (bD qJ qM qR m4)) (jW (lo:=some (.const (.int .i64 1))) (hi:=none) (mx:=none) (l:=1) (h:=(S.ps.drop k).length) (m:=c) rfl z7 kD (bK (bD qJ qM qR m4)) (⟨z7,rfl⟩) (rfl) (rfl) zz z8 z8 z8) ?_;exact oN ⟨(),hg,TH 5 48⟩
    ·
     intro m d HX hm hp hno hge hg;have n8:=hno 8 rfl;have hXe:=hg.1 n8;have hrX:=hrB;rw[<-hXe]at hrX;have bX:=bB;rw[<-hXe]at bX;have cX:(sr=HX.length)=False:=by have:=lG hrX;simp;omega
     exact bH (cF qJ qM qR (hp 0 rfl) hrX bX) ⟨d,hg,cU 6 49⟩
    ·
     intro m d HX hm hp hno hge hg;have n8:=hno 8 rfl;have hXe:=hg.1 n8;have hrX:=hrB;rw[<-hXe]at hrX;have bX:=bB;rw[<-hXe]at bX;have cX:(sr=HX.length)=False:=by have:=lG hrX;simp;omega
     exact bH (aG uS qJ qM qR (hp 6 rfl) hrX bX) ⟨d,hg,cU 7 50⟩
    ·
     intro m d HX hm hp hno hge hg;have n8:m 8=false:=hm;have hXe:=hg.1 n8;have hrX:=hrB;rw[<-hXe]at hrX;have bX:=bB;rw[<-hXe]at bX;have cX:(sr=HX.length)=False:=by have:=lG hrX;simp;omega
     refine bH (aG jH qU qJ qM qR (hp 5 rfl) (bD (hp 7 rfl) hrX bX cX)) ?_;exact⟨(),⟨λh=>Bool.noConfusion h,λ_=>by rw[hXe];rfl⟩,Zt0 8⟩
    intro d HF hg;obtain rfl:=hg.2 rfl;obtain⟨hSN,hFN⟩:=hSB.setPs (H2:=HB.set sr (bV ⟨S.ms,S.vs,S.ps.drop (k+1),S.rev⟩ tl1 tl2 (.msl ic (nJ pre.length 5 1 c) ((S.ps.drop k).length -1) (c-1)) n)) (ps':=S.ps.drop (k+1)) (pv':=.msl ic (nJ pre.length 5 1 c) ((S.ps.drop k).length -1) (c-1)) (pid':= [ic]) (by rw[lS];exact aMq _) (YX hSB.p hdk (λe=>hSB.ns.2 (by rw[e];simp))) (aM4 (lG hrB)) (λj hj h1 h2=>aM5 (Ne.symm h2)) (λj hj=>.inl hj);have hBN:ED sr G' [ic] H.length (H.length+2) (H.length+1) st.comps N (HB.set sr (bV ⟨S.ms,S.vs,S.ps.drop (k+1),S.rev⟩ tl1 tl2 (.msl ic (nJ pre.length 5 1 c) ((S.ps.drop k).length -1) (c-1)) n)):=hBB.set ⟨λe=>hBB.o1 (.inr (.inl e.symm)),λe=>hBB.o2 (.inr (.inl e.symm)),λe=>hBB.o3 (.inr (.inl e.symm))⟩
    try simp only[bQ,cB]
    exact⟨(k+1,st2,loc',G',_,[ic],cv2,cid2),by show _<_;omega,(by repeat (first|exact trivial|refine⟨rfl, ?_⟩)),hgt,hSN,hGd,⟨Int.le_trans hco1 hc1,by show st2.comps<=st.comps+((k+1:Nat):Int);omega⟩,hBN,by rw[List.take_succ_eq_append_getElem hgt,aN3,<-hrq,List.map_singleton,<-hrs];exact hk2.fr (λi hi=>aM5 (λe=>(hd2 i hi).1 (.inr (.inl e.symm)))),hd2,(hF0.upd hl2 λj hj=>hB0 j (aMs hj hF0.len) (ncb j z8)).trans hFN⟩
  ·
   have hge:=of_decide_eq_false bt24;obtain rfl:k=S.ps.length:=z8
   have hcX:=hcv;have hSX:=hSA;have hFX:=hFr;have hiX:=hci
   repeat refine wS ?_
   refine dO ?_;simp only[bQ,cB,reduceIte,Nat.reduceEqDiff,aOf,if_true,if_false];refine iN Rs.enc_len z7 6 hcX rfl λHQ hlQ hsQ=> ?_;have hsv:=hSX.fr (H':=HQ) (hsQ 0 λh=>by have:=(hiX 0 h).2;omega) λj hj=>hsQ j λh=>(hiX j h).1 hj;have hfr:=hFX.upd (Nat.le_of_eq hlQ.symm) λj hj=>hsQ j λh=>by have:=(hiX j h).2;omega
   refine aV (bR qJ qM qR) ?_
   repeat refine wS ?_
   refine wT ⟨.inr rfl,_,(bI (.tmp 4) (.tmp 5) rfl (aM z7) (aM z7)), ?_⟩;exact .inr ⟨hN0,S.ps.length,s,locz,Gz,pvz,pidz,aMq _, .inr rfl,⟨_,Nat.le_succ _,hGs⟩,rfl,hsv,hfr⟩
end Go.Abs
namespace Go.Abs
open Go.RowKit
theorem eR.sel{V:cG}{N:Nat}{a:Act}{T T':aJ}(ht:eR V N a T)(h:∀i,T' i= .junk\/T' i=T i):eR V N a T':=⟨ht.size,ht.defers,λi hi=>by
 rcases h i with e|e
 ·rw[e];exact .junk _
 ·rw[e];exact ht.rel i hi⟩
theorem JI{T:aJ}:∀(l:List (Nat×PV)),(∀p∈l,T p.1=p.2)->∀i,gM l i= .junk\/gM l i=T i
 | [],_,i=>.inl rfl
 | (d,v)::l,h,i=>by
  simp only[gM,upd]
  split
  ·rename_i e;subst e;exact .inr (h (i,v) zz).symm
  ·exact JI l (λp hp=>h p (by simp[hp])) i
section
variable{P:Program}{N nb:Nat}{ops:Array Oper}{C C':aK->Prop}{K:Exit->Act->World->Prop}{T:aJ}{H:aH}
def XU(P:Program)(N:Nat)(C:aK->Prop)(K:Exit->Act->World->Prop)(c:Code)(T:aJ)(H:aH):Prop:=∀(E:aK) (a:Act),C E->E.Ok->E.H=H->eR E.view N a T->c.wp P K a E.w
def XLU(P:Program)(N:Nat)(C:aK->Prop)(K:Exit->Act->World->Prop)(ops:Array Oper)(l:List Oper)(T:aJ)(H:aH):Prop:=∀(E:aK) (a:Act),C E->E.Ok->E.H=H->eR E.view N a T->wpList P ops K l a E.w
def XPU(N:Nat)(C:aK->Prop)(K:Act->World->Prop)(T:aJ)(H:aH):Prop:=∀(E:aK) (a:Act),C E->E.Ok->E.H=H->eR E.view N a T->K a E.w
def OL(nb:Nat)(C:aK->Prop):Prop:=∀E E':aK,C E->E.Ok->E.leN nb E'->E'.Ok->C E'
theorem mV{c:Code}(hC:OL nb C)(h:fO P N nb c (λe T' H'=>XPU N C (K e) T' H') T H):XU P N C K c T H:=
 λE a hc ho hH ht=>wp_mono (h E a ho hH ht) λe a' w' ⟨E',T',h1,h2,h3,h4,h5⟩=>h1▸h5 E' a' (hC E E' hc ho h2 h3) h3 rfl h4
theorem jY{y:Code}(h:XU P N C K y T H):XPU N C ((Exit.then (λa w=>y.wp P K a w) K) .normal) T H:=h
theorem aEz{c:Code}(l:List (Nat×PV))(hl:∀p∈l,T p.1=p.2)(h:XU P N C K c (gM l) H):XU P N C K c T H:=λE a hc ho hH ht=>h E a hc ho hH (ht.sel (JI l hl))
theorem jT{x y:Code}(h:XU P N C (Exit.then (λa w=>y.wp P K a w) K) x T H):XU P N C K (.seq x y) T H:=λE a hc ho hH ht=>wp_seq (h E a hc ho hH ht)
theorem KL{id:Nat}{c:Code}(h:XU P N C (Exit.inBlock id K) c T H):XU P N C K (.block id c) T H:=λE a hc ho hH ht=>wp_block (h E a hc ho hH ht)
theorem OU{id:Nat}(h:XLU P N C K ops ops.toList T H):XU P N C K (.region id ops false) T H:=λE a hc ho hH ht=>wp_region_list (h E a hc ho hH ht)
theorem HW(h:XPU N C (K .normal) T H):XLU P N C K ops [] T H:=h
theorem KG{o:Oper}{l:List Oper}{v:PV}(hC:OL nb C)(hw:aZ ops.toList T N o=some true)(hok:dC N o.op=true)(hv:fN P false H.length T H o.op=some (v,none))(h:XLU P N C K ops l (bT T o.dst v) H):XLU P N C K ops (o::l) T H:=by
 intro E a hc ho hH ht;subst hH;obtain⟨E',val,h1,h2,h3,h4,h5⟩:=rI (E:=E) ho ht hok (mt:=false) (fresh:=E.H.length) (v:=v) (eff:=none) hv (λ_ h=>by cases h);refine dS (bY ht hw) ?_;have hn:=h E' (a.put o.dst val) (hC E E' hc ho (h2.leN nb) h3) h3 h4 ((ht.mono h2.view).put o.dst h5);unfold Oper.wp;rcases h1 with h1| ⟨h1,rfl⟩
 ·rw[h1];exact hn
 ·rw[h1];exact hn
theorem HO{o:Oper}{l:List Oper}{f:FuncId}{args:List PV}{R:PV->aH->Prop}(hcall:iC T o.op=some (f,args))(hw:aZ ops.toList T N o=some true)(hok:dC N o.op=true)(hgo:bO P f=true)
  (hc:∀(E:aK) (vargs:Array Value),C E->E.Ok->E.H=H->RL E.view vargs args->Calls P f vargs E.w λe w'=>∃(E':aK) (v:Value) (r:PV),e= .returned v/\E'.w=w'/\C' E'/\E'.Ok/\E.view.le E'.view/\aQ E'.view v r/\R r E'.H)
  (h:∀r H',R r H'->XLU P N C' K ops l (bT T o.dst r) H'):XLU P N C K ops (o::l) T H:=by
 obtain⟨fo,xs,ts,pf,pc,hop,hf,hargs⟩:=lF hcall;intro E a hCE ho hH ht;refine dS (bY ht hw) ?_;have hall:∀x∈o.op.operands.toList,aU N x=true:=λx hx=>aNz.1 hok x hx;rw[hop]at hall;simp only[Op.operands,Call.operands]at hall;have hr:=aN ht fo (hall fo zz);rw[hf]at hr;obtain⟨first,caps,hval,h1,h2⟩:∃first caps,a.eval fo= .func (.func f) first caps/\RL E.view first pf/\RL E.view caps pc:=by
  generalize a.eval fo=y at hr;cases hr with
  |fn _ first caps _ _ hf hc hrf hrc=>exact⟨first,caps,rfl,⟨hf,hrf⟩,⟨hc,hrc⟩⟩
 have h3:=vP ht xs (aNz.2 λx hx=>hall x (by simp;right;simpa using hx));have hrl:=iE (iE h1 h3) h2;rw[hargs]at hrl;have hrun:(execOp a.eval o).run P E.w= .ok (.enter f (first++xs.map a.eval++caps)) E.w:=by
  unfold execOp;rw[hop];simp only[resolve,hval,Deferred.ofValue,aM9,aNc,aNa,invoke,lI hgo]
 unfold Oper.wp;rw[hrun];refine(hc E _ hCE ho hH hrl).mono ?_;rintro e w' ⟨E',v,r,rfl,rfl,h5,h6,h7,h8,h9⟩;exact h r E'.H h9 E' (a.put o.dst v) h5 h6 rfl ((ht.mono h7).put o.dst h8)
theorem aBq{c:Code}(I:Nat->aK->aJ->Prop)(n0:Nat)(h0:∀E,C E->E.Ok->E.H=H->I n0 E T)
  (round:∀n E a T,I n E T->E.Ok->eR E.view N a T->c.wp P (Exit.then (λa' w'=>∃n' E' T',n'<n/\E'.w=w'/\I n' E' T'/\E'.Ok/\eR E'.view N a' T') K) a E.w):XU P N C K (.loop c) T H:=by
 intro E a hc ho hH ht
 let J:Nat->Act->World->Prop:=λn a w=>∃E T,E.w=w/\I n E T/\E.Ok/\eR E.view N a T
 refine wp_loop (λa w=>∃n,J n a w) (λa w=>zQ (λn=>J n a w)) ⟨n0,E,T,rfl,h0 E hc ho hH,ho,ht⟩ ?_;intro a1 w1 hJ;obtain⟨E1,T1,hw1,hI,ho1,ht1⟩:=rV hJ;have hr:=round _ E1 a1 T1 hI ho1 ht1;rw[hw1]at hr;refine wp_mono hr ?_;intro e a' w' hl;cases e with
 |normal=>
  obtain⟨n',E',T',hn,rfl,hI',ho',ht'⟩:=hl;have hJ':J n' a' E'.w:=⟨E',T',rfl,hI',ho',ht'⟩;exact⟨⟨n',hJ'⟩,Nat.lt_of_le_of_lt (xE hJ') hn⟩
 |_=>exact hl
end
theorem aA1{P:Program}{N:Nat}{H:aH}{f:FuncId}{fn:Func}{c:Code}{args:List PV}{R:PV->aH->Prop}(hf:P.funcs[f]? =some fn)(hb:fn.body=some c)(hN:fn.ntmps=N)(hl:args.length<=N)
  (h:iJ H.length H->∀E0:aK,E0.Ok->E0.H=H->XU P N (λE=>E0.leN H.length E) (λe a w=>∃E' T',E'.w=w/\E0.leN H.length E'/\E'.Ok/\eR E'.view N a T'/\(e= .normal\/e= .ret)/\∃r,fQ P N T' E'.H fn.results.toList=some r/\R r E'.H) c (enter args) H):aR P f args H R:=by
 intro E vargs ho hH hrl;refine calls_of_wp hf hb (wp_mono (h (by have:=ho.hbel;rw[hH]at this;exact this) E ho hH E _ (.refl _ _) ho hH ⟨by simp[hrl.1,hN];omega,rfl,λi hi=> ?_⟩) ?_)
 ·rw[aMt,Array.getElem?_append];unfold enter
  by_cases hia:i<args.length
  ·rw[if_pos (by rw[hrl.1];exact hia),<-aMt,aNj,aNi hia];exact hrl.2 i hia
  ·rw[aNj,aM2 z8];exact .junk _
 ·rintro e a w ⟨E',T',rfl,h2,h3,h4,he,r,hr,hR⟩;obtain⟨val,h5,h6⟩:=lE (P:=P) (fn:=fn) h3 h4 hr;rcases he with rfl|rfl
  ·exact⟨h4.defers,val,h5,E',val,r,rfl,rfl,(hH▸h2:E.leN E.H.length E').le,h3,h6,hR⟩
  ·exact⟨h4.defers,val,h5,E',val,r,rfl,rfl,(hH▸h2:E.leN E.H.length E').le,h3,h6,hR⟩
def aK.forget(E:aK)(id:Nat):aK:= {E with H:=E.H.set id (.glob 0 [])}
section
variable{E:aK}(h:E.Ok){id:Nat}{cs:List PV}(hi:E.H[id]? =some (.row cs))
include h hi
theorem aK.forget_get{x:Nat}{o:AObj}(hx:(E.forget id).H[x]? =some o):(x=id/\o= .glob 0 [])\/(x≠id/\E.H[x]? =some o):=by
 simp only[aK.forget]at hx
 by_cases e:x=id
 ·subst e;rw[aM4 (lG hi)]at hx;exact .inl ⟨rfl,(Option.some.inj hx).symm⟩
 ·rw[aM5 (Ne.symm e)]at hx;exact .inr ⟨e,hx⟩
theorem aK.forget_view:E.view.le (E.forget id).view:=by
 refine⟨λa v hc=>hc,λx ⟨o,h1,h2⟩=> ?_,λx _=>rfl,λx t' hb ht=>⟨t', ?_, .inl rfl⟩⟩
 ·by_cases e:x=id
  ·subst e;exact⟨.glob 0 [],aM4 (lG hi),zz⟩
  ·exact⟨o,by simp only[aK.forget];rw[aM5 (Ne.symm e)];exact h1,h2⟩
 ·simp only[aK.view]at ht⊢
  by_cases e:x=id
  ·subst e;rw[show(E.forget x).H[x]? =some (.glob 0 [])from aM4 (lG hi)]at ht;cases ht
  ·rw[show(E.forget id).H[x]? =E.H[x]? by simp only[aK.forget];rw[aM5 (Ne.symm e)]]at ht;exact ht
theorem aK.forget_owns{b:Nat}(hb:(E.forget id).owns b):E.owns b/\b≠E.ρ id:=by
 rcases hb with⟨x,c,h1,h2⟩| ⟨x,n,sz,h1,h2⟩| ⟨x,k,h1,h2⟩
 ·rcases aK.forget_get h hi h1 with⟨_,e⟩| ⟨e,h1⟩
  ·cases e
  ·exact⟨.inl ⟨x,c,h1,h2⟩,λq=>e (h.injr x id c cs h1 hi (h2.trans q))⟩
 ·rcases aK.forget_get h hi h1 with⟨_,e⟩| ⟨e,h1⟩
  ·cases e
  ·refine⟨.inr (.inl ⟨x,n,sz,h1,h2⟩),λq=> ?_⟩;obtain⟨_,_,_,_,k1⟩:=h.bufs x n sz b h1 h2;obtain⟨_,_,_,_,_,k2⟩:=h.rows id cs hi;rw[q,k2]at k1;cases k1
 ·rcases aK.forget_get h hi h1 with⟨_,e⟩| ⟨e,h1⟩
  ·cases e
  ·refine⟨.inr (.inr ⟨x,k,h1,h2⟩),λq=> ?_⟩;obtain⟨⟨o,k1,k2⟩,_⟩:=h.objs.at_ x k h1;obtain⟨arr,elem,k3,_⟩:=h.rows id cs hi;have h2':E.ρ x=b:=h2;rw[h2',q,k3]at k1;injection k1 with k1;subst k1;exact k2.cells
theorem aK.forget_le:E.le (E.forget id):=⟨rfl,rfl,rfl,aMq _,λ_ _ _=>⟨rfl,rfl⟩,aK.forget_view h hi,λb _ hb=>(aK.forget_owns h hi hb).1⟩
theorem aK.Ok.forget:(E.forget id).Ok:=by
 have hv:=aK.forget_view h hi;refine⟨λx c hx=> ?_,λx n sz b hx hb=> ?_,λx x' c c' h1 h2 e=> ?_,λx x' n sz n' sz' b h1 h2 e1 e2=> ?_,λx b vs hx i hl=> ?_,h.objs.of hv λx k hx=> ?_⟩
 ·rcases aK.forget_get h hi hx with⟨_,e⟩| ⟨e,hx⟩
  ·cases e
  ·obtain⟨arr,elem,k1,k2,k3,k4⟩:=h.rows x c hx;exact⟨arr,elem,k1,k2,λi hl=>(k3 i hl).mono hv,k4⟩
 ·rcases aK.forget_get h hi hx with⟨_,e⟩| ⟨e,hx⟩
  ·cases e
  ·exact h.bufs x n sz b hx hb
 ·rcases aK.forget_get h hi h1 with⟨_,q⟩| ⟨_,h1⟩
  ·cases q
  rcases aK.forget_get h hi h2 with⟨_,q⟩| ⟨_,h2⟩
  ·cases q
  exact h.injr x x' c c' h1 h2 e
 ·rcases aK.forget_get h hi h1 with⟨_,q⟩| ⟨_,h1⟩
  ·cases q
  rcases aK.forget_get h hi h2 with⟨_,q⟩| ⟨_,h2⟩
  ·cases q
  exact h.injb x x' n sz n' sz' b h1 h2 e1 e2
 ·rcases aK.forget_get h hi hx with⟨_,e⟩| ⟨e,hx⟩
  ·injection e with _ e;subst e;simp at hl
  ·exact hv.cell _ _ (h.globs x b vs hx i hl)
 ·rcases aK.forget_get h hi hx with⟨_,e⟩| ⟨e,hx⟩
  ·cases e
  ·exact⟨hx,rfl,rfl,rfl⟩
end
def aK.turn(E:aK)(w':World):aK:= {E with w:=w',κ:=λk=>if k<E.w.heap.size then E.κ k else .mut}
structure aIu(own:Nat->Prop)(w w':World):Prop where
 os:w'.os=w.os
 tape:w'.tape=w.tape
 output:w'.output=w.output
 size:w.heap.size<=w'.heap.size
 block:∀k,k<w.heap.size->¬own k->w'.heap[k]? =w.heap[k]?
section
variable{E:aK}(h:E.Ok){own:Nat->Prop}{w':World}(ht:aIu own E.w w')(hp:∀k,own k->¬E.owns k/\E.κ k= .mut)
include h ht hp
theorem aK.owns_lt{b:Nat}(hb:E.owns b):b<E.w.heap.size:=by
 rcases hb with⟨x,c,h1,h2⟩| ⟨x,n,sz,h1,h2⟩| ⟨x,k,h1,h2⟩
 ·rw[<-h2];exact h.rowBlock h1
 ·exact h.bufBlock h1 h2
 ·rw[<-h2];exact h.objs.lt h1
theorem aK.turn_keep{b:Nat}(hb:E.owns b):(E.turn w').w.heap[b]? =E.w.heap[b]? /\(E.turn w').κ b=E.κ b:=by
 have hl:=aK.owns_lt h ht hp hb;exact⟨ht.block b hl λq=>(hp b q).1 hb,by simp only[aK.turn,if_pos hl]⟩
theorem aK.turn_view:E.view.le (E.turn w').view:=by
 refine⟨λa v hc=> ?_,λx hb=>hb,λx _=>rfl,λx t' hb hx=>⟨t', ?_, .inl rfl⟩⟩
 ·simp only[aK.view]at hc⊢
  split at hc
  ·rename_i hs;have hl:=cell?_lt hc;have hn:¬own a.block:=λq=>by rw[(hp _ q).2]at hs;simp[rN.stable]at hs
   rw[show(E.turn w').κ a.block=E.κ a.block by simp only[aK.turn,if_pos hl],if_pos hs];show w'.cell? a=some v;rw[cell?_congr (ht.block _ hl hn)];exact hc
  ·cases hc
 ·simp only[aK.view]at hx⊢;rw[<-hx];cases e:E.H[x]? with
  |none=>rw[show(E.turn w').H[x]? =E.H[x]? from rfl,e]
  |some o=>
   rw[show(E.turn w').H[x]? =E.H[x]? from rfl,e];cases o with
   |buf n sz=>
    simp only;rw[show(E.turn w').tb x=E.tb x from rfl];cases etb:E.tb x with
    |none=>rfl
    |some b=>rw[aM3,aM3,(aK.turn_keep h ht hp (.inr (.inl ⟨x,n,sz,e,etb⟩))).2]
   |_=>rfl
theorem aK.Ok.turn:(E.turn w').Ok:=by
 have hv:=aK.turn_view h ht hp;refine⟨λx c hx=> ?_,λx n sz b hx hb=> ?_,h.injr,h.injb,h.globs_of hv.cell λ_ _ _ h=>h,h.objs.of hv λx k hx=> ?_⟩
 ·obtain⟨arr,elem,k1,k2,k3,k4⟩:=h.rows x c hx;obtain⟨q1,q2⟩:=aK.turn_keep h ht hp (.inl ⟨x,c,hx,rfl⟩);exact⟨arr,elem,q1.trans k1,k2,λi hl=>(k3 i hl).mono hv,q2.trans k4⟩
 ·obtain⟨arr,elem,pos,k1,k2⟩:=h.bufs x n sz b hx hb;obtain⟨q1,q2⟩:=aK.turn_keep h ht hp (.inr (.inl ⟨x,n,sz,hx,hb⟩));exact⟨arr,elem,pos,q1.trans k1,q2.trans k2⟩
 ·obtain⟨q1,q2⟩:=aK.turn_keep h ht hp (.inr (.inr ⟨x,k,hx,rfl⟩));exact⟨hx,rfl,q1,q2⟩
theorem aK.turn_le{n:Nat}{E0:aK}(h0:E0.leN n E)(hn:∀k,own k->E0.w.heap.size<=k):E0.leN n (E.turn w'):=by
 have hv:=aK.turn_view h ht hp;refine⟨ht.os.trans h0.os,ht.tape.trans h0.tape,ht.output.trans h0.output,aMr h0.size ht.size,λb hb hno=> ?_,λa v hc=>hv.cell _ _ (h0.cell a v hc),λid hid hb=> ?_,λb hb ho=>h0.born b hb ho⟩
 ·obtain⟨e1,e2⟩:=h0.other b hb hno;have hl:=aMs hb h0.size;exact⟨by rw[<-e1];simp only[aK.turn,if_pos hl],by rw[<-e2];exact ht.block b hl λq=>absurd (hn b q) z8⟩
 ·obtain⟨b1,b2,b3⟩:=h0.bornv id hid hb;refine⟨b1,b2,λt' ht'=> ?_⟩;obtain⟨t,q1,q2⟩:=hv.tok id t' b1 ht';obtain⟨t0,q3,q4⟩:=b3 t q1;refine⟨t0,q3, ?_⟩;rcases q2 with rfl|q2
  ·exact q4
  ·rcases q4 with rfl|q4
   ·exact .inr q2
   ·exact .inr z8
end
end Go.Abs
