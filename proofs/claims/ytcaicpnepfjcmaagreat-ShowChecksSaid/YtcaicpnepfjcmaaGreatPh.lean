/- Lemmas of the proof. -/
import Derived.Test.YtcaicpnepfjcmaaGreatPf
set_option linter.all false
set_option maxHeartbeats 64000000
namespace Go.Proofs.YtcaicpnepfjcmaaGreat
open Go Go.RowKit
def b0e:= @Tryz.ntmps22
def b0w:= @Tryz.func22
def b3d:= @Tryz.func27
abbrev De(h:HouseR):List (ByteArray×ByteArray):=D1 h.sets h.sets.length
open Classical in
noncomputable def Gy(h:HouseR)(c:SheetR)(G:List Int):List (ByteArray×ByteArray)->Int
 |[]=>0
 |p::r=>if Cj h c G p then Gy h c G r else(ctR h c G p).2.2
theorem Lv{h:HouseR}{c:SheetR}{G:List Int}:∀{l:List (ByteArray×ByteArray)},(∀p∈l,Cj h c G p)->Gy h c G l=0
 |[],_=>rfl
 |p::r,hg=>by rw[Gy,if_pos (hg p (by simp))];exact Lv fun q hq=>hg q (by simp[hq])
theorem U9{h:HouseR}{c:SheetR}{G:List Int}:∀{l:List (ByteArray×ByteArray)}{k:Nat}{p},l[k]?=some p->(∀j,j<k->∀q,l[j]?=some q->Cj h c G q)->¬Cj h c G p->Gy h c G l=(ctR h c G p).2.2
 |[],k,p,hk,_,_=>by simp at hk
 |x::r,0,p,hk,_,hn=>by
  obtain rfl:x=p:=by simpa using hk
  rw[Gy,if_neg hn]
 |x::r,k+1,p,hk,hj,hn=>by
  rw[Gy,if_pos (hj 0 (by omega) x rfl)]
  exact U9 (k:=k) (by simpa using hk) (fun j hjk q hq=>hj (j+1) (by omega) q (by simpa using hq)) hn
noncomputable def Ia(h:HouseR)(c:SheetR)(G:List Int):List ConR:=if Gy h c G (De h)=0 then Ci h c G (De h)else[]
theorem Z1{h:HouseR}{n:ByteArray}{s:SetR}(hs:s∈h.sets)(hn:s.name=n):¬Aa h n<0:=by
 have h1:¬Aa h n= -1:=Ma ⟨s,hs,hn⟩
 have h2: -1<=Aa h n:=D8 _ _
 omega
theorem A2d{h:HouseR}{p:ByteArray×ByteArray}(hm:p∈De h):¬Aa h p.1<0/\¬Aa h p.2<0:=by
 obtain⟨k,_,a,ha,hx⟩:=mem_prsK.1 hm
 obtain⟨j,_,b,hb,_,rfl⟩:=mem_innN.1 hx
 exact⟨Z1 (a0a ha) rfl,Z1 (a0a hb) rfl⟩
theorem W9{h:HouseR}{c:SheetR}{G:List Int}(p:PlanOk h c G){n:ByteArray}{s:SetR}(hs:Io h n=some s)(he:Bt h c G n=0):okC (Br h c G n)/\Br h c G n≠[]/\(Br h c G n).length<=200:=by
 have hmem:s∈h.sets:=a0a hs
 obtain⟨⟨_,_,s1,s2,s3,_⟩,_⟩:=p.v.1.2.2.2.2.2.1 s hmem
 unfold Bt at he
 unfold Br
 rw[hs]at he⊢
 dsimp only at he⊢
 split at he
 ·unfold Fp at he
  split at he
  ·cases he
  ·rename_i hb
   split at he
   ·cases he
   ·rename_i hl
    exact⟨A5x (Bx (by omega) (by omega)) hb _ (a0n _),Sn _ _ _ _ _ _,by omega⟩
 ·cases he
abbrev Afk:List AV:=[.s ⟨#[]⟩,.i 0,.i 0,.i 0,.i 0,.sl [],.i 0,.i 0,.i 0,.i 0,.i 0,.sl [],.sl []]
noncomputable def pcC(p:ByteArray×ByteArray)(a b:SetR)(x y:List PcQ):Nat->List AV
 |0=>[.s p.1,.s p.2]++Afk++Afk++[.sl [],.sl []]
 |1=>[.s p.1,.s p.2]++a.row.map .lf++Afk++[.sl (x.map PcQ.row),.sl []]
 |_=>[.s p.1,.s p.2]++a.row.map .lf++b.row.map .lf++[.sl (x.map PcQ.row),.sl (y.map PcQ.row)]
theorem A3d(h:HouseR)(c:SheetR)(G:List Int)(p:PlanOk h c G):Fits (Fg h c G)/\0<=Fg h c G/\Fg h c G<=1099511627776:=by
 have he:=p.endI
 have hm:=Eh (endI h c G)
 have h0:(0:Rat)<=(endI h c G:Rat):=Rat.intCast_nonneg.2 he.1
 have h1:(endI h c G:Rat)<=((259845521408:Int):Rat):=a4f.2 he.2
 rw[show((259845521408:Int):Rat)=259845521408 from rfl]at h1
 have hu:Fg h c G=mil (endI h c G):=rfl
 have hf:Fits (A4 (endI h c G) 1000):=Bu (by omega) (by omega) (by omega) (by omega)
 refine⟨hf,?_,?_⟩
 ·rw[hu];grind
 ·rw[hu];grind
theorem N6(b st n k:Nat)(h:b<n):([rT b st k]:List AV).all (AV.under n)=true:=by rw[a6r,Ur _ _ _ _ h];rfl
theorem Sk(h:HouseR)(c:SheetR)(G:List Int)(n:ByteArray):¬Bt h c G n=12:=by
 unfold Bt
 split
 ·split
  ·unfold Fp
   split
   ·decide
   ·split<;>decide
  ·decide
 ·decide
theorem A89(h:HouseR)(c:SheetR)(hf:h.fits)(hc:c.fits)(G:List Int)(hG:G.length<=4611686018427387904)(e0:alE h c G=0):Fz 7 [A0 h.row,A0 c.row,.sl (G.map A1)] (.tup [.sl ((Ia h c G).map ConR.row),.i (Gy h c G (De h))]):=by
 have p:=(Hb e0).1
 have hp:=p.v.1
 have ce:=A35 h c hf hc G hG e0
 obtain⟨ft,t0,t1⟩:=A3d h c G p
 have he:=p.endI
 have cm:=Lm (endI h c G) 1000 (by decide) (by omega) (by omega) (by decide) (by decide) ft
 have cp:=A9b h hf hp
 have hs60:=hp.2.2.2.1
 have hlen:(De h).length<=3600:=a2d (Pe h.sets h.sets.length) (a2d (a5u hs60 hs60) (by decide))
 have hle:((De h).map Ah).length=(De h).length:=a0e _
 have hbad:∀k q,(De h)[k]?=some q->(∀j,j<k->∀q,(De h)[j]?=some q->Cj h c G q)->¬Cj h c G q->Ia h c G=[]/\Gy h c G (De h)=(ctR h c G q).2.2:=fun k q hk hj hn=>by
  have e:=U9 hk hj hn
  refine⟨?_,e⟩
  unfold Ia
  rw[e]
  exact if_neg fun k=>hn (.inl k)
 have hmemp:∀q∈De h,¬Aa h q.1<0/\¬Aa h q.2<0:=fun q hq=>A2d hq
 change Fn0 _ _ _ (.tup [_,.i 0])at cm
 change Fn0 _ _ _ (.tup [.sl ((De h).map Ah),.i 0])at cp
 generalize hprs:De h=prs at*
 have hT:Fg h c G=A4 (endI h c G) 1000:=rfl
 rw[<-hT]at cm
 refine Fo Tryz.func7 ?_
 repeat' first|refine WY ?_|(refine p2a [(8,.ptr 2 0)] Tryz.func21 Tryz.ntmps21 rfl rfl rfl rfl rfl rfl rfl CW rfl ?_;intro vs;simp only[Ak,a3g,a4h])|refine V ?_|refine W2 ?_ ?_<;>intro hc
 refine T.kill 7 ?_
 refine T.kill 8 ?_
 refine p0c (fun j=>j<=prs.length/\∀i,i<j->∀q,prs[i]?=some q->Cj h c G q) (fun j=>prs.length-j) (fun j=>[(49,.i j),(48,.i (prs.map Ah).length),(47,.sl (prs.map Ah)),(3,.fn (.func 22) [] [.ptr 2 0]),(4,.ptr 4 0),(5,.ptr 5 0),(11,.ptr 6 0),(2,.sl (G.map A1))]) (fun j=>[.live (h.row.map .lf),.live (c.row.map .lf),.live [rT 7 4 (Ci h c G (prs.take j)).length],.gho [.ptr 2 0] vs,.live (h.row.map .lf),.live (c.row.map .lf),.live [.i (Fg h c G).num,.i (Fg h c G).den],rB (M5 (Ci h c G (prs.take j))) (Ci h c G (prs.take j)).length,.dead]) 0 ⟨a0k _,by intro i hi;omega⟩ CW (.live rfl (.live rfl (.live rfl (.gho rfl CG)))) ?_
 rintro j ⟨hj,hgo⟩
 by_cases hlt:j<prs.length
 ·have h1:(j:Int)<((prs.map Ah).length:Nat):=by omega
  obtain⟨q,hq⟩:=A2 hlt
  have hb:=A3 (R:=Ah) hq
  obtain⟨n1,n2⟩:=hmemp q (a0a hq)
  obtain⟨a,ha⟩:∃a,h.sets[(Aa h q.1).toNat]?=some a:=Iu n1
  obtain⟨b,hbb⟩:∃b,h.sets[(Aa h q.2).toNat]?=some b:=Iu n2
  have hsa:Io h q.1=some a:=ha
  have hsb:Io h q.2=some b:=hbb
  have rha:(h.sets.map SetR.row)[(Aa h q.1).toNat]?=some a.row:=Ft ha
  have rhb:(h.sets.map SetR.row)[(Aa h q.2).toNat]?=some b.row:=Ft hbb
  have f1:=Vq h hf hp q.1 n1
  have f2:=Vq h hf hp q.2 n2
  have p1:=A3e h c hf hc G hG e0 q.1 n1
  have p2:=A3e h c hf hc G hG e0 q.2 n2
  have hct:ctR h c G q=if Bt h c G q.1=0 then(if Bt h c G q.2=0 then frT a b (Br h c G q.1) (Br h c G q.2) (Fg h c G)else(0,0,Bt h c G q.2))else(0,0,Bt h c G q.1):=by unfold ctR;rw[hsa,hsb]
  have hbd:=hbad j q hq hgo
  have htk:prs.take (j+1)=prs.take j++[q]:=by rw[a0u,hq];rfl
  have hKy:(ctR h c G q).2.2=0->Ci h c G (prs.take (j+1))=Ci h c G (prs.take j)++[⟨q.1,q.2,(ctR h c G q).1,(ctR h c G q).2.1⟩]:=fun e=>by rw[htk];exact A13 e
  have hKn:¬(ctR h c G q).2.2=0->Ci h c G (prs.take (j+1))=Ci h c G (prs.take j):=fun e=>by rw[htk];exact A4u e
  have hLl:(Ci h c G (prs.take j)).length<=3600:=a2d (U1 _ _ _ _) (by rw[a0x];omega)
  have hgo2:Cj h c G q->∀i,i<j+1->∀q,prs[i]?=some q->Cj h c G q:=fun g i hi q' hq'=>by
   by_cases e:i=j
   ·subst e
    rw[hq]at hq'
    injection hq' with hq'
    subst hq'
    exact g
   ·exact hgo i (by omega) q' hq'
  generalize Aa h q.1=i1 at*
  generalize Aa h q.2=i2 at*
  generalize Ci h c G (prs.take j)=LL at*
  repeat' first|refine WX ?_|refine W2 ?_ ?_<;>intro hc
  refine p0c (fun i=>i<=2/\(1<=i->Bt h c G q.1=0)/\(2<=i->Bt h c G q.2=0)) (fun i=>2-i) (fun i=>[(56,.i i),(55,.agg [.s q.1,.s q.2]),(14,.ptr 9 0),(15,.ptr 10 0),(49,.i j),(48,.i (prs.map Ah).length),(47,.sl (prs.map Ah)),(3,.fn (.func 22) [] [.ptr 2 0]),(4,.ptr 4 0),(5,.ptr 5 0),(11,.ptr 6 0),(2,.sl (G.map A1))]) (fun i=>[.live (h.row.map .lf),.live (c.row.map .lf),.live [rT 7 4 (LL).length],.gho [.ptr 2 0] vs,.live (h.row.map .lf),.live (c.row.map .lf),.live [.i (Fg h c G).num,.i (Fg h c G).den],rB (M5 (LL)) (LL).length,.dead,.live [.s q.1,.s q.2],.live (pcC q a b (Br h c G q.1) (Br h c G q.2) i)]) 0 ⟨by omega,fun k=>absurd k (by omega),fun k=>absurd k (by omega)⟩ CW (.live rfl (.live rfl (.live (N6 7 4 _ _ (a0c rfl)) (.gho rfl (.live rfl (.live rfl (.live rfl (p2m (Ac _ _) CG _)))))))) ?_
  rintro i ⟨hi,hi1,hi2⟩
  obtain rfl|rfl|rfl:i=0\/i=1\/i=2:=by omega
  ·have z0:((0:Nat):Int)<2:=by decide
   by_cases pe:Bt h c G q.1=0
   ·rw[show Pa h c G q.1=Br h c G q.1 from if_pos pe,pe]at p1
    repeat' first|refine WY ?_|refine Zdg ?_|refine Zbe ?_|refine V ?_|refine W2 ?_ ?_<;>intro hc
    all_goals(first|(change Next _ _ _ _ _ _)|(trace_state;fail))
    all_goals exact Next.go 1 ⟨by omega,fun _=>pe,fun k=>absurd k (by omega)⟩ (by omega) CW (.live rfl (.live rfl (.live (N6 7 4 _ _ (a0c rfl)) (.gho rfl (.live rfl (.live rfl (.live rfl (p2m (Ac _ _) CG _))))))))
   ·rw[show Pa h c G q.1=[]from if_neg pe]at p1
    rw[if_neg pe]at hct
    rw[hct]at hbd
    have hng:¬Cj h c G q:=fun k=>by
     unfold Cj at k
     rw[hct]at k
     exact k.elim pe (Sk h c G q.1)
    obtain⟨b1,b2⟩:=hbd hng
    rw[b1,b2]
    dsimp only
    generalize Bt h c G q.1=e at*
    repeat' first|refine WY ?_|refine Zdg ?_|refine Zbe ?_|(apply T.ret;(first|change Cx Tryz.prog Tryz.f21 _ _ _ _ _ _|(dsimp only[Bq,Cv];change Cx Tryz.prog Tryz.f21 _ _ _ _ _ _));refine⟨.inr rfl,[_],.cons (.tmp rfl) .nil,rfl,?_⟩;show Reg none _ _ _ _ _ _ _)|refine Zb7 ?_|refine V ?_|refine W2 ?_ ?_<;>intro hc
    all_goals exact D2 rfl rfl rfl
  ·have z0:((1:Nat):Int)<2:=by decide
   have pe1:=hi1 (a0n _)
   by_cases pe:Bt h c G q.2=0
   ·rw[show Pa h c G q.2=Br h c G q.2 from if_pos pe,pe]at p2
    repeat' first|refine WY ?_|refine Zdg ?_|refine Zbe ?_|refine V ?_|refine W2 ?_ ?_<;>intro hc
    all_goals(first|(change Next _ _ _ _ _ _)|(trace_state;fail))
    all_goals exact Next.go 2 ⟨by omega,fun _=>pe1,fun _=>pe⟩ (by omega) CW (.live rfl (.live rfl (.live (N6 7 4 _ _ (a0c rfl)) (.gho rfl (.live rfl (.live rfl (.live rfl (p2m (Ac _ _) CG _))))))))
   ·rw[show Pa h c G q.2=[]from if_neg pe]at p2
    rw[if_pos pe1,if_neg pe]at hct
    rw[hct]at hbd
    have hng:¬Cj h c G q:=fun k=>by
     unfold Cj at k
     rw[hct]at k
     exact k.elim pe (Sk h c G q.2)
    obtain⟨b1,b2⟩:=hbd hng
    rw[b1,b2]
    dsimp only
    generalize Bt h c G q.2=e at*
    repeat' first|refine WY ?_|refine Zdg ?_|refine Zbe ?_|(apply T.ret;(first|change Cx Tryz.prog Tryz.f21 _ _ _ _ _ _|(dsimp only[Bq,Cv];change Cx Tryz.prog Tryz.f21 _ _ _ _ _ _));refine⟨.inr rfl,[_],.cons (.tmp rfl) .nil,rfl,?_⟩;show Reg none _ _ _ _ _ _ _)|refine Zb7 ?_|refine V ?_|refine W2 ?_ ?_<;>intro hc
    all_goals exact D2 rfl rfl rfl
  ·have z0:¬((2:Nat):Int)<2:=by decide
   have pe1:=hi1 (by omega)
   have pe2:=hi2 (by omega)
   obtain⟨ox,x0,nx⟩:=W9 p hsa pe1
   obtain⟨oy,y0,ny⟩:=W9 p hsb pe2
   rw[if_pos pe1,if_pos pe2]at hct
   have ma:=a0a ha
   have mb:=a0a hbb
   have cf:=A77 a b (Br h c G q.1) (Br h c G q.2) ⟨(hp.2.2.2.2.2.1 a ma).1,(hp.2.2.2.2.2.1 b mb).1,hf.2.2 a ma,hf.2.2 b mb,ox,oy,x0,y0,nx,ny⟩ (Fg h c G) ft t0 t1
   unfold Cj at hgo2
   have hng:¬((ctR h c G q).2.2=0\/(ctR h c G q).2.2=12)->Ia h c G=[]/\Gy h c G prs=(ctR h c G q).2.2:=hbd
   rw[hct]at hKy hKn hng hgo2
   generalize frT a b (Br h c G q.1) (Br h c G q.2) (Fg h c G)=r at*
   obtain⟨u,v,e⟩:=r
   dsimp only at*
   generalize Br h c G q.1=xa at*
   generalize Br h c G q.2=xb at*
   by_cases ez:e=0
   ·subst ez
    have hK:=hKy rfl
    have hcl:=Va LL
    have hsn:=T6 LL ⟨q.1,q.2,u,v⟩
    have hln:(LL++[(⟨q.1,q.2,u,v⟩:ConR)]).length=LL.length+1:=by simp
    cases LL with
    |nil=>
     repeat' first|refine WY ?_|refine Zbe ?_|(apply T.ret;(first|change Cx Tryz.prog Tryz.f21 _ _ _ _ _ _|(dsimp only[Bq,Cv];change Cx Tryz.prog Tryz.f21 _ _ _ _ _ _));refine⟨.inr rfl,[_],.cons (.tmp rfl) .nil,rfl,?_⟩;show Reg none _ _ _ _ _ _ _)|(apply T.ret;(first|change Cx Tryz.prog Tryz.f22 _ _ _ _ _ _|(dsimp only[Bq,Cv];change Cx Tryz.prog Tryz.f22 _ _ _ _ _ _));refine⟨.inr rfl,[_],.cons (.tmp rfl) .nil,rfl,?_⟩;show Reg none _ _ _ _ _ _ _)|(refine p2a [(49,.i j),(48,.i (prs.map Ah).length),(47,.sl (prs.map Ah)),(3,.fn (.func 22) [] [.ptr 2 0]),(4,.ptr 4 0),(5,.ptr 5 0),(11,.ptr 6 0),(2,.sl (G.map A1))] Tryz.func22 Tryz.ntmps22 rfl rfl rfl rfl rfl rfl rfl CW rfl ?_;intro vs2;simp only[Ak,List.cons_append,List.nil_append])|refine Zb0 ?_|(apply p0q 7 (rows:=[]);(iterate 8 exact rfl);exact A9 rfl;exact rfl;exact Nat.le_of_ble_eq_true rfl;exact Nat.le_of_ble_eq_true rfl)|refine V ?_|refine W2 ?_ ?_<;>intro hc
     all_goals(first|(change Next _ _ _ _ _ _)|(trace_state;fail))
     all_goals exact Next.go (j+1) ⟨by omega,hgo2 (.inl rfl)⟩ (by omega) (by rw[hK,show(((j+1:Nat):Int))=(j:Int)+1 by omega];exact CW) (by rw[hK];exact .live rfl (.live rfl (.live rfl (.gho rfl CG))))
    |cons l0 LL=>
     have hLl2:LL.length+1<=3600:=hLl
     repeat' first|refine WY ?_|refine Zbe ?_|(apply T.ret;(first|change Cx Tryz.prog Tryz.f21 _ _ _ _ _ _|(dsimp only[Bq,Cv];change Cx Tryz.prog Tryz.f21 _ _ _ _ _ _));refine⟨.inr rfl,[_],.cons (.tmp rfl) .nil,rfl,?_⟩;show Reg none _ _ _ _ _ _ _)|(apply T.ret;(first|change Cx Tryz.prog Tryz.f22 _ _ _ _ _ _|(dsimp only[Bq,Cv];change Cx Tryz.prog Tryz.f22 _ _ _ _ _ _));refine⟨.inr rfl,[_],.cons (.tmp rfl) .nil,rfl,?_⟩;show Reg none _ _ _ _ _ _ _)|(refine p2a [(49,.i j),(48,.i (prs.map Ah).length),(47,.sl (prs.map Ah)),(3,.fn (.func 22) [] [.ptr 2 0]),(4,.ptr 4 0),(5,.ptr 5 0),(11,.ptr 6 0),(2,.sl (G.map A1))] Tryz.func22 Tryz.ntmps22 rfl rfl rfl rfl rfl rfl rfl CW rfl ?_;intro vs2;simp only[Ak,List.cons_append,List.nil_append])|refine Zb0 ?_|(refine Reg.blur 2 0 8 rfl rfl rfl ?_;apply p0h;(iterate 8 exact rfl);exact hcl;exact A9 rfl;exact rfl;exact Aj _ _;simp only[List.length_cons,List.length_nil];omega;simp only[List.length_cons,List.length_nil];omega)|refine V ?_|refine W2 ?_ ?_<;>intro hc
     all_goals(first|(change Next _ _ _ _ _ _)|(trace_state;fail))
     all_goals exact Next.go (j+1) ⟨by omega,hgo2 (.inl rfl)⟩ (by omega) (by rw[hK,show(((j+1:Nat):Int))=(j:Int)+1 by omega];exact CW) (by rw[hK,hsn,hln];exact .live rfl (.live rfl (.live rfl (.gho rfl (.live rfl (.live rfl (.live rfl (.live (by rw[<-a1f];exact Ac _ _) (.dead .nil)))))))))
   ·by_cases e12:e=12
    ·subst e12
     repeat' first|refine WY ?_|refine Zbe ?_|(apply T.ret;(first|change Cx Tryz.prog Tryz.f21 _ _ _ _ _ _|(dsimp only[Bq,Cv];change Cx Tryz.prog Tryz.f21 _ _ _ _ _ _));refine⟨.inr rfl,[_],.cons (.tmp rfl) .nil,rfl,?_⟩;show Reg none _ _ _ _ _ _ _)|(apply T.ret;(first|change Cx Tryz.prog Tryz.f22 _ _ _ _ _ _|(dsimp only[Bq,Cv];change Cx Tryz.prog Tryz.f22 _ _ _ _ _ _));refine⟨.inr rfl,[_],.cons (.tmp rfl) .nil,rfl,?_⟩;show Reg none _ _ _ _ _ _ _)|(refine p2a [(49,.i j),(48,.i (prs.map Ah).length),(47,.sl (prs.map Ah)),(3,.fn (.func 22) [] [.ptr 2 0]),(4,.ptr 4 0),(5,.ptr 5 0),(11,.ptr 6 0),(2,.sl (G.map A1))] Tryz.func22 Tryz.ntmps22 rfl rfl rfl rfl rfl rfl rfl CW rfl ?_;intro vs2;simp only[Ak,List.cons_append,List.nil_append])|refine V ?_|refine W2 ?_ ?_<;>intro hc
     all_goals(first|(change Next _ _ _ _ _ _)|(trace_state;fail))
     all_goals exact Next.go (j+1) ⟨by omega,hgo2 (.inr rfl)⟩ (by omega) (by rw[hKn ez,show(((j+1:Nat):Int))=(j:Int)+1 by omega];exact CW) (by rw[hKn ez];exact .live rfl (.live rfl (.live (N6 7 4 _ _ (a0c rfl)) (.gho rfl (.live rfl (.live rfl (.live rfl (p2m (Ac _ _) (.dead .nil) _))))))))
    ·obtain⟨b1,b2⟩:=hng fun k=>k.elim ez e12
     rw[b1,b2]
     repeat' first|refine WY ?_|refine Zbe ?_|(apply T.ret;(first|change Cx Tryz.prog Tryz.f21 _ _ _ _ _ _|(dsimp only[Bq,Cv];change Cx Tryz.prog Tryz.f21 _ _ _ _ _ _));refine⟨.inr rfl,[_],.cons (.tmp rfl) .nil,rfl,?_⟩;show Reg none _ _ _ _ _ _ _)|(apply T.ret;(first|change Cx Tryz.prog Tryz.f22 _ _ _ _ _ _|(dsimp only[Bq,Cv];change Cx Tryz.prog Tryz.f22 _ _ _ _ _ _));refine⟨.inr rfl,[_],.cons (.tmp rfl) .nil,rfl,?_⟩;show Reg none _ _ _ _ _ _ _)|(refine p2a [(49,.i j),(48,.i (prs.map Ah).length),(47,.sl (prs.map Ah)),(3,.fn (.func 22) [] [.ptr 2 0]),(4,.ptr 4 0),(5,.ptr 5 0),(11,.ptr 6 0),(2,.sl (G.map A1))] Tryz.func22 Tryz.ntmps22 rfl rfl rfl rfl rfl rfl rfl CW rfl ?_;intro vs2;simp only[Ak,List.cons_append,List.nil_append])|refine Zb7 ?_|refine V ?_|refine W2 ?_ ?_<;>intro hc
     all_goals exact D2 rfl rfl rfl
 ·have h1:¬(j:Int)<((prs.map Ah).length:Nat):=by omega
  rw[a0g (by omega)]
  have hall:∀q∈prs,Cj h c G q:=fun q hq=>by
   obtain⟨i,hi⟩:=a2x hq
   exact hgo i (by have:=(a0f.1 hi).1;omega) q hi
  have e1:=Lv hall
  have e2:Ia h c G=Ci h c G prs:=by unfold Ia;rw[hprs,e1];exact if_pos rfl
  rw[e1,e2]
  generalize Ci h c G prs=LL at*
  refine p4y 2 0 7 (rows:=LL.map ConR.row) (Xc _) (a0e _) rfl rfl rfl rfl ?_
  repeat' first|refine WY ?_|(apply T.ret;(first|change Cx Tryz.prog Tryz.f21 _ _ _ _ _ _|(dsimp only[Bq,Cv];change Cx Tryz.prog Tryz.f21 _ _ _ _ _ _));refine⟨.inr rfl,[_],.cons (.tmp rfl) .nil,rfl,?_⟩;show Reg none _ _ _ _ _ _ _)|refine V ?_|refine W2 ?_ ?_<;>intro hc
  all_goals exact D2 rfl rfl rfl
theorem Y0(h:HouseR)(c:SheetR)(hf:h.fits)(hc:c.fits)(G:List Int)(hG:G.length<=4611686018427387904)(e0:¬alE h c G=0):Fz 7 [A0 h.row,A0 c.row,.sl (G.map A1)] (.tup [.sl [],.i (alE h c G)]):=by
 have ce:=Rj h c hf hc G hG e0
 generalize alE h c G=e at*
 refine Fo Tryz.func7 ?_
 repeat' first|refine WY ?_|(refine p2a [(8,.ptr 2 0)] Tryz.func21 Tryz.ntmps21 rfl rfl rfl rfl rfl rfl rfl CW rfl ?_;intro vs;simp only[Ak,List.cons_append,List.nil_append])|(apply T.ret;(first|change Cx Tryz.prog Tryz.f21 _ _ _ _ _ _|(dsimp only[Bq,Cv];change Cx Tryz.prog Tryz.f21 _ _ _ _ _ _));refine⟨.inr rfl,[_],.cons (.tmp rfl) .nil,rfl,?_⟩;show Reg none _ _ _ _ _ _ _)|refine Zb7 ?_|refine V ?_|refine W2 ?_ ?_<;>intro hc
 all_goals exact D2 rfl rfl rfl
open Classical in
noncomputable def ckE(h:HouseR)(c:SheetR)(G:List Int):Int:=if alE h c G=0 then Gy h c G (De h)else alE h c G
open Classical in
noncomputable def ckL(h:HouseR)(c:SheetR)(G:List Int):List ConR:=if alE h c G=0 then Ia h c G else[]
theorem Kn(h:HouseR)(c:SheetR)(hf:h.fits)(hc:c.fits)(G:List Int)(hG:G.length<=4611686018427387904):Fz 7 [A0 h.row,A0 c.row,.sl (G.map A1)] (.tup [.sl ((ckL h c G).map ConR.row),.i (ckE h c G)]):=by
 unfold ckL ckE
 by_cases e0:alE h c G=0
 ·rw[if_pos e0,if_pos e0];exact A89 h c hf hc G hG e0
 ·rw[if_neg e0,if_neg e0];exact Y0 h c hf hc G hG e0
theorem X8{h:HouseR}{c:SheetR}{G:List Int}(e:¬ckE h c G=0):ckL h c G=[]:=by
 unfold ckE at e
 unfold ckL
 split at e
 ·rename_i e0
  rw[if_pos e0]
  unfold Ia
  exact if_neg e
 ·rename_i e0
  exact if_neg e0
theorem A0h{h:HouseR}{c:SheetR}{G:List Int}(e:ckE h c G=0):alE h c G=0/\ckL h c G=Ci h c G (De h):=by
 unfold ckE at e
 split at e
 ·rename_i e0
  refine⟨e0,?_⟩
  unfold ckL Ia
  rw[if_pos e0,if_pos e]
 ·rename_i e0;exact absurd e e0
/-! ### Comparing -/
def M7(a b:Int):Int:=if a<b then-1 else if a>b then 1 else 0
theorem Yc(n:Int):Fz 55 [.i n] (.b false):=by
 have hn:¬¬n=n:=fun k=>k rfl
 refine Fo Tryz.func55 ?_
 repeat' first|refine WX ?_|refine W2 ?_ ?_<;>intro hc
 all_goals exact Dd rfl rfl (congrArg Value.bool (decide_eq_false hn))
theorem Ta(a b:Int):Fz 27 [.i a,.i b] (.i (M7 a b)):=by
 have c1:=Yc a
 have c2:=Yc b
 unfold M7
 by_cases h1:a<b
 ·rw[if_pos h1]
  refine Fo b3d ?_
  repeat' first|refine WX ?_|refine W2 ?_ ?_<;>intro hc
  all_goals exact Dd rfl rfl (by rfl)
 ·rw[if_neg h1]
  by_cases h2:a>b
  ·rw[if_pos h2]
   refine Fo b3d ?_
   repeat' first|refine WX ?_|refine W2 ?_ ?_<;>intro hc
   all_goals exact Dd rfl rfl (by rfl)
  ·rw[if_neg h2]
   refine Fo b3d ?_
   repeat' first|refine WX ?_|refine W2 ?_ ?_<;>intro hc
   all_goals exact Dd rfl rfl (by rfl)
def orI(a b:Int):Int:=if a=0 then b else a
theorem Ahv(a b:Int):Fz 26 [.sl [[.i a],[.i b]]] (.i (orI a b)):=by
 have hl:[A1 a,A1 b].length=2:=rfl
 refine Fo Tryz.func26 ?_
 repeat' first|refine WX ?_|refine W2 ?_ ?_<;>intro hc
 refine p0c (fun k=>k<=2/\(1<=k->a=0)/\(2<=k->b=0)) (fun k=>2-k) (fun k=>[(8,.i k),(7,.i 2),(6,.sl [[.i a],[.i b]]),(3,.i 0)]) (fun _=>[]) 0 ⟨by omega,fun k=>absurd k (by omega),fun k=>absurd k (by omega)⟩ CW .nil ?_
 rintro k ⟨hk,hk1,hk2⟩
 obtain rfl|rfl|rfl:k=0\/k=1\/k=2:=by omega
 ·have z0:((0:Nat):Int)<2:=by decide
  have hb:[[Lf.i a],[Lf.i b]][((0:Nat):Int).toNat]?=some [.i a]:=rfl
  unfold orI
  by_cases ha:a=0
  ·have ha2:¬¬a=0:=fun k=>k ha
   repeat' first|refine WX ?_|refine W2 ?_ ?_<;>intro hc
   exact Next.go 1 ⟨by omega,fun _=>ha,fun k=>absurd k (by omega)⟩ (by omega) CW .nil
  ·rw[if_neg ha]
   repeat' first|refine WX ?_|refine W2 ?_ ?_<;>intro hc
   all_goals exact Dd rfl rfl (by rfl)
 ·have z0:((1:Nat):Int)<2:=by decide
  have hb:[[Lf.i a],[Lf.i b]][((1:Nat):Int).toNat]?=some [.i b]:=rfl
  unfold orI
  rw[if_pos (hk1 (a0n _))]
  by_cases hb0:b=0
  ·have ha2:¬¬b=0:=fun k=>k hb0
   repeat' first|refine WX ?_|refine W2 ?_ ?_<;>intro hc
   exact Next.go 2 ⟨by omega,fun _=>hk1 (a0n _),fun _=>hb0⟩ (by omega) CW .nil
  ·repeat' first|refine WX ?_|refine W2 ?_ ?_<;>intro hc
   all_goals exact Dd rfl rfl (by rfl)
 ·have z0:¬((2:Nat):Int)<2:=by decide
  unfold orI
  rw[if_pos (hk1 (by omega)),hk2 (by omega)]
  repeat' first|refine WX ?_|refine W2 ?_ ?_<;>intro hc
  all_goals exact Dd rfl rfl (by rfl)
theorem Ai8(x m:ConR):orI (M7 x.lo m.lo) (M7 x.hi m.hi)<0↔ltC x m:=by
 unfold orI M7 ltC
 split<;>split at* <;>(try split)<;>(try split at*)<;>omega
theorem A9q(x m:ConR):Fz 25 [A0 x.row,A0 m.row] (.i (orI (M7 x.lo m.lo) (M7 x.hi m.hi))):=by
 have c1:=Ta x.lo m.lo
 have c2:=Ta x.hi m.hi
 generalize M7 x.lo m.lo=u at*
 generalize M7 x.hi m.hi=v at*
 have c3:=Ahv u v
 refine Fo Tryz.func25 ?_
 repeat' first|refine WY ?_|refine Dv 17 ?_|refine Dw 17 ?_|refine Zb4 ?_|refine V ?_|refine W2 ?_ ?_<;>intro hc
 all_goals exact Dd rfl rfl (by rfl)
theorem A22{l:List ConR}(x:ConR)(h:l≠[]):mnL (l++[x])=Uf (mnL l) x:=by
 cases l with
 |nil=>exact absurd rfl h
 |cons y l=>
  show List.foldl Uf y (l++[x])=_
  rw[a2o];rfl
theorem Adu(l:List ConR)(h0:l≠[])(hl:l.length<=1000000):Fz 24 [.sl (l.map ConR.row),.fn (.func 25) [] []] (A0 (mnL l).row):=by
 have hle:=lmA l ConR.row
 have hp:=a1i.2 h0
 have h1:¬((l.map ConR.row).length:Int)<1:=by omega
 obtain⟨x,hx⟩:=A2 hp
 have hb0:(l.map ConR.row)[(0:Int).toNat]?=some (ConR.row x):=A3 (k:=0) hx
 have hx1:mnL (l.take 1)=x:=by
  cases l with
  |nil=>exact absurd rfl h0
  |cons y l=>simp at hx;subst hx;rfl
 refine Fo Tryz.func24 ?_
 repeat' first|refine WX ?_|refine W2 ?_ ?_<;>intro hc
 refine p0c (fun k=>1<=k/\k<=l.length) (fun k=>l.length-k) (fun k=>[(6,.i k),(5,.ptr 1 0),(4,.ptr 0 0),(0,.sl (l.map ConR.row)),(1,.fn (.func 25) [] [])]) (fun k=>[.live [.s ⟨#[]⟩,.s ⟨#[]⟩,.i 0,.i 0],.live ((mnL (l.take k)).row.map .lf)]) 1 ⟨a0n _,hp⟩ CW (by rw[hx1];exact .live rfl (.live rfl .nil)) ?_
 rintro k ⟨hk1,hk⟩
 by_cases hlt:k<l.length
 ·have h2:(k:Int)<((l.map ConR.row).length:Nat):=by omega
  obtain⟨y,hy⟩:=A2 hlt
  have hb:=A3 (R:=ConR.row) hy
  have hne:l.take k≠[]:=fun e=>by have:=congrArg List.length e;rw[a0x,a0m]at this;omega
  have hm:mnL (l.take (k+1))=Uf (mnL (l.take k)) y:=by rw[a0u,hy];exact A22 y hne
  have cf:=A9q y (mnL (l.take k))
  have hlt2:=Ai8 y (mnL (l.take k))
  unfold Uf at hm
  generalize mnL (l.take k)=m at*
  generalize orI (M7 y.lo m.lo) (M7 y.hi m.hi)=o at*
  by_cases ho:o<0
  ·rw[if_pos (hlt2.1 ho)]at hm
   repeat' first|refine WY ?_|refine Da ?_|(apply S.callF;exact rfl;exact rfl;exact cf;exact rfl;exact rfl)|refine V ?_|refine W2 ?_ ?_<;>intro hc
   exact Next.go (k+1) ⟨by omega,by omega⟩ (by omega) (by rw[show(((k+1:Nat):Int))=(k:Int)+1 by omega];exact CW) (by rw[hm];exact .live rfl (.live rfl .nil))
  ·rw[if_neg fun k=>ho (hlt2.2 k)]at hm
   repeat' first|refine WY ?_|refine Da ?_|(apply S.callF;exact rfl;exact rfl;exact cf;exact rfl;exact rfl)|refine V ?_|refine W2 ?_ ?_<;>intro hc
   exact Next.go (k+1) ⟨by omega,by omega⟩ (by omega) (by rw[show(((k+1:Nat):Int))=(k:Int)+1 by omega];exact CW) (by rw[hm];exact .live rfl (.live rfl .nil))
 ·have h2:¬(k:Int)<((l.map ConR.row).length:Nat):=by omega
  rw[a0g (by omega)]
  generalize mnL l=m
  repeat' first|refine WX ?_|refine W2 ?_ ?_<;>intro hc
  exact⟨by simp,[A0 m.row],.cons (Res.row m.row rfl rfl rfl rfl rfl) .nil,.one (.agg (C5 m.row))⟩
/-! ### The first contact -/
abbrev Aj9:ConR:=⟨⟨#[]⟩,⟨#[]⟩,0,0⟩
noncomputable def fiE(h:HouseR)(c:SheetR)(G:List Int):Int:=if ckE h c G=0 then(if(ckL h c G).length=0 then 12 else 0)else ckE h c G
noncomputable def fiC(h:HouseR)(c:SheetR)(G:List Int):ConR:=if ckE h c G=0/\¬(ckL h c G).length=0 then mnL (ckL h c G)else Aj9
theorem A2i{h:HouseR}(hp:Bv h):(De h).length<=3600:=a2d (Pe h.sets h.sets.length) (a2d (a5u hp.2.2.2.1 hp.2.2.2.1) (by decide))
theorem X7{h:HouseR}{c:SheetR}{G:List Int}:(ckL h c G).length<=3600:=by
 by_cases e:ckE h c G=0
 ·obtain⟨e0,e1⟩:=A0h e
  rw[e1]
  exact a2d (U1 _ _ _ _) (A2i (Hb e0).1.v.1)
 ·rw[X8 e];simp
theorem A8a(h:HouseR)(c:SheetR)(hf:h.fits)(hc:c.fits)(G:List Int)(hG:G.length<=4611686018427387904):Fz 8 [A0 h.row,A0 c.row,.sl (G.map A1)] (.tup [A0 (fiC h c G).row,.i (fiE h c G)]):=by
 have ck:=Kn h c hf hc G hG
 have hl:=X7 (h:=h) (c:=c) (G:=G)
 have hle:((ckL h c G).map ConR.row).length=(ckL h c G).length:=a0e _
 unfold fiC fiE
 by_cases e:ckE h c G=0
 ·rw[e]at ck⊢
  by_cases hz:(ckL h c G).length=0
  ·rw[if_pos rfl,if_pos hz,if_neg (fun k=>k.2 hz)]
   generalize ckL h c G=LL at*
   have hz2:((LL.map ConR.row).length:Int)=0:=by omega
   refine Fo Tryz.func8 ?_
   repeat' first|refine WX ?_|refine W2 ?_ ?_<;>intro hc
   all_goals exact D3 rfl rfl rfl rfl rfl rfl rfl
  ·rw[if_pos rfl,if_neg hz,if_pos ⟨rfl,hz⟩]
   have hne:ckL h c G≠[]:=fun k=>hz (by rw[k];rfl)
   have cm:=Adu (ckL h c G) hne (by omega)
   generalize mnL (ckL h c G)=m at*
   generalize ckL h c G=LL at*
   have hz2:¬((LL.map ConR.row).length:Int)=0:=by omega
   refine Fo Tryz.func8 ?_
   repeat' first|refine WX ?_|refine W2 ?_ ?_<;>intro hc
   all_goals exact D3 rfl rfl rfl rfl rfl rfl rfl
 ·rw[if_neg e,if_neg (fun k=>e k.1)]
  rw[X8 e]at ck
  generalize ckE h c G=x at*
  refine Fo Tryz.func8 ?_
  repeat' first|refine WX ?_|refine W2 ?_ ?_<;>intro hc
  all_goals exact D3 rfl rfl rfl rfl rfl rfl rfl
end Go.Proofs.YtcaicpnepfjcmaaGreat
