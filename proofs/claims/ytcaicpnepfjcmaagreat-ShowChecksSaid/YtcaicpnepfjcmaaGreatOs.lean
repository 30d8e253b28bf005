/- Lemmas of the proof. -/
import Derived.Test.YtcaicpnepfjcmaaGreatPc
set_option linter.all false
set_option maxHeartbeats 64000000
namespace Go.Proofs.YtcaicpnepfjcmaaGreat
open Go Go.RowKit
abbrev Aht(l:List SetR):List AV:=(l.map SetR.row).flatten.map .lf
theorem Pz(l:List SetR):∀r∈l.map SetR.row,r.length=13:=by
 intro r hr
 obtain⟨n,_,rfl⟩:=a1d.1 hr
 rfl
theorem Af6(l:List SetR):(l.map SetR.row).flatten.all Lf.one=true:=by
 rw[a0l]
 intro x hx
 obtain⟨r,hr,hxr⟩:=a7q.1 hx
 obtain⟨s,_,rfl⟩:=a1d.1 hr
 simp only[SetR.row,a1q,a2t,or_false]at hxr
 rcases hxr with rfl|rfl|rfl|rfl|rfl|rfl|rfl|rfl|rfl|rfl|rfl|rfl|rfl<;>rfl
theorem A2c(l:List SetR):OwnRows (Aht l) 0 (l.map SetR.row).length 13 (l.map SetR.row):=OwnRows.of (l.map SetR.row).flatten (Pz l) rfl
theorem A76(l:List SetR)(hl:l.length<=1000):FnOwn Tryz.prog 86 [.sl (l.map SetR.row)] (l.map SetR.row) 13:=by
 have hle:=lmA l SetR.row
 refine FnOwn.of Tryz.func86 Tryz.ntmps86 rfl rfl rfl ?_
 simp only[Ak]
 repeat' first|refine W ?_|(apply p4p;exact rfl;exact rfl;intro hnil;rotate_left;rotate_right)|refine Zbt ?_|refine Zd7 (Pz l) (Af6 l) ?_|refine V ?_|refine W2 ?_ ?_<;>intro hc
 all_goals(apply T.ret;change A6u _ _ _ _ _ _)
 ·exact⟨.inr rfl,.inl ⟨_,.cons (.tmp rfl) .nil,rfl,hnil⟩⟩
 ·exact⟨.inr rfl,.inr (.inr ⟨0,.cons (p4h rfl) .nil,rfl⟩)⟩

/-! ### Lists of pairs -/
def Aq(l:List SetR)(k:Nat)(a:SetR):Nat->List (ByteArray×ByteArray)
 |0=>[]
 |j+1=>Aq l k a j++(match l[k+1+j]? with|some b=>if Cu a b then[(a.name,b.name)]else[]|none=>[])
def D1(l:List SetR):Nat->List (ByteArray×ByteArray)
 |0=>[]
 |k+1=>D1 l k++(match l[k]? with|some a=>Aq l k a (l.length-(k+1))|none=>[])
abbrev prC(L:List (ByteArray×ByteArray)):List AV:=(L.map Ah).flatten.map .lf
theorem Sl(L:List (ByteArray×ByteArray)):(prC L).length=L.length*2:=by
 rw[a0e]
 induction L with
 |nil=>rfl
 |cons p L ih=>rw[a2g,a3v,a0s,ih];simp[Ah];omega
theorem Wc(L M:List (ByteArray×ByteArray)):prC (L++M)=prC L++prC M:=by simp[prC]
theorem Aia(L:List (ByteArray×ByteArray)):∀r∈L.map Ah,r.length=2:=by
 intro r hr
 obtain⟨n,_,rfl⟩:=a1d.1 hr
 rfl
theorem Agm(L:List (ByteArray×ByteArray)):OwnRows (prC L) 0 L.length 2 (L.map Ah):=by
 have:=OwnRows.of (L.map Ah).flatten (Aia L) rfl
 rw[a0e]at this
 exact this
theorem A1l{l:List SetR}{k:Nat}{a b:SetR}{j:Nat}(h:l[k+1+j]?=some b)(hn:Cu a b):Aq l k a (j+1)=Aq l k a j++[(a.name,b.name)]:=by rw[Aq,h];simp only[hn,if_true]
theorem A58{l:List SetR}{k:Nat}{a b:SetR}{j:Nat}(h:l[k+1+j]?=some b)(hn:¬Cu a b):Aq l k a (j+1)=Aq l k a j:=by rw[Aq,h];simp only[hn,if_false,a1u]
theorem P2(l:List SetR)(k:Nat)(a:SetR):∀j,(Aq l k a j).length<=j
 |0=>a0n _
 |j+1=>by
  have ih:=P2 l k a j
  rw[Aq,a0s]
  split
  ·split<;>simp<;>omega
  ·simp;omega
theorem Pe(l:List SetR):∀k,(D1 l k).length<=k*l.length
 |0=>by simp[D1]
 |k+1=>by
  have ih:=Pe l k
  rw[D1,a0s,a3u,b0q]
  split
  ·rename_i a _
   have:=P2 l k a (l.length-(k+1))
   omega
  ·simp;omega
theorem A98(X Y Z:List Lf):AH.clear 3 0 [.live (X.map .lf),.live (Y.map .lf),.live (Z.map .lf)]=true:=by
 simp only[AH.clear,HB.clear,Aj]
 rfl
theorem A9b(h:HouseR)(hf:h.fits)(hp:Bv h):Fz 47 [A0 h.row] (.tup [.sl ((D1 h.sets h.sets.length).map Ah),.i 0]):=by
 have hv:=Kj h hf
 rw[decide_eq_true hp]at hv
 have h60:h.sets.length<=60:=hp.2.2.2.1
 have hsP:∀s∈h.sets,Cb s:=fun s hs=>(hp.2.2.2.2.2.1 s hs).1
 have hle:=lmA h.sets SetR.row
 skip
 refine Fo Tryz.func47 ?_
 repeat' first|refine WX ?_|refine W2 ?_ ?_<;>intro hc
 refine T.kill 1 ?_
 refine p0c (fun k=>k<=h.sets.length) (fun k=>h.sets.length-k) (fun k=>[(17,.i k),(4,rT 1 2 (D1 h.sets k).length),(16,.i (h.sets.map SetR.row).length),(15,.sl (h.sets.map SetR.row)),(1,.ptr 0 0)]) (fun k=>[.live (h.row.map .lf),rB (prC (D1 h.sets k)) (D1 h.sets k).length]) 0 (a0k _) CW CG ?_
 intro k hk
 by_cases hlt:(k:Int)<((h.sets.map SetR.row).length:Nat)
 ·obtain⟨a,ha⟩:=A2 (l:=h.sets) (k:=k) (by omega)
  have hb:=A3 (R:=SetR.row) ha
  have hma:=a0a ha
  have hcl:=A76 (h.sets.drop (k+1)) (by rw[a4z];omega)
  have hdr:(h.sets.map SetR.row).drop ((k:Int)+1).toNat=(h.sets.drop (k+1)).map SetR.row:=by rw[show((k:Int)+1).toNat=k+1 by omega,List.map_drop]
  replace hcl:FnOwn Tryz.prog 86 [.sl ((h.sets.map SetR.row).drop ((k:Int)+1).toNat)] ((h.sets.drop (k+1)).map SetR.row) 13:=by rw[hdr];exact hcl
  clear hdr
  have hsl:(h.sets.drop (k+1)).length=h.sets.length-(k+1):=a4z
  have hK:D1 h.sets (k+1)=D1 h.sets k++Aq h.sets k a (h.sets.length-(k+1)):=by rw[D1,ha]
  have hb60:(D1 h.sets k).length<=3600:=a2d (Pe h.sets k) (a2d (a5u (show k<=60 by omega) h60) (by decide))
  have hmm:∀j x,(h.sets.drop (k+1))[j]?=some x->h.sets[k+1+j]?=some x:=fun j x hx=>by rwa[a2r]at hx
  have hms:∀x∈h.sets.drop (k+1),x∈h.sets:=fun x hx=>List.mem_of_mem_drop hx
  rw[<-hsl]at hK
  generalize D1 h.sets k=L at*
  have hle2:((h.sets.drop (k+1)).map SetR.row).length=(h.sets.drop (k+1)).length:=a0e _
  generalize h.sets.drop (k+1)=m at*
  cases L with
  |nil=>
   repeat' first|refine WY ?_|(apply p3g;(iterate 3 exact rfl);omega;(intro row hr;obtain⟨z,_,rfl⟩:=a1d.1 hr;rfl))|(apply p3b 3 hcl;(iterate 4 exact rfl);(first|exact rfl|exact A98 h.row _ a.row);exact rfl;exact Pz m;intro hnil;rotate_left;rotate_right)|refine Zbb ?_|refine V ?_|refine W2 ?_ ?_<;>intro hc
   ·have hm0:m=[]:=a7u.1 hnil
    subst hm0
    refine T.kill 3 ?_
    refine p0c (fun j:Nat=>j=0) (fun _=>0) (fun j=>[(29,.i j),(4,rT 1 2 ([]++Aq h.sets k a j).length),(28,.i ((([]:List SetR)).map SetR.row).length),(27,.sl ((([]:List SetR)).map SetR.row)),(6,.ptr 2 0),(17,.i k),(16,.i (h.sets.map SetR.row).length),(15,.sl (h.sets.map SetR.row)),(1,.ptr 0 0)]) (fun j=>[.live (h.row.map .lf),rB (prC ([]++Aq h.sets k a j)) ([]++Aq h.sets k a j).length,.live (a.row.map .lf),.dead]) 0 rfl (by rw[show[]++Aq h.sets k a 0=[]from a1u _];exact CW) (by rw[show[]++Aq h.sets k a 0=[]from a1u _];exact .live rfl CG) ?_
    intro j hj
    subst hj
    have hltj:¬((0:Nat):Int)<((([]:List SetR).map SetR.row).length:Nat):=by simp
    have hK':[]++Aq h.sets k a 0=D1 h.sets (k+1):=hK.symm
    obtain⟨LL,hLL⟩:∃LL,LL=D1 h.sets (k+1):=⟨_,rfl⟩
    rw[hK',<-hLL]
    repeat' first|refine WX ?_|refine W2 ?_ ?_<;>intro hc
    exact Next.go (k+1) (by omega) (by omega) (by rw[<-hLL];exact(.cons (by rw[show(((k+1:Nat):Int))=(k:Int)+1 by omega];rfl) rfl (.cons rfl (by cases LL<;>rfl) CW))) (by rw[<-hLL];clear hLL;cases LL<;>first|exact .live rfl (.dead .nil)|exact .live rfl (.live (Ac _ _) .nil))
   ·refine T.freeze 27 rfl rfl (A2c m) ?_
    refine p0c (fun j=>j<=(m).length) (fun j=>(m).length-j) (fun j=>[(29,.i j),(4,rT 1 2 ([]++Aq h.sets k a j).length),(28,.i ((m).map SetR.row).length),(27,.sl ((m).map SetR.row)),(6,.ptr 2 0),(17,.i k),(16,.i (h.sets.map SetR.row).length),(15,.sl (h.sets.map SetR.row)),(1,.ptr 0 0)]) (fun j=>[.live (h.row.map .lf),rB (prC ([]++Aq h.sets k a j)) ([]++Aq h.sets k a j).length,.live (a.row.map .lf),.dead]) 0 (a0k _) (by rw[show[]++Aq h.sets k a 0=[]from a1u _];exact CW) (by rw[show[]++Aq h.sets k a 0=[]from a1u _];exact .live rfl CG) ?_
    intro j hj
    by_cases hltj:(j:Int)<(((m).map SetR.row).length:Nat)
    ·obtain⟨x,hx⟩:=A2 (l:=m) (k:=j) (by omega)
     have hbx:=A3 (R:=SetR.row) hx
     have hmx:=hms x (a0a hx)
     have cn:=Q5 a x (hsP a hma) (hsP x hmx) (hf.2.2 a hma) (hf.2.2 x hmx)
     have hj60:=P2 h.sets k a j
     have hll:([]++Aq h.sets k a j).length<=3700:=by rw[a0s];omega
     by_cases hn:Cu a x
     ·rw[decide_eq_true hn]at cn
      have hS:[]++Aq h.sets k a (j+1)=([]++Aq h.sets k a j)++[(a.name,x.name)]:=by rw[A1l (hmm j x hx) hn,a3i]
      have hS2:prC ([]++Aq h.sets k a (j+1))=prC ([]++Aq h.sets k a j)++[.s a.name,.s x.name]:=by rw[hS,Wc];rfl
      have hS3:([]++Aq h.sets k a (j+1)).length=([]++Aq h.sets k a j).length+1:=by rw[hS,a0s];rfl
      have hpc:=Sl ([]++Aq h.sets k a j)
      generalize []++Aq h.sets k a j=LL at*
      cases LL with
      |nil=>
       repeat' first|refine WY ?_|refine Zdt ?_|refine Zb0 ?_|refine Zbd ?_|refine V ?_|refine W2 ?_ ?_<;>intro hc
       exact Next.go (j+1) (by omega) (by omega) (by rw[hS3,show(((j+1:Nat):Int))=(j:Int)+1 by omega];exact CW) (by rw[hS2,hS3];exact .live rfl CG)
      |cons p0 LL=>
       have hll2:LL.length+1<=3700:=hll
       repeat' first|refine WY ?_|refine Zdt ?_|refine Zb0 ?_|(apply p0h;(iterate 8 exact rfl);(first|exact hpc|(rw[Sl];simp only[a0j];omega));exact A9 rfl;exact rfl;exact Aj _ _;simp only[a0j,a0m];omega;simp only[a0j,a0m];omega)|refine V ?_|refine W2 ?_ ?_<;>intro hc
       exact Next.go (j+1) (by omega) (by omega) (by rw[hS3,show(((j+1:Nat):Int))=(j:Int)+1 by omega];exact CW) (by rw[hS2,hS3];exact .live rfl (.live (by rw[a2k,Ac];rfl) CG))
     ·rw[decide_eq_false hn]at cn
      have hS:[]++Aq h.sets k a (j+1)=[]++Aq h.sets k a j:=by rw[A58 (hmm j x hx) hn]
      generalize []++Aq h.sets k a j=LL at*
      repeat' first|refine WX ?_|refine W2 ?_ ?_<;>intro hc
      exact Next.go (j+1) (by omega) (by omega) (by rw[hS,show(((j+1:Nat):Int))=(j:Int)+1 by omega];exact(.cons rfl rfl (.cons rfl (by cases LL<;>rfl) CW))) (by rw[hS];cases LL<;>first|exact .live rfl CG|exact .live rfl (.live (Ac _ _) CG))
    ·obtain rfl:j=(m).length:=by omega
     obtain⟨LL,hLL⟩:∃LL,LL=D1 h.sets (k+1):=⟨_,rfl⟩
     rw[<-hK,<-hLL]
     repeat' first|refine WX ?_|refine W2 ?_ ?_<;>intro hc
     exact Next.go (k+1) (by omega) (by omega) (by rw[<-hLL];exact(.cons (by rw[show(((k+1:Nat):Int))=(k:Int)+1 by omega];rfl) rfl (.cons rfl (by cases LL<;>rfl) CW))) (by rw[<-hLL];clear hLL;cases LL<;>first|exact .live rfl (.dead .nil)|exact .live rfl (.live (Ac _ _) .nil))
  |cons p L=>
   repeat' first|refine WY ?_|(apply p3g;(iterate 3 exact rfl);omega;(intro row hr;obtain⟨z,_,rfl⟩:=a1d.1 hr;rfl))|(apply p3b 3 hcl;(iterate 4 exact rfl);(first|exact rfl|exact A98 h.row _ a.row);exact rfl;exact Pz m;intro hnil;rotate_left;rotate_right)|refine Zbb ?_|refine V ?_|refine W2 ?_ ?_<;>intro hc
   ·have hm0:m=[]:=a7u.1 hnil
    subst hm0
    refine T.kill 3 ?_
    refine p0c (fun j:Nat=>j=0) (fun _=>0) (fun j=>[(29,.i j),(4,rT 1 2 ((p::L)++Aq h.sets k a j).length),(28,.i ((([]:List SetR)).map SetR.row).length),(27,.sl ((([]:List SetR)).map SetR.row)),(6,.ptr 2 0),(17,.i k),(16,.i (h.sets.map SetR.row).length),(15,.sl (h.sets.map SetR.row)),(1,.ptr 0 0)]) (fun j=>[.live (h.row.map .lf),rB (prC ((p::L)++Aq h.sets k a j)) ((p::L)++Aq h.sets k a j).length,.live (a.row.map .lf),.dead]) 0 rfl (by rw[show(p::L)++Aq h.sets k a 0=(p::L)from a1u _];exact CW) (by rw[show(p::L)++Aq h.sets k a 0=(p::L)from a1u _];exact .live rfl (.live (Ac _ _) CG)) ?_
    intro j hj
    subst hj
    have hltj:¬((0:Nat):Int)<((([]:List SetR).map SetR.row).length:Nat):=by simp
    have hK':(p::L)++Aq h.sets k a 0=D1 h.sets (k+1):=hK.symm
    obtain⟨LL,hLL⟩:∃LL,LL=D1 h.sets (k+1):=⟨_,rfl⟩
    rw[hK',<-hLL]
    repeat' first|refine WX ?_|refine W2 ?_ ?_<;>intro hc
    exact Next.go (k+1) (by omega) (by omega) (by rw[<-hLL];exact(.cons (by rw[show(((k+1:Nat):Int))=(k:Int)+1 by omega];rfl) rfl (.cons rfl (by cases LL<;>rfl) CW))) (by rw[<-hLL];clear hLL;cases LL<;>first|exact .live rfl (.dead .nil)|exact .live rfl (.live (Ac _ _) .nil))
   ·refine T.freeze 27 rfl rfl (A2c m) ?_
    refine p0c (fun j=>j<=(m).length) (fun j=>(m).length-j) (fun j=>[(29,.i j),(4,rT 1 2 ((p::L)++Aq h.sets k a j).length),(28,.i ((m).map SetR.row).length),(27,.sl ((m).map SetR.row)),(6,.ptr 2 0),(17,.i k),(16,.i (h.sets.map SetR.row).length),(15,.sl (h.sets.map SetR.row)),(1,.ptr 0 0)]) (fun j=>[.live (h.row.map .lf),rB (prC ((p::L)++Aq h.sets k a j)) ((p::L)++Aq h.sets k a j).length,.live (a.row.map .lf),.dead]) 0 (a0k _) (by rw[show(p::L)++Aq h.sets k a 0=(p::L)from a1u _];exact CW) (by rw[show(p::L)++Aq h.sets k a 0=(p::L)from a1u _];exact .live rfl (.live (Ac _ _) CG)) ?_
    intro j hj
    by_cases hltj:(j:Int)<(((m).map SetR.row).length:Nat)
    ·obtain⟨x,hx⟩:=A2 (l:=m) (k:=j) (by omega)
     have hbx:=A3 (R:=SetR.row) hx
     have hmx:=hms x (a0a hx)
     have cn:=Q5 a x (hsP a hma) (hsP x hmx) (hf.2.2 a hma) (hf.2.2 x hmx)
     have hj60:=P2 h.sets k a j
     have hll:((p::L)++Aq h.sets k a j).length<=3700:=by rw[a0s];omega
     by_cases hn:Cu a x
     ·rw[decide_eq_true hn]at cn
      have hS:(p::L)++Aq h.sets k a (j+1)=((p::L)++Aq h.sets k a j)++[(a.name,x.name)]:=by rw[A1l (hmm j x hx) hn,a3i]
      have hS2:prC ((p::L)++Aq h.sets k a (j+1))=prC ((p::L)++Aq h.sets k a j)++[.s a.name,.s x.name]:=by rw[hS,Wc];rfl
      have hS3:((p::L)++Aq h.sets k a (j+1)).length=((p::L)++Aq h.sets k a j).length+1:=by rw[hS,a0s];rfl
      have hpc:=Sl ((p::L)++Aq h.sets k a j)
      generalize(p::L)++Aq h.sets k a j=LL at*
      cases LL with
      |nil=>
       repeat' first|refine WY ?_|refine Zdt ?_|refine Zb0 ?_|refine Zbd ?_|refine V ?_|refine W2 ?_ ?_<;>intro hc
       exact Next.go (j+1) (by omega) (by omega) (by rw[hS3,show(((j+1:Nat):Int))=(j:Int)+1 by omega];exact CW) (by rw[hS2,hS3];exact .live rfl CG)
      |cons p0 LL=>
       have hll2:LL.length+1<=3700:=hll
       repeat' first|refine WY ?_|refine Zdt ?_|refine Zb0 ?_|(apply p0h;(iterate 8 exact rfl);(first|exact hpc|(rw[Sl];simp only[a0j];omega));exact A9 rfl;exact rfl;exact Aj _ _;simp only[a0j,a0m];omega;simp only[a0j,a0m];omega)|refine V ?_|refine W2 ?_ ?_<;>intro hc
       exact Next.go (j+1) (by omega) (by omega) (by rw[hS3,show(((j+1:Nat):Int))=(j:Int)+1 by omega];exact CW) (by rw[hS2,hS3];exact .live rfl (.live (by rw[a2k,Ac];rfl) CG))
     ·rw[decide_eq_false hn]at cn
      have hS:(p::L)++Aq h.sets k a (j+1)=(p::L)++Aq h.sets k a j:=by rw[A58 (hmm j x hx) hn]
      generalize(p::L)++Aq h.sets k a j=LL at*
      repeat' first|refine WX ?_|refine W2 ?_ ?_<;>intro hc
      exact Next.go (j+1) (by omega) (by omega) (by rw[hS,show(((j+1:Nat):Int))=(j:Int)+1 by omega];exact(.cons rfl rfl (.cons rfl (by cases LL<;>rfl) CW))) (by rw[hS];cases LL<;>first|exact .live rfl CG|exact .live rfl (.live (Ac _ _) CG))
    ·obtain rfl:j=(m).length:=by omega
     obtain⟨LL,hLL⟩:∃LL,LL=D1 h.sets (k+1):=⟨_,rfl⟩
     rw[<-hK,<-hLL]
     repeat' first|refine WX ?_|refine W2 ?_ ?_<;>intro hc
     exact Next.go (k+1) (by omega) (by omega) (by rw[<-hLL];exact(.cons (by rw[show(((k+1:Nat):Int))=(k:Int)+1 by omega];rfl) rfl (.cons rfl (by cases LL<;>rfl) CW))) (by rw[<-hLL];clear hLL;cases LL<;>first|exact .live rfl (.dead .nil)|exact .live rfl (.live (Ac _ _) .nil))
 ·obtain rfl:k=h.sets.length:=by omega
  have hown:=Agm (D1 h.sets h.sets.length)
  generalize D1 h.sets h.sets.length=L at*
  cases L with
  |nil=>
   repeat' first|refine W ?_|(refine p0p 4 rfl ?_)|refine V ?_|refine W2 ?_ ?_<;>intro hc
   exact D2 rfl rfl rfl
  |cons p L=>
   repeat' first|refine W ?_|(refine T.freeze 4 rfl rfl hown ?_)|refine V ?_|refine W2 ?_ ?_<;>intro hc
   exact D2 rfl rfl rfl
def L8(p:Int×Int):List Lf:=[.i p.1,.i p.2]
def ixN(l:List SetR)(k:Nat)(a:SetR):Nat->List (Int×Int)
 |0=>[]
 |j+1=>ixN l k a j++(match l[k+1+j]? with|some b=>if Cu a b then[((k:Int),((k+1+j:Nat):Int))]else[]|none=>[])
def ixK(l:List SetR):Nat->List (Int×Int)
 |0=>[]
 |k+1=>ixK l k++(match l[k]? with|some a=>ixN l k a (l.length-(k+1))|none=>[])
abbrev ixC(L:List (Int×Int)):List AV:=(L.map L8).flatten.map .lf
theorem A5a(L:List (Int×Int)):(ixC L).length=L.length*2:=by
 rw[a0e]
 induction L with
 |nil=>rfl
 |cons p L ih=>rw[a2g,a3v,a0s,ih];simp[L8];omega
theorem Vu(L M:List (Int×Int)):ixC (L++M)=ixC L++ixC M:=by simp[ixC]
theorem Ai1(L:List (Int×Int)):∀r∈L.map L8,r.length=2:=by
 intro r hr
 obtain⟨n,_,rfl⟩:=a1d.1 hr
 rfl
theorem Agl(L:List (Int×Int)):OwnRows (ixC L) 0 L.length 2 (L.map L8):=by
 have:=OwnRows.of (L.map L8).flatten (Ai1 L) rfl
 rw[a0e]at this
 exact this
theorem A5c{l:List SetR}{k:Nat}{a b:SetR}{j:Nat}(h:l[k+1+j]?=some b)(hn:Cu a b):ixN l k a (j+1)=ixN l k a j++[((k:Int),((k+1+j:Nat):Int))]:=by rw[ixN,h];simp only[hn,if_true]
theorem Aa3{l:List SetR}{k:Nat}{a b:SetR}{j:Nat}(h:l[k+1+j]?=some b)(hn:¬Cu a b):ixN l k a (j+1)=ixN l k a j:=by rw[ixN,h];simp only[hn,if_false,a1u]
theorem Sg(l:List SetR)(k:Nat)(a:SetR):∀j,(ixN l k a j).length<=j
 |0=>a0n _
 |j+1=>by
  have ih:=Sg l k a j
  rw[ixN,a0s]
  split
  ·split<;>simp<;>omega
  ·simp;omega
theorem A5b(l:List SetR):∀k,(ixK l k).length<=k*l.length
 |0=>by simp[ixK]
 |k+1=>by
  have ih:=A5b l k
  rw[ixK,a0s,a3u,b0q]
  split
  ·rename_i a _
   have:=Sg l k a (l.length-(k+1))
   omega
  ·simp;omega
theorem Abi(h:HouseR)(h60:h.sets.length<=60)(hsP:∀s∈h.sets,Cb s):Fz 31 [A0 h.row] (.sl ((ixK h.sets h.sets.length).map L8)):=by
 have hle:=lmA h.sets SetR.row
 refine Fo Tryz.func31 ?_
 repeat' first|refine WX ?_|refine W2 ?_ ?_<;>intro hc
 refine T.kill 1 ?_
 refine p0c (fun k=>k<=h.sets.length) (fun k=>h.sets.length-k) (fun k=>[(4,.i k),(3,rT 1 2 (ixK h.sets k).length),(1,.ptr 0 0)]) (fun k=>[.live (h.row.map .lf),rB (ixC (ixK h.sets k)) (ixK h.sets k).length]) 0 (a0k _) CW CG ?_
 intro k hk
 by_cases hlt:(k:Int)<((h.sets.map SetR.row).length:Nat)
 ·obtain⟨a,ha⟩:=A2 (l:=h.sets) (k:=k) (by omega)
  have hb:=A3 (R:=SetR.row) ha
  have hma:=a0a ha
  have hK:ixK h.sets (k+1)=ixK h.sets k++ixN h.sets k a (h.sets.length-(k+1)):=by rw[ixK,ha]
  have hb60:(ixK h.sets k).length<=3600:=a2d (A5b h.sets k) (a2d (a5u (show k<=60 by omega) h60) (by decide))
  obtain⟨L,hL⟩:∃L,L=ixK h.sets k:=⟨_,rfl⟩
  rw[<-hL]at hK hb60⊢
  clear hL
  cases L with
  |nil=>
   repeat' first|refine WX ?_|refine W2 ?_ ?_<;>intro hc
   refine p0c (fun j=>k+1+j<=h.sets.length) (fun j=>h.sets.length-j) (fun j=>[(5,.i ((k+1+j:Nat):Int)),(3,rT 1 2 ([]++ixN h.sets k a j).length),(4,.i k),(1,.ptr 0 0)]) (fun j=>[.live (h.row.map .lf),rB (ixC ([]++ixN h.sets k a j)) ([]++ixN h.sets k a j).length]) 0 (by omega) (by rw[show[]++ixN h.sets k a 0=[]from a1u _];exact(.cons (by rw[show(((k+1+0:Nat):Int))=(k:Int)+1 by omega];rfl) rfl CW)) (by rw[show[]++ixN h.sets k a 0=[]from a1u _];exact .live rfl (.dead .nil)) ?_
   intro j hj
   by_cases hltj:((k+1+j:Nat):Int)<((h.sets.map SetR.row).length:Nat)
   ·obtain⟨x,hx⟩:=A2 (l:=h.sets) (k:=k+1+j) (by omega)
    have hbx:=A3 (R:=SetR.row) hx
    have cn:=Uq a x (hsP a hma) (hsP x (a0a hx))
    have hj60:=Sg h.sets k a j
    have hll:([]++ixN h.sets k a j).length<=3700:=by rw[a0s];omega
    by_cases hn:Cu a x
    ·rw[decide_eq_true hn]at cn
     have hS:[]++ixN h.sets k a (j+1)=([]++ixN h.sets k a j)++[((k:Int),((k+1+j:Nat):Int))]:=by rw[A5c hx hn,a3i]
     have hS2:ixC ([]++ixN h.sets k a (j+1))=ixC ([]++ixN h.sets k a j)++[.i k,.i ((k+1+j:Nat):Int)]:=by rw[hS,Vu];rfl
     have hS3:([]++ixN h.sets k a (j+1)).length=([]++ixN h.sets k a j).length+1:=by rw[hS,a0s];rfl
     have hpc:=A5a ([]++ixN h.sets k a j)
     generalize []++ixN h.sets k a j=LL at*
     cases LL with
     |nil=>
      repeat' first|refine WY ?_|refine Zdt ?_|refine Zb0 ?_|refine Zbd ?_|refine Da ?_|refine V ?_|refine W2 ?_ ?_<;>intro hc
      exact Next.go (j+1) (by omega) (by omega) (by rw[hS3];exact(.cons (by rw[show(((k+1+(j+1):Nat):Int))=((k+1+j:Nat):Int)+1 by omega];rfl) rfl CW)) (by rw[hS2,hS3];exact .live rfl (.live rfl .nil))
     |cons p0 LL=>
      have hll2:LL.length+1<=3700:=hll
      repeat' first|refine WY ?_|refine Zdt ?_|refine Zb0 ?_|(apply p0h;(iterate 8 exact rfl);(exact hpc);exact A9 rfl;exact rfl;exact Aj _ _;simp only[a0j,a0m];omega;simp only[a0j,a0m];omega)|refine Da ?_|refine V ?_|refine W2 ?_ ?_<;>intro hc
      exact Next.go (j+1) (by omega) (by omega) (by rw[hS3];exact(.cons (by rw[show(((k+1+(j+1):Nat):Int))=((k+1+j:Nat):Int)+1 by omega];rfl) rfl CW)) (by rw[hS2,hS3];exact .live rfl (.live (by rw[a2k,Ac];rfl) .nil))
    ·rw[decide_eq_false hn]at cn
     have hS:[]++ixN h.sets k a (j+1)=[]++ixN h.sets k a j:=by rw[Aa3 hx hn]
     generalize []++ixN h.sets k a j=LL at*
     repeat' first|refine WY ?_|refine Da ?_|refine V ?_|refine W2 ?_ ?_<;>intro hc
     exact Next.go (j+1) (by omega) (by omega) (by rw[hS];exact(.cons (by rw[show(((k+1+(j+1):Nat):Int))=((k+1+j:Nat):Int)+1 by omega];rfl) rfl (.cons rfl (by cases LL<;>rfl) CW))) (by rw[hS];cases LL<;>first|exact .live rfl (.dead .nil)|exact .live rfl (.live (Ac _ _) .nil))
   ·obtain rfl:j=h.sets.length-(k+1):=by omega
    obtain⟨LL,hLL⟩:∃LL,LL=ixK h.sets (k+1):=⟨_,rfl⟩
    rw[<-hK,<-hLL]
    repeat' first|refine WX ?_|refine W2 ?_ ?_<;>intro hc
    exact Next.go (k+1) (by omega) (by omega) (by rw[<-hLL];exact(.cons (by rw[show(((k+1:Nat):Int))=(k:Int)+1 by omega];rfl) rfl (.cons rfl (by cases LL<;>rfl) (.cons rfl rfl .nil)))) (by rw[<-hLL];clear hLL;cases LL<;>first|exact .live rfl (.dead .nil)|exact .live rfl (.live (Ac _ _) .nil))
  |cons p L=>
   repeat' first|refine WX ?_|refine W2 ?_ ?_<;>intro hc
   refine p0c (fun j=>k+1+j<=h.sets.length) (fun j=>h.sets.length-j) (fun j=>[(5,.i ((k+1+j:Nat):Int)),(3,rT 1 2 ((p::L)++ixN h.sets k a j).length),(4,.i k),(1,.ptr 0 0)]) (fun j=>[.live (h.row.map .lf),rB (ixC ((p::L)++ixN h.sets k a j)) ((p::L)++ixN h.sets k a j).length]) 0 (by omega) (by rw[show(p::L)++ixN h.sets k a 0=(p::L)from a1u _];exact(.cons (by rw[show(((k+1+0:Nat):Int))=(k:Int)+1 by omega];rfl) rfl CW)) (by rw[show(p::L)++ixN h.sets k a 0=(p::L)from a1u _];exact .live rfl (.live (Ac _ _) .nil)) ?_
   intro j hj
   by_cases hltj:((k+1+j:Nat):Int)<((h.sets.map SetR.row).length:Nat)
   ·obtain⟨x,hx⟩:=A2 (l:=h.sets) (k:=k+1+j) (by omega)
    have hbx:=A3 (R:=SetR.row) hx
    have cn:=Uq a x (hsP a hma) (hsP x (a0a hx))
    have hj60:=Sg h.sets k a j
    have hll:((p::L)++ixN h.sets k a j).length<=3700:=by rw[a0s];omega
    by_cases hn:Cu a x
    ·rw[decide_eq_true hn]at cn
     have hS:(p::L)++ixN h.sets k a (j+1)=((p::L)++ixN h.sets k a j)++[((k:Int),((k+1+j:Nat):Int))]:=by rw[A5c hx hn,a3i]
     have hS2:ixC ((p::L)++ixN h.sets k a (j+1))=ixC ((p::L)++ixN h.sets k a j)++[.i k,.i ((k+1+j:Nat):Int)]:=by rw[hS,Vu];rfl
     have hS3:((p::L)++ixN h.sets k a (j+1)).length=((p::L)++ixN h.sets k a j).length+1:=by rw[hS,a0s];rfl
     have hpc:=A5a ((p::L)++ixN h.sets k a j)
     generalize(p::L)++ixN h.sets k a j=LL at*
     cases LL with
     |nil=>
      repeat' first|refine WY ?_|refine Zdt ?_|refine Zb0 ?_|refine Zbd ?_|refine Da ?_|refine V ?_|refine W2 ?_ ?_<;>intro hc
      exact Next.go (j+1) (by omega) (by omega) (by rw[hS3];exact(.cons (by rw[show(((k+1+(j+1):Nat):Int))=((k+1+j:Nat):Int)+1 by omega];rfl) rfl CW)) (by rw[hS2,hS3];exact .live rfl (.live rfl .nil))
     |cons p0 LL=>
      have hll2:LL.length+1<=3700:=hll
      repeat' first|refine WY ?_|refine Zdt ?_|refine Zb0 ?_|(apply p0h;(iterate 8 exact rfl);(exact hpc);exact A9 rfl;exact rfl;exact Aj _ _;simp only[a0j,a0m];omega;simp only[a0j,a0m];omega)|refine Da ?_|refine V ?_|refine W2 ?_ ?_<;>intro hc
      exact Next.go (j+1) (by omega) (by omega) (by rw[hS3];exact(.cons (by rw[show(((k+1+(j+1):Nat):Int))=((k+1+j:Nat):Int)+1 by omega];rfl) rfl CW)) (by rw[hS2,hS3];exact .live rfl (.live (by rw[a2k,Ac];rfl) .nil))
    ·rw[decide_eq_false hn]at cn
     have hS:(p::L)++ixN h.sets k a (j+1)=(p::L)++ixN h.sets k a j:=by rw[Aa3 hx hn]
     generalize(p::L)++ixN h.sets k a j=LL at*
     repeat' first|refine WY ?_|refine Da ?_|refine V ?_|refine W2 ?_ ?_<;>intro hc
     exact Next.go (j+1) (by omega) (by omega) (by rw[hS];exact(.cons (by rw[show(((k+1+(j+1):Nat):Int))=((k+1+j:Nat):Int)+1 by omega];rfl) rfl (.cons rfl (by cases LL<;>rfl) CW))) (by rw[hS];cases LL<;>first|exact .live rfl (.dead .nil)|exact .live rfl (.live (Ac _ _) .nil))
   ·obtain rfl:j=h.sets.length-(k+1):=by omega
    obtain⟨LL,hLL⟩:∃LL,LL=ixK h.sets (k+1):=⟨_,rfl⟩
    rw[<-hK,<-hLL]
    repeat' first|refine WX ?_|refine W2 ?_ ?_<;>intro hc
    exact Next.go (k+1) (by omega) (by omega) (by rw[<-hLL];exact(.cons (by rw[show(((k+1:Nat):Int))=(k:Int)+1 by omega];rfl) rfl (.cons rfl (by cases LL<;>rfl) (.cons rfl rfl .nil)))) (by rw[<-hLL];clear hLL;cases LL<;>first|exact .live rfl (.dead .nil)|exact .live rfl (.live (Ac _ _) .nil))
 ·obtain rfl:k=h.sets.length:=by omega
  have hown:=Agl (ixK h.sets h.sets.length)
  generalize ixK h.sets h.sets.length=L at*
  cases L with
  |nil=>
   repeat' first|refine W ?_|(refine p0p 3 rfl ?_)|refine V ?_|refine W2 ?_ ?_<;>intro hc
   exact E5 (by simp) Tryz.results31 rfl (.one (.one (.lf _)))
  |cons p L=>
   repeat' first|refine W ?_|(refine T.freeze 3 rfl rfl hown ?_)|refine V ?_|refine W2 ?_ ?_<;>intro hc
   exact E5 (by simp) Tryz.results31 rfl (.one (.one (.lf _)))
end Go.Proofs.YtcaicpnepfjcmaaGreat
