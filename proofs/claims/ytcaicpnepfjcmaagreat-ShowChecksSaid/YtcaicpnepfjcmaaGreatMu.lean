/- Lemmas of the proof. -/
import Derived.Test.YtcaicpnepfjcmaaGreatRows
import Derived.ProofKit
import Derived.Deep.DeepHandedRow
import Derived.Lib.SmallJoins
import Derived.Carry
import Derived.ChangeOld
import Derived.Test.YtcaicpnepfjcmaaGreatZm
import Derived.Test.YtcaicpnepfjcmaaGreatZn
set_option linter.all false
set_option maxHeartbeats 64000000
namespace Go.Proofs.YtcaicpnepfjcmaaGreat
open Go Go.RowKit
def b1l:= @Tryz.func3
def b3c:= @Tryz.func11
def b3e:= @Tryz.func32
set_option maxRecDepth 100000 in
theorem D5{n:Nat}{row:List Lf}(h:Bd Tryz.prog (n+1) 9 row):∃s:ByteArray,row=[.s s]:=by
 unfold Bd at h
 rw[b0m]at h
 obtain⟨s,rfl,_⟩:=h
 exact⟨s,rfl⟩
set_option maxRecDepth 100000 in
theorem Au{n:Nat}{row:List Lf}(h:Bd Tryz.prog (n+1) 3 row):∃i:Int,row=[.i i]/\ -9223372036854775808<=i/\i<=9223372036854775807:=by
 unfold Bd at h
 rw[a1w]at h
 obtain⟨i,rfl,h1,h2⟩:=h
 exact⟨i,rfl,h1,h2⟩
set_option maxRecDepth 100000 in
theorem Fx{α:Type}{R:α->List Lf}{p:α->Prop}{n:Nat}{t e:TypeId}{row:List Lf}(hu:Tryz.prog.underlying t=some (.slice e))(he:∀r,Bd Tryz.prog n e r->∃x,r=R x/\p x)(h:Bd Tryz.prog (n+1) t row):
  ∃l:List α,row=[.sl (l.map R)]/\l.length<=9223372036854775807/\l.length*Tryz.prog.bytesOf e<=reachBytes/\∀x∈l,p x:=by
 unfold Bd at h
 rw[hu]at h
 obtain⟨rows,rfl,h1,h2,h3⟩:=h
 have key:∀rows:List (List Lf),(∀r∈rows,Bd Tryz.prog n e r)->∃l:List α,rows=l.map R/\∀x∈l,p x:=by
  intro rows
  induction rows with
  |nil=>intro _;exact⟨[],rfl,by simp⟩
  |cons r rows ih=>
   intro h
   obtain⟨l,rfl,hl⟩:=ih fun r hr=>h r (by simp[hr])
   obtain⟨x,rfl,hx⟩:=he r (h r (by simp))
   exact⟨x::l,rfl,by simpa using⟨hx,hl⟩⟩
 obtain⟨l,rfl,hl⟩:=key rows h3
 rw[a0e]at h1 h2
 exact⟨l,rfl,h1,h2,hl⟩
set_option maxRecDepth 100000 in
theorem Ye{n:Nat}{row:List Lf}(h:Bd Tryz.prog (n+2) 30 row):∃l:List Int,row=[.sl (l.map A1)]/\l.length<=9223372036854775807/\l.length*Tryz.prog.bytesOf 3<=reachBytes/\∀x∈l,-9223372036854775808<=x/\x<=9223372036854775807:=
 Fx a9u (fun r hr=>by obtain⟨i,rfl,hi⟩:=Au hr;exact⟨i,rfl,hi⟩) h
set_option maxRecDepth 100000 in
theorem A9d{n:Nat}{row:List Lf}(h:Bd Tryz.prog (n+2) 114 row):∃x:ItemR,row=x.row/\True:=by
 unfold Bd at h
 rw[a4c]at h
 obtain⟨_,_,rfl,h1,_,_,rfl,h2,_,_,rfl,h3,_,_,rfl,h4,_,_,rfl,h5,_,_,rfl,h6,_,_,rfl,h7,rfl⟩:=h
 obtain⟨a1,rfl⟩:=D5 h1
 obtain⟨a2,rfl,_⟩:=Au h2
 obtain⟨a3,rfl,_⟩:=Au h3
 obtain⟨a4,rfl,_⟩:=Au h4
 obtain⟨a5,rfl,_⟩:=Au h5
 obtain⟨a6,rfl,_⟩:=Au h6
 obtain⟨a7,rfl,_⟩:=Au h7
 exact⟨⟨a1,a2,a3,a4,a5,a6,a7⟩,rfl,trivial⟩
set_option maxRecDepth 100000 in
theorem A78{n:Nat}{row:List Lf}(h:Bd Tryz.prog (n+2) 175 row):∃x:BrickR,row=x.row/\True:=by
 unfold Bd at h
 rw[a8c]at h
 obtain⟨_,_,rfl,h1,_,_,rfl,h2,_,_,rfl,h3,rfl⟩:=h
 obtain⟨a1,rfl⟩:=D5 h1
 obtain⟨a2,rfl,_⟩:=Au h2
 obtain⟨a3,rfl,_⟩:=Au h3
 exact⟨⟨a1,a2,a3⟩,rfl,trivial⟩
set_option maxRecDepth 100000 in
theorem A9g{n:Nat}{row:List Lf}(h:Bd Tryz.prog (n+2) 118 row):∃x:RoofR,row=x.row/\True:=by
 unfold Bd at h
 rw[a6y]at h
 obtain⟨_,_,rfl,h1,_,_,rfl,h2,_,_,rfl,h3,_,_,rfl,h4,rfl⟩:=h
 obtain⟨a1,rfl⟩:=D5 h1
 obtain⟨a2,rfl,_⟩:=Au h2
 obtain⟨a3,rfl,_⟩:=Au h3
 obtain⟨a4,rfl,_⟩:=Au h4
 exact⟨⟨a1,a2,a3,a4⟩,rfl,trivial⟩
set_option maxRecDepth 100000 in
theorem A9e{n:Nat}{row:List Lf}(h:Bd Tryz.prog (n+2) 123 row):∃x:MoveR,row=x.row/\True:=by
 unfold Bd at h
 rw[a5h]at h
 obtain⟨_,_,rfl,h1,_,_,rfl,h2,_,_,rfl,h3,_,_,rfl,h4,_,_,rfl,h5,rfl⟩:=h
 obtain⟨a1,rfl⟩:=D5 h1
 obtain⟨a2,rfl,_⟩:=Au h2
 obtain⟨a3,rfl,_⟩:=Au h3
 obtain⟨a4,rfl,_⟩:=Au h4
 obtain⟨a5,rfl,_⟩:=Au h5
 exact⟨⟨a1,a2,a3,a4,a5⟩,rfl,trivial⟩
set_option maxRecDepth 100000 in
theorem A9f{n:Nat}{row:List Lf}(h:Bd Tryz.prog (n+2) 66 row):∃x:ByteArray×ByteArray,row=Ah x/\True:=by
 unfold Bd at h
 rw[Tryz.underlying66]at h
 obtain⟨_,_,rfl,h1,_,_,rfl,h2,rfl⟩:=h
 obtain⟨a1,rfl⟩:=D5 h1
 obtain⟨a2,rfl⟩:=D5 h2
 exact⟨(a1,a2),rfl,trivial⟩
set_option maxRecDepth 100000 in
theorem Ad0{n:Nat}{row:List Lf}(h:Bd Tryz.prog (n+4) 70 row):∃x:SetR,row=x.row/\x.fits:=by
 unfold Bd at h
 rw[a2p]at h
 obtain⟨_,_,rfl,h1,_,_,rfl,h2,_,_,rfl,h3,_,_,rfl,h4,_,_,rfl,h5,_,_,rfl,h6,_,_,rfl,h7,_,_,rfl,h8,_,_,rfl,h9,_,_,rfl,h10,_,_,rfl,h11,_,_,rfl,h12,_,_,rfl,h13,rfl⟩:=h
 obtain⟨a1,rfl⟩:=D5 h1
 obtain⟨a2,rfl,_⟩:=Au h2
 obtain⟨a3,rfl,_⟩:=Au h3
 obtain⟨a4,rfl,_⟩:=Au h4
 obtain⟨a5,rfl,_⟩:=Au h5
 obtain⟨a6,rfl,b6,_⟩:=Ye h6
 obtain⟨a7,rfl,_⟩:=Au h7
 obtain⟨a8,rfl,_⟩:=Au h8
 obtain⟨a9,rfl,_⟩:=Au h9
 obtain⟨a10,rfl,_⟩:=Au h10
 obtain⟨a11,rfl,_⟩:=Au h11
 obtain⟨a12,rfl,b12,_⟩:=Fx Tryz.underlying67 (fun r=>A9d) h12
 obtain⟨a13,rfl,b13,_⟩:=Fx Tryz.underlying68 (fun r=>A78) h13
 exact⟨⟨a1,a2,a3,a4,a5,a6,a7,a8,a9,a10,a11,a12,a13⟩,rfl,b6,b12,b13⟩
set_option maxRecDepth 100000 in
theorem A79{n:Nat}{row:List Lf}(h:Bd Tryz.prog (n+6) 25 row):∃x:HouseR,row=x.row/\x.fits:=by
 unfold Bd at h
 rw[a5p]at h
 obtain⟨_,_,rfl,h1,_,_,rfl,h2,_,_,rfl,h3,_,_,rfl,h4,rfl⟩:=h
 obtain⟨a1,rfl⟩:=D5 h1
 obtain⟨a2,rfl,_⟩:=Au h2
 obtain⟨a3,rfl,b3,_,c3⟩:=Fx Tryz.underlying22 (fun r=>Ad0) h3
 obtain⟨a4,rfl,b4,_⟩:=Fx Tryz.underlying23 (fun r=>A9g) h4
 exact⟨⟨a1,a2,a3,a4⟩,rfl,b3,b4,c3⟩
theorem A95:Tryz.prog.bytesOf 123=48:=by kernel_rfl
set_option maxRecDepth 100000 in
theorem Acz{n:Nat}{row:List Lf}(h:Bd Tryz.prog (n+4) 121 row):∃x:CueR,row=x.row/\x.moves.length<=140737488355328:=by
 unfold Bd at h
 rw[a4m]at h
 obtain⟨_,_,rfl,h1,_,_,rfl,h2,_,_,rfl,h3,_,_,rfl,h4,_,_,rfl,h5,_,_,rfl,h6,_,_,rfl,h7,rfl⟩:=h
 obtain⟨a1,rfl⟩:=D5 h1
 obtain⟨a2,rfl⟩:=D5 h2
 obtain⟨a3,rfl,_⟩:=Au h3
 obtain⟨a4,rfl,_⟩:=Au h4
 obtain⟨a5,rfl,b5,c5,_⟩:=Fx b3r (fun r=>A9e) h5
 obtain⟨a6,rfl,_⟩:=Au h6
 obtain⟨a7,rfl,_⟩:=Au h7
 rw[A95]at c5
 exact⟨⟨a1,a2,a3,a4,a5,a6,a7⟩,rfl,by show a5.length<=_;simp only[reachBytes]at c5;omega⟩
set_option maxRecDepth 100000 in
theorem A7a{n:Nat}{row:List Lf}(h:Bd Tryz.prog (n+6) 29 row):∃x:SheetR,row=x.row/\x.fits:=by
 unfold Bd at h
 rw[a7f]at h
 obtain⟨_,_,rfl,h1,_,_,rfl,h2,rfl⟩:=h
 obtain⟨a1,rfl,b1,_,c1⟩:=Fx Tryz.underlying26 (fun r=>Acz) h1
 obtain⟨a2,rfl,b2,_⟩:=Fx Tryz.underlying27 (fun r=>A9f) h2
 exact⟨⟨a1,a2⟩,rfl,b1,b2,c1⟩
end Go.Proofs.YtcaicpnepfjcmaaGreat
namespace Go.Proofs.YtcaicpnepfjcmaaGreat
open Go.ChangeShapes Go.WideShapes Go.ChangeAt Go.RowKit Go.Joins
theorem own:ownKnob Tryz.prog.godebug=none:=by kernel_rfl
theorem Sh:laidOutB Tryz.prog=true:=by kernel_rfl
abbrev noL:Nat->Prop:=fun _=>False
section
variable {H:Type}{enc:TypeId×Value->H}
theorem Nm{W:World}{t:TypeId}{v:Value}{d:DataW H}{p:List MemPlace}(h:DataW.Trod enc Tryz.prog W 0 (fun _=>true) true t v d p):∀x∈p,x.block<W.heap.size:=by
 obtain⟨m,hm⟩:=h;exact DataW.trod_lt m _ _ _ hm
theorem A65{W:World}{row:List Lf}{cs:Array Value}(hl:row.length=cs.toList.length)(h:RowRel W row cs.toList 0):RelV W noL Ba (A0 row) (.agg cs):=by
 have key:=RelV.agg (w:=W) (L:=noL) (ρ:=Ba) (row.map .lf) cs.toList (by simpa using hl) fun i x v hx hv=>by
  rw[a0d]at hx
  cases e:row[i]? with
  |none=>rw[e]at hx;cases hx
  |some y=>
   rw[e]at hx
   simp only[a1g,a0h]at hx
   subst hx
   exact .lf _ _ ((h i y v e (by rw[a1n];exact hv)).iff fun k=>⟨False.elim,fun hf=>(F2 noL k).1 hf⟩)
 simpa using key
set_option maxRecDepth 100000 in
theorem Agi:okT Tryz.prog 8 25=true:=by kernel_rfl
theorem Agj:okT Tryz.prog 8 29=true:=by kernel_rfl
theorem Ai7:okT Tryz.prog 8 30=true:=by kernel_rfl
set_option maxRecDepth 100000 in
theorem A7o{W:World}{base:Nat}{v:Value}{d:DataW H}{p:List MemPlace}(hv:Value.okWide Tryz.prog W .any base 25 v)(h:DataW.Trod enc Tryz.prog W 0 (fun _=>true) true 25 v d p)(hw:((d.weights Tryz.prog 25).all (· <=reachBytes))=true):∃x:HouseR,x.fits/\RelV W noL Ba (A0 x.row) v:=by
 obtain⟨fuel,hf⟩:=h
 unfold Value.okWide at hv
 rw[a5p]at hv
 obtain⟨cs,rfl,_,_⟩:=hv
 obtain⟨row,c1,c2,c3⟩:=J1 8 fuel _ _ _ Agi hf hw
 obtain⟨x,rfl,hx⟩:=A79 (n:=2) c1
 exact⟨x,hx,A65 c2 c3⟩
set_option maxRecDepth 100000 in
theorem A7q{W:World}{base:Nat}{v:Value}{d:DataW H}{p:List MemPlace}(hv:Value.okWide Tryz.prog W .any base 29 v)(h:DataW.Trod enc Tryz.prog W 0 (fun _=>true) true 29 v d p)(hw:((d.weights Tryz.prog 29).all (· <=reachBytes))=true):∃x:SheetR,x.fits/\RelV W noL Ba (A0 x.row) v:=by
 obtain⟨fuel,hf⟩:=h
 unfold Value.okWide at hv
 rw[a7f]at hv
 obtain⟨cs,rfl,_,_⟩:=hv
 obtain⟨row,c1,c2,c3⟩:=J1 8 fuel _ _ _ Agj hf hw
 obtain⟨x,rfl,hx⟩:=A7a (n:=2) c1
 exact⟨x,hx,A65 c2 c3⟩
end
noncomputable def Pb(os:Os):World:=World.holding Tryz.prog os ⟨#[], #[],[]⟩
section
variable {H:Type}{enc:TypeId×Value->H}
end
theorem Acx:Tryz.prog.bytesOf 3=8:=by kernel_rfl
section
variable {H:Type}{enc:TypeId×Value->H}
set_option maxRecDepth 100000 in
theorem A7p{W:World}{base:Nat}{v:Value}{d:DataW H}{p:List MemPlace}(hv:Value.okWide Tryz.prog W .any base 30 v)(h:DataW.Trod enc Tryz.prog W 0 (fun _=>true) true 30 v d p)(hw:((d.weights Tryz.prog 30).all (· <=reachBytes))=true):∃l:List Int,l.length<=1000000000000000/\(∀x∈l,-9223372036854775808<=x/\x<=9223372036854775807)/\RelV W noL Ba (.sl (l.map A1)) v:=by
 obtain⟨a,len,cap,rfl⟩:=okWide_slice a9u hv
 obtain⟨fuel,hf⟩:=h
 obtain⟨row,c1,c2,c3⟩:=J1 8 fuel _ _ _ Ai7 hf hw
 obtain⟨l,rfl,h1,hb,h2⟩:=Ye (n:=6) c1
 rw[Acx]at hb
 have hr:reachBytes=140737488351232:=rfl
 refine⟨l,by omega,h2,.lf _ _ ((c3 0 _ _ rfl (by simp[Value.cells])).iff fun k=>⟨False.elim,fun hf=>(F2 noL k).1 hf⟩)⟩
end
end Go.Proofs.YtcaicpnepfjcmaaGreat
namespace Go.Proofs.YtcaicpnepfjcmaaGreat
open Go Go.RowKit
theorem Sx{h:HouseR}(hp:Bv h){i:Int}{s:SetR}(hi:0<=i)(hs:h.sets[i.toNat]?=some s):Aa h s.name=i/\Io h s.name=some s:=by
 have:=Zr hp hs
 have e:Aa h s.name=i:=by omega
 exact⟨e,by unfold Io;rw[e];exact hs⟩
theorem A2e{h:HouseR}{c:SheetR}{G:List Int}(p:PlanOk h c G){n:ByteArray}{s:SetR}(hs:Io h n=some s)(he:Bt h c G n=0):Ag (Br h c G n):=by
 have ho:Jg c (stL h c G) (B0 h c):=by
  unfold Bt at he
  rw[hs]at he
  dsimp only at he
  split at he
  ·assumption
  ·cases he
 unfold Br
 rw[hs]
 exact(A2j p.v (fun i=>(p.st i).1) ho hs c.cues.length (a0n _)).1
noncomputable def ppE(h:HouseR)(c:SheetR)(G:List Int)(q:ByteArray×ByteArray):Int:=if Bt h c G q.1=0 then Bt h c G q.2 else Bt h c G q.1
theorem Abl(h:HouseR)(c:SheetR)(hf:h.fits)(hc:c.fits)(hp:Bv h)(G:List Int)(hG:G.length<=4611686018427387904)(e0:alE h c G=0){i j:Int}{a b:SetR}(hi:0<=i)(hj:0<=j)(ha:h.sets[i.toNat]?=some a)(hb:h.sets[j.toNat]?=some b):
  Fz 32 [A0 h.row,A0 c.row,.sl (G.map A1),.i i,.i j] (.tup [.sl ((if ppE h c G (a.name,b.name)=0 then Br h c G a.name else[]).map PcQ.row),.sl ((if ppE h c G (a.name,b.name)=0 then Br h c G b.name else[]).map PcQ.row),.i (ppE h c G (a.name,b.name))]):=by
 have ka:=(Sx hp hi ha).1
 have kb:=(Sx hp hj hb).1
 have c1:=A2p h c hf hc G hG e0 a.name (by omega)
 have c2:=A2p h c hf hc G hG e0 b.name (by omega)
 have hla:=(a0f.1 ha).1
 have hlb:=(a0f.1 hb).1
 have hle:=lmA h.sets SetR.row
 have ra:(h.sets.map SetR.row)[i.toNat]?=some a.row:=Ft ha
 have rb:(h.sets.map SetR.row)[j.toNat]?=some b.row:=Ft hb
 unfold ppE
 unfold Pa at c1 c2
 dsimp only
 generalize Br h c G a.name=xa at*
 generalize Br h c G b.name=xb at*
 generalize Bt h c G b.name=eb at*
 generalize Bt h c G a.name=ea at*
 by_cases h1:ea=0
 ·rw[if_pos h1]at c1
  rw[h1]at c1
  rw[if_pos h1]
  by_cases h2:eb=0
  ·rw[if_pos h2]at c2
   rw[h2]at c2
   rw[if_pos h2,if_pos h2,h2]
   refine Fo b3e ?_
   repeat' first|refine WY ?_|refine Dv 15 ?_|refine Dw 15 ?_|refine V ?_|refine W2 ?_ ?_<;>intro hc
   all_goals exact⟨.inr rfl,[.sl (xa.map PcQ.row),.sl (xb.map PcQ.row),.i 0],.cons (.tmp rfl) (.cons (.tmp rfl) (.cons (.tmp rfl) .nil)),.tup (.cons (.one (.lf _)) (.cons (.one (.lf _)) (.cons (.one (.lf _)) .nil)))⟩
  ·rw[if_neg h2]at c2
   rw[if_neg h2,if_neg h2]
   refine Fo b3e ?_
   repeat' first|refine WY ?_|refine Dv 15 ?_|refine Dw 15 ?_|(refine p0p 10 rfl (p0p 11 rfl ?_);apply T.ret;change Ao _ _ _ _ _)|refine V ?_|refine W2 ?_ ?_<;>intro hc
   all_goals exact⟨.inr rfl,[.sl [],.sl [],.i eb],.cons (.tmp rfl) (.cons (.tmp rfl) (.cons (.tmp rfl) .nil)),.tup (.cons (.one (.lf _)) (.cons (.one (.lf _)) (.cons (.one (.lf _)) .nil)))⟩
 ·rw[if_neg h1]at c1
  rw[if_neg h1,if_neg h1,if_neg h1]
  refine Fo b3e ?_
  repeat' first|refine WY ?_|refine Dv 15 ?_|refine Dw 15 ?_|(refine p0p 10 rfl (p0p 11 rfl ?_);apply T.ret;change Ao _ _ _ _ _)|refine V ?_|refine W2 ?_ ?_<;>intro hc
  all_goals exact⟨.inr rfl,[.sl [],.sl [],.i ea],.cons (.tmp rfl) (.cons (.tmp rfl) (.cons (.tmp rfl) .nil)),.tup (.cons (.one (.lf _)) (.cons (.one (.lf _)) (.cons (.one (.lf _)) .nil)))⟩
theorem A0c(h:HouseR)(c:SheetR)(hf:h.fits)(hc:c.fits)(G:List Int)(hG:G.length<=4611686018427387904)(e0:¬alE h c G=0):Fz 10 [A0 h.row,A0 c.row,.sl (G.map A1)] (.tup [.sl [],.i (alE h c G)]):=by
 have ce:=Tq h c hf hc G hG e0
 generalize alE h c G=e at*
 refine Fo Tryz.func10 ?_
 repeat' first|refine WY ?_|refine Zb7 ?_|refine V ?_|refine W2 ?_ ?_<;>intro hc
 all_goals exact D2 rfl rfl rfl
theorem Aix{h:HouseR}(hp:Bv h){n:Nat}{q:ByteArray×ByteArray}(hq:(De h)[n]?=some q):∃i j:Int,∃a b:SetR,(ixK h.sets h.sets.length)[n]?=some (i,j)/\0<=i/\0<=j/\h.sets[i.toNat]?=some a/\h.sets[j.toNat]?=some b/\q=(a.name,b.name):=by
 obtain⟨h1,h2⟩:=A1n h.sets h.sets.length
 have hq':=hq
 rw[show De h=D1 h.sets h.sets.length from rfl,<-h1,a0d]at hq'
 cases hx:(ixK h.sets h.sets.length)[n]? with
 |none=>rw[hx]at hq';cases hq'
 |some x=>
  rw[hx]at hq'
  injection hq' with hq'
  obtain⟨g1,g2,⟨a,g3⟩,b,g4⟩:=h2 x (a0a hx)
  obtain⟨i,j⟩:=x
  exact⟨i,j,a,b,rfl,g1,g2,g3,g4,by rw[<-hq',Aai g3 g4]⟩
theorem Ai0(h:HouseR):(ixK h.sets h.sets.length).length=(De h).length:=by
 have:=congrArg List.length (A1n h.sets h.sets.length).1
 rw[a0e]at this
 exact this
theorem Abj(h:HouseR)(c:SheetR)(hf:h.fits)(hc:c.fits)(G:List Int)(hG:G.length<=4611686018427387904)(e0:alE h c G=0):Fz 10 [A0 h.row,A0 c.row,.sl (G.map A1)] (.tup [.sl ((Ia h c G).map ConR.row),.i (Gy h c G (De h))]):=by
 have p:=(Hb e0).1
 have hp:=p.v.1
 have ce:=A63 h c hf hc G hG e0
 obtain⟨ft,t0,t1⟩:=A3d h c G p
 have he:=p.endI
 have cm:=Um (endI h c G) 1000 (by decide) (by omega) (by omega) (by decide) (by decide) ft
 have cp:=Abi h hp.2.2.2.1 fun s hs=>(hp.2.2.2.2.2.1 s hs).1
 have hs60:=hp.2.2.2.1
 have hlen:=A2i hp
 have hle2:=lmA h.sets SetR.row
 have hbad:∀k q,(De h)[k]?=some q->(∀j,j<k->∀q,(De h)[j]?=some q->Cj h c G q)->¬Cj h c G q->Ia h c G=[]/\Gy h c G (De h)=(ctR h c G q).2.2:=fun k q hk hj hn=>by
  have e:=U9 hk hj hn
  refine⟨?_,e⟩
  unfold Ia
  rw[e]
  exact if_neg fun k=>hn (.inl k)
 have hix:=fun {n q}=>Aix (h:=h) hp (n:=n) (q:=q)
 have hxl:=Ai0 h
 generalize ixK h.sets h.sets.length=ix at*
 have hle:=lmA ix L8
 have hmemp:∀q∈De h,¬Aa h q.1<0/\¬Aa h q.2<0:=fun q hq=>A2d hq
 generalize hprs:De h=prs at*
 have hT:Fg h c G=A4 (endI h c G) 1000:=rfl
 rw[<-hT]at cm
 refine Fo Tryz.func10 ?_
 repeat' first|refine WX ?_|refine W2 ?_ ?_<;>intro hc
 refine T.kill 3 ?_
 refine p0c (fun n=>n<=prs.length/\∀i,i<n->∀q,prs[i]?=some q->Cj h c G q) (fun n=>prs.length-n) (fun n=>[(14,.i n),(12,.sl (ix.map L8)),(13,rT 3 4 (Ci h c G (prs.take n)).length),(10,.ptr 2 0),(3,.ptr 0 0),(4,.ptr 1 0),(2,.sl (G.map A1))]) (fun n=>[.live (h.row.map .lf),.live (c.row.map .lf),.live ((frR (Fg h c G)).map .lf),rB (M5 (Ci h c G (prs.take n))) (Ci h c G (prs.take n)).length]) 0 ⟨a0k _,by intro i hi;omega⟩ CW CH ?_
 rintro n ⟨hn,hgo⟩
 by_cases hlt:n<prs.length
 ·have h1:(n:Int)<((ix.map L8).length:Nat):=by omega
  obtain⟨q,hq⟩:=A2 hlt
  obtain⟨i,j,a,b,hx,hi,hj,ha,hb,rfl⟩:=hix hq
  have hbx:(ix.map L8)[((n:Nat):Int).toNat]?=some [.i i,.i j]:=A3 (R:=L8) hx
  obtain⟨ka,hsa⟩:=Sx hp hi ha
  obtain⟨kb,hsb⟩:=Sx hp hj hb
  have hla:=(a0f.1 ha).1
  have hlb:=(a0f.1 hb).1
  have ra:(h.sets.map SetR.row)[i.toNat]?=some a.row:=Ft ha
  have rb:(h.sets.map SetR.row)[j.toNat]?=some b.row:=Ft hb
  have cP:=Abl h c hf hc hp G hG e0 hi hj ha hb
  have hct:ctR h c G (a.name,b.name)=if Bt h c G a.name=0 then(if Bt h c G b.name=0 then frT a b (Br h c G a.name) (Br h c G b.name) (Fg h c G)else(0,0,Bt h c G b.name))else(0,0,Bt h c G a.name):=by unfold ctR;rw[hsa,hsb]
  have hbd:=hbad n _ hq hgo
  have htk:prs.take (n+1)=prs.take n++[(a.name,b.name)]:=by rw[a0u,hq];rfl
  have hKy:(ctR h c G (a.name,b.name)).2.2=0->Ci h c G (prs.take (n+1))=Ci h c G (prs.take n)++[⟨a.name,b.name,(ctR h c G (a.name,b.name)).1,(ctR h c G (a.name,b.name)).2.1⟩]:=fun e=>by rw[htk];exact A13 e
  have hKn:¬(ctR h c G (a.name,b.name)).2.2=0->Ci h c G (prs.take (n+1))=Ci h c G (prs.take n):=fun e=>by rw[htk];exact A4u e
  have hLl:(Ci h c G (prs.take n)).length<=3600:=a2d (U1 _ _ _ _) (by rw[a0x];omega)
  have hgo2:Cj h c G (a.name,b.name)->∀i,i<n+1->∀q,prs[i]?=some q->Cj h c G q:=fun g i hi q' hq'=>by
   by_cases e:i=n
   ·subst e
    rw[hq]at hq'
    injection hq' with hq'
    subst hq'
    exact g
   ·exact hgo i (by omega) q' hq'
  have hpn1:=Sk h c G a.name
  have hpn2:=Sk h c G b.name
  generalize Ci h c G (prs.take n)=LL at*
  unfold ppE at cP
  dsimp only at cP
  by_cases pe1:Bt h c G a.name=0
  ·rw[if_pos pe1]at cP hct
   by_cases pe2:Bt h c G b.name=0
   ·rw[if_pos pe2,if_pos pe2,pe2]at cP
    rw[if_pos pe2]at hct
    obtain⟨ox,x0,nx⟩:=W9 p hsa pe1
    obtain⟨oy,y0,ny⟩:=W9 p hsb pe2
    have sx:=A2e p hsa pe1
    have sy:=A2e p hsb pe2
    have ma:=a0a ha
    have mb:=a0a hb
    have cf:=Abg a b (Br h c G a.name) (Br h c G b.name) ⟨(hp.2.2.2.2.2.1 a ma).1,(hp.2.2.2.2.2.1 b mb).1,hf.2.2 a ma,hf.2.2 b mb,ox,oy,x0,y0,sx,sy,nx,ny⟩ (Fg h c G) ft t0 t1
    rw[A54]at cf
    rw[show frT a b (Br h c G a.name) (Br h c G b.name) (Fg h c G)=pr3 (Jc a b (Br h c G a.name) (Br h c G b.name) (Fg h c G))from if_pos ⟨sx,sy⟩]at hct
    unfold Cj at hgo2
    have hng:¬((ctR h c G (a.name,b.name)).2.2=0\/(ctR h c G (a.name,b.name)).2.2=12)->Ia h c G=[]/\Gy h c G prs=(ctR h c G (a.name,b.name)).2.2:=hbd
    rw[hct]at hKy hKn hng hgo2
    generalize pr3 (Jc a b (Br h c G a.name) (Br h c G b.name) (Fg h c G))=r at*
    obtain⟨u,v,e⟩:=r
    dsimp only at*
    generalize Br h c G a.name=xa at*
    generalize Br h c G b.name=xb at*
    by_cases ez:e=0
    ·subst ez
     have hK:=hKy rfl
     have hcl:=Va LL
     have hsn:=T6 LL ⟨a.name,b.name,u,v⟩
     have hln:(LL++[(⟨a.name,b.name,u,v⟩:ConR)]).length=LL.length+1:=by simp
     cases LL with
     |nil=>
      repeat' first|refine WY ?_|refine Zbq ?_|refine Dv 22 ?_|refine Dw 22 ?_|refine Dv 21 ?_|refine Dw 21 ?_|refine Zb0 ?_|refine Zbr ?_|refine V ?_|refine W2 ?_ ?_<;>intro hc
      all_goals(first|(change Next _ _ _ _ _ _)|(trace_state;fail))
      all_goals exact Next.go (n+1) ⟨by omega,hgo2 (.inl rfl)⟩ (by omega) (by rw[hK,show(((n+1:Nat):Int))=(n:Int)+1 by omega];exact CW) (by rw[hK];exact .live rfl CH)
     |cons l0 LL=>
      have hLl2:LL.length+1<=3600:=hLl
      repeat' first|refine WY ?_|refine Zbq ?_|refine Dv 22 ?_|refine Dw 22 ?_|refine Dv 21 ?_|refine Dw 21 ?_|refine Zb0 ?_|refine Zb2 hcl ?_|refine V ?_|refine W2 ?_ ?_<;>intro hc
      all_goals(first|(change Next _ _ _ _ _ _)|(trace_state;fail))
      all_goals exact Next.go (n+1) ⟨by omega,hgo2 (.inl rfl)⟩ (by omega) (by rw[hK,hln,show(((n+1:Nat):Int))=(n:Int)+1 by omega];exact CW) (by rw[hK,hsn,hln];exact .live rfl (.live rfl (.live rfl (.live (by rw[<-a1f];exact Ac _ _) .nil))))
    ·by_cases e12:e=12
     ·subst e12
      repeat' first|refine WY ?_|refine Zbq ?_|refine Dv 22 ?_|refine Dw 22 ?_|refine Dv 21 ?_|refine Dw 21 ?_|refine V ?_|refine W2 ?_ ?_<;>intro hc
      all_goals(first|(change Next _ _ _ _ _ _)|(trace_state;fail))
      all_goals exact Next.go (n+1) ⟨by omega,hgo2 (.inr rfl)⟩ (by omega) (by rw[hKn ez,show(((n+1:Nat):Int))=(n:Int)+1 by omega];cases LL<;>exact CW) (by rw[hKn ez];exact .live rfl (.live rfl (.live rfl (p2m (Ac _ _) .nil _))))
     ·obtain⟨b1,b2⟩:=hng fun k=>k.elim ez e12
      rw[b1,b2]
      repeat' first|refine WY ?_|refine Zbq ?_|refine Dv 22 ?_|refine Dw 22 ?_|refine Dv 21 ?_|refine Dw 21 ?_|refine Zb7 ?_|refine V ?_|refine W2 ?_ ?_<;>intro hc
      all_goals exact D2 rfl rfl rfl
   ·rw[if_neg pe2,if_neg pe2]at cP
    rw[if_neg pe2]at hct
    rw[hct]at hbd
    obtain⟨b1,b2⟩:=hbd fun k=>by
     unfold Cj at k
     rw[hct]at k
     exact k.elim pe2 hpn2
    rw[b1,b2]
    dsimp only
    generalize Bt h c G b.name=e at*
    repeat' first|refine WY ?_|refine Zbq ?_|refine Dv 22 ?_|refine Dw 22 ?_|refine Dv 21 ?_|refine Dw 21 ?_|refine Zb7 ?_|refine V ?_|refine W2 ?_ ?_<;>intro hc
    all_goals exact D2 rfl rfl rfl
  ·rw[if_neg pe1,if_neg pe1,if_neg pe1]at cP
   rw[if_neg pe1]at hct
   rw[hct]at hbd
   obtain⟨b1,b2⟩:=hbd fun k=>by
    unfold Cj at k
    rw[hct]at k
    exact k.elim pe1 hpn1
   rw[b1,b2]
   dsimp only
   generalize Bt h c G a.name=e at*
   repeat' first|refine WY ?_|refine Zbq ?_|refine Dv 22 ?_|refine Dw 22 ?_|refine Dv 21 ?_|refine Dw 21 ?_|refine Zb7 ?_|refine V ?_|refine W2 ?_ ?_<;>intro hc
   all_goals exact D2 rfl rfl rfl
 ·have h1:¬(n:Int)<((ix.map L8).length:Nat):=by omega
  rw[a0g (by omega)]
  have hall:∀q∈prs,Cj h c G q:=fun q hq=>by
   obtain⟨i,hi⟩:=a2x hq
   exact hgo i (by have:=(a0f.1 hi).1;omega) q hi
  have e1:=Lv hall
  have e2:Ia h c G=Ci h c G prs:=by unfold Ia;rw[hprs,e1];exact if_pos rfl
  rw[e1,e2]
  generalize Ci h c G prs=LL at*
  refine p2d 13 3 (rows:=LL.map ConR.row) (Xc _) (a0e _) rfl rfl ?_
  repeat' first|refine WX ?_|refine W2 ?_ ?_<;>intro hc
  all_goals exact D2 rfl rfl rfl
theorem Wo(h:HouseR)(c:SheetR)(hf:h.fits)(hc:c.fits)(G:List Int)(hG:G.length<=4611686018427387904):Fz 10 [A0 h.row,A0 c.row,.sl (G.map A1)] (.tup [.sl ((ckL h c G).map ConR.row),.i (ckE h c G)]):=by
 unfold ckL ckE
 by_cases e0:alE h c G=0
 ·rw[if_pos e0,if_pos e0];exact Abj h c hf hc G hG e0
 ·rw[if_neg e0,if_neg e0];exact A0c h c hf hc G hG e0
/-! ### The first contact -/
theorem Abk(h:HouseR)(c:SheetR)(hf:h.fits)(hc:c.fits)(G:List Int)(hG:G.length<=4611686018427387904):Fz 11 [A0 h.row,A0 c.row,.sl (G.map A1)] (.tup [A0 (fiC h c G).row,.i (fiE h c G)]):=by
 have ck:=Wo h c hf hc G hG
 have hl:=X7 (h:=h) (c:=c) (G:=G)
 unfold fiC fiE
 by_cases e:ckE h c G=0
 ·rw[e]at ck⊢
  by_cases hz:(ckL h c G).length=0
  ·rw[if_pos rfl,if_pos hz,if_neg (fun k=>k.2 hz)]
   have hle:((ckL h c G).map ConR.row).length=(ckL h c G).length:=a0e _
   generalize ckL h c G=LL at*
   have hz2:((LL.map ConR.row).length:Int)=0:=by omega
   refine Fo b3c ?_
   repeat' first|refine WX ?_|refine W2 ?_ ?_<;>intro hc
   all_goals exact D3 rfl rfl rfl rfl rfl rfl rfl
  ·rw[if_pos rfl,if_neg hz,if_pos ⟨rfl,hz⟩]
   have hne:ckL h c G≠[]:=fun k=>hz (by rw[k];rfl)
   generalize ckL h c G=l at*
   have hle:=lmA l ConR.row
   have hz2:¬((l.map ConR.row).length:Int)=0:=by omega
   obtain⟨x,hx⟩:=A2 (l:=l) (k:=0) (by omega)
   have hb0:(l.map ConR.row)[(0:Int).toNat]?=some (ConR.row x):=A3 (k:=0) hx
   have hx1:mnL (l.take 1)=x:=by
    cases l with
    |nil=>exact absurd rfl hne
    |cons y l=>simp at hx;subst hx;rfl
   refine Fo b3c ?_
   repeat' first|refine WX ?_|refine W2 ?_ ?_<;>intro hc
   refine p0c (fun k=>1<=k/\k<=l.length) (fun k=>l.length-k) (fun k=>[(11,.i k),(10,.ptr 3 0),(6,.ptr 2 0),(8,.sl (l.map ConR.row))]) (fun k=>[.live (h.row.map .lf),.live (c.row.map .lf),.live [.s ⟨#[]⟩,.s ⟨#[]⟩,.i 0,.i 0],.live ((mnL (l.take k)).row.map .lf)]) 1 ⟨a0n _,by omega⟩ CW (by rw[hx1];exact .live rfl CH) ?_
   rintro k ⟨hk1,hk⟩
   by_cases hlt:k<l.length
   ·have h2:(k:Int)<((l.map ConR.row).length:Nat):=by omega
    obtain⟨y,hy⟩:=A2 hlt
    have hb:=A3 (R:=ConR.row) hy
    have hne:l.take k≠[]:=fun e=>by have:=congrArg List.length e;rw[a0x,a0m]at this;omega
    have hm:mnL (l.take (k+1))=Uf (mnL (l.take k)) y:=by rw[a0u,hy];exact A22 y hne
    unfold Uf at hm
    generalize mnL (l.take k)=m at*
    by_cases hc1:y.lo<m.lo
    ·rw[if_pos (show ltC y m from .inl hc1)]at hm
     repeat' first|refine WY ?_|refine Dv 34 ?_|refine Dw 34 ?_|refine Da ?_|refine V ?_|refine W2 ?_ ?_<;>intro hc
     all_goals(first|(change Next _ _ _ _ _ _)|(trace_state;fail))
     all_goals exact Next.go (k+1) ⟨by omega,by omega⟩ (by omega) (by rw[show(((k+1:Nat):Int))=(k:Int)+1 by omega];exact CW) (by rw[hm];exact .live rfl CH)
    ·by_cases hc2:y.lo=m.lo
     ·by_cases hc3:y.hi<m.hi
      ·rw[if_pos (show ltC y m from .inr ⟨hc2,hc3⟩)]at hm
       repeat' first|refine WY ?_|refine Dv 34 ?_|refine Dw 34 ?_|refine Da ?_|refine V ?_|refine W2 ?_ ?_<;>intro hc
       all_goals(first|(change Next _ _ _ _ _ _)|(trace_state;fail))
       all_goals exact Next.go (k+1) ⟨by omega,by omega⟩ (by omega) (by rw[show(((k+1:Nat):Int))=(k:Int)+1 by omega];exact CW) (by rw[hm];exact .live rfl CH)
      ·rw[if_neg (show ¬ltC y m from fun k=>k.elim hc1 fun k=>hc3 k.2)]at hm
       repeat' first|refine WY ?_|refine Dv 34 ?_|refine Dw 34 ?_|refine Da ?_|refine V ?_|refine W2 ?_ ?_<;>intro hc
       all_goals(first|(change Next _ _ _ _ _ _)|(trace_state;fail))
       all_goals exact Next.go (k+1) ⟨by omega,by omega⟩ (by omega) (by rw[show(((k+1:Nat):Int))=(k:Int)+1 by omega];exact CW) (by rw[hm];exact .live rfl CH)
     ·rw[if_neg (show ¬ltC y m from fun k=>k.elim hc1 fun k=>hc2 k.1)]at hm
      repeat' first|refine WY ?_|refine Dv 34 ?_|refine Dw 34 ?_|refine Da ?_|refine V ?_|refine W2 ?_ ?_<;>intro hc
      all_goals(first|(change Next _ _ _ _ _ _)|(trace_state;fail))
      all_goals exact Next.go (k+1) ⟨by omega,by omega⟩ (by omega) (by rw[show(((k+1:Nat):Int))=(k:Int)+1 by omega];exact CW) (by rw[hm];exact .live rfl CH)
   ·have h2:¬(k:Int)<((l.map ConR.row).length:Nat):=by omega
    rw[a0g (by omega)]
    generalize mnL l=m
    repeat' first|refine WX ?_|refine W2 ?_ ?_<;>intro hc
    all_goals exact D3 rfl rfl rfl rfl rfl rfl rfl
 ·rw[if_neg e,if_neg (fun k=>e k.1)]
  rw[X8 e]at ck
  generalize ckE h c G=x at*
  refine Fo b3c ?_
  repeat' first|refine WX ?_|refine W2 ?_ ?_<;>intro hc
  all_goals exact D3 rfl rfl rfl rfl rfl rfl rfl
theorem Ad8(h:HouseR)(c:SheetR)(hf:h.fits)(hc:c.fits)(G:List Int)(hG:G.length<=4611686018427387904):∃n e:Int,Fz 9 [A0 h.row,A0 c.row,.sl (G.map A1)] (.tup [.i n,.i e])/\Fz 12 [A0 h.row,A0 c.row,.sl (G.map A1)] (.tup [.i n,.i e]):=by
 by_cases e0:alE h c G=0
 ·exact⟨_,_,A35 h c hf hc G hG e0,A63 h c hf hc G hG e0⟩
 ·exact⟨_,_,Rj h c hf hc G hG e0,Tq h c hf hc G hG e0⟩
theorem Xm(h:HouseR)(c:SheetR)(hf:h.fits)(hc:c.fits)(G:List Int)(hG:G.length<=4611686018427387904):Fz 3 [A0 h.row,A0 c.row,.sl (G.map A1)] (.b true):=by
 have aw:=Aa4
 have lg:=Aa5 h c hf hc G
 by_cases hl:Mc h c G
 ·rw[decide_eq_true hl]at lg
  refine Fo b1l ?_
  repeat' first|refine WX ?_|refine W2 ?_ ?_<;>intro hc
  all_goals exact Dd rfl rfl (by first|rfl|simp)
 rw[decide_eq_false hl]at lg
 have c1:=Kn h c hf hc G hG
 have c2:=A8a h c hf hc G hG
 have d1:=Wo h c hf hc G hG
 have d2:=Abk h c hf hc G hG
 obtain⟨n,e3,c3,d3⟩:=Ad8 h c hf hc G hG
 have hcl:=X7 (h:=h) (c:=c) (G:=G)
 have ce:=Vj (ckL h c G) (ckL h c G) (by omega) (by omega)
 rw[decide_eq_true rfl]at ce
 generalize ckL h c G=L at*
 generalize ckE h c G=e1 at*
 generalize fiE h c G=e2 at*
 generalize fiC h c G=x at*
 obtain⟨x1,x2,x3,x4⟩:=x
 have q0:eqC x1 x2 x3 x4 x1 x2 x3 x4:=⟨rfl,rfl,rfl,rfl⟩
 have q1:e1=e1:=rfl
 have q2:e2=e2:=rfl
 have q3:e3=e3:=rfl
 have q4:n=n:=rfl
 refine Fo b1l ?_
 repeat' first|refine WY ?_|(apply p4c rfl;(iterate 3 exact rfl))|(apply p4e rfl;(iterate 3 exact rfl))|refine V ?_|refine W2 ?_ ?_<;>intro hc
 all_goals exact Dd rfl rfl (by first|rfl|simp)
end Go.Proofs.YtcaicpnepfjcmaaGreat
