/- Lemmas of the proof. -/
import Derived.Test.YtcaicpnepfjcmaaGreatNh
import Derived.Test.YtcaicpnepfjcmaaGreatNy
import Derived.Lib.QuietBelow
import Derived.Test.YtcaicpnepfjcmaaGreatNf
import Derived.Test.YtcaicpnepfjcmaaGreatMq
set_option linter.all false
set_option maxHeartbeats 64000000
namespace Go.Proofs.YtcaicpnepfjcmaaGreat
open Go Go.RowKit
def a1c:= @Rat.le_trans
def a1u:= @List.append_nil
def a2i:= @Rat.le_refl
def a3i:= @List.append_assoc
def a6i:= @List.drop_eq_getElem_cons
def a6q:= @Nat.sub_self
def a7l:= @List.set_append_right
def a7y:= @List.map_map
def b3l:= @Array.extract_size
def b3n:= @Go.Sort.size_flatK
set_option maxRecDepth 100000 in
theorem P0:Tryz.prog.fieldsOf 55= #[⟨"Num",3,0,false, "", "",0⟩,⟨"Den",3,1,false, "", "",8⟩]:=by
 unfold Program.fieldsOf
 rw[a3p]
theorem Yo:Tryz.prog.stoodInHeld 55=false:=by kernel_rfl
theorem Yn:Tryz.prog.eqGuardType Tryz.prog.depth 55=false:=by kernel_rfl
theorem A9u:Tryz.prog.underlying 55=some (.struct (Tryz.prog.fieldsOf 55)):=by
 rw[P0];exact a3p
set_option maxRecDepth 100000 in
instance :HasEq2 Tryz.prog 55:=⟨fun o η w x y u a b c d ho hx hy=>by
 have h1:=fun d' (k:IntKind)(a b:Int)=>run_equalIn_int (P:=Tryz.prog) w d' 3 k .i64 a b a1w
 have h2:=run_equalIn_agg (P:=Tryz.prog) w 9999 55 #[.int .i64 a,.int .i64 b] #[.int .i64 c,.int .i64 d] A9u Yo
 have h3:=run_eqGuard_agg (P:=Tryz.prog) w .eql 55 x y #[.int .i64 a,.int .i64 b] #[.int .i64 c,.int .i64 d] Yn
 have h4:=run_eql_struct (P:=Tryz.prog) w 55 #[.int .i64 a,.int .i64 b] #[.int .i64 c,.int .i64 d]
 rw[P0]at h2
 simp only[execOp,ho,hx,hy,a0t,h3,a0o,h4]
 rw[h2]
 simp[Op.eqFields,go_sem,h1]
 by_cases e1:a=c<;>by_cases e2:b=d<;>simp[*]⟩
set_option maxRecDepth 100000 in
theorem Ww:Tryz.prog.fieldsOf 38= #[⟨"Lo",3,0,false, "", "",0⟩,⟨"Hi",3,1,false, "", "",8⟩]:=by
 unfold Program.fieldsOf
 rw[a7g]
theorem Ac8:Tryz.prog.stoodInHeld 38=false:=by kernel_rfl
theorem Ac7:Tryz.prog.underlying 38=some (.struct (Tryz.prog.fieldsOf 38)):=by
 rw[Ww];exact a7g
abbrev FQ:={q:Rat//Fits q}
theorem Ag1:Fits (0:Rat):=by decide
instance :Inhabited FQ:=⟨⟨0,Ag1⟩⟩
def Ea(x:FQ):List Value:=[.int .i64 x.1.num,.int .i64 x.1.den]
def U0(x y:FQ):Int:=Ay x.1 y.1
theorem ltF(x y:FQ):Go.Proofs.ltOf U0 x y=decide (x.1<y.1):=by
 unfold Go.Proofs.ltOf U0
 by_cases h:x.1<y.1
 ·rw[decide_eq_true h,decide_eq_true ((Dr _ _).2 h)]
 ·rw[decide_eq_false h,decide_eq_false (fun k=>h ((Dr _ _).1 k))]
theorem Aj8:Go.Sort.SWO (Go.Proofs.ltOf U0) where
 irrefl x:=by rw[ltF];exact decide_eq_false (by grind)
 trans x y z h k:=by
  rw[ltF,decide_eq_true_eq]at*
  grind
 ntrans x y z h k:=by
  rw[ltF,decide_eq_false_iff_not]at*
  grind
theorem A2t(w:World)(L:Nat->Prop)(x:FQ):RelV w L Ba (A0 (frR x.1)) (.agg (Ea x).toArray):=by
 refine .agg _ (Ea x) rfl fun i y v hy hv=>?_
 match i with
 |0=>simp[frR,Ea]at hy hv;subst hy hv;exact Ab _
 |1=>simp[frR,Ea]at hy hv;subst hy hv;exact Ab _
 |i+2=>simp[Ea]at hv
theorem A11(x y:FQ)(W:World)(hG:Glob W):Calls Tryz.prog 98 #[.agg (Ea x).toArray,.agg (Ea y).toArray] W fun e w'=>e=.returned (.int .i64 (U0 x y))/\∃q os',w'=Go.Sort.grow (W.drewN q) os':=by
 have h:=(Ch x.1 y.1 x.2 y.2).run (fun _=>False) W [.agg (Ea x).toArray,.agg (Ea y).toArray] hG (fun _ h=>h.elim) rfl fun i z v hz hv=>by
  match i with
  |0=>simp at hz hv;subst hz hv;exact A2t _ _ x
  |1=>simp at hz hv;subst hz hv;exact A2t _ _ y
  |i+2=>simp at hv
 have h2:Calls Tryz.prog 98 #[.agg (Ea x).toArray,.agg (Ea y).toArray] W fun e w'=>e=.returned (.int .i64 (U0 x y))/\Below W.heap.size W w':=h.mono fun e w' ⟨v,he,hv,hb⟩=>⟨by rw[he,hv.val_eq];rfl,hb⟩
 refine(Up.calls_up h2).mono fun e w' ⟨he,hb,hd⟩=>⟨he,?_⟩
 obtain⟨p,hp⟩:=regrown_of_below hb
 have hpd:w'.drawn=p.d:=by rw[hp];rfl
 refine⟨p.d-W.drawn,p.os,?_⟩
 rw[hp]
 have:W.drewN (p.d-W.drawn)=redrawn W p.d:=by
  unfold World.drewN redrawn
  rw[show W.drawn+(p.d-W.drawn)=p.d by omega]
 rw[this]
def Cp(l:List Rat):List Lf:=(l.map frR).flatten
theorem Sc(l:List Rat):∀r∈l.map frR,r.length=2:=by
 intro r hr
 obtain⟨n,_,rfl⟩:=a1d.1 hr
 rfl
theorem Ok(l:List Rat):(Cp l).length=l.length*2:=by rw[Cp,Bc _ (Sc l),a0e]
theorem A03(l m:List Rat):Cp (l++m)=Cp l++Cp m:=by simp[Cp]
def I8(d:Array FQ):List Rat:=d.toList.map (·.1)
theorem Vb(d:Array FQ)(t:Nat)(ht:t<d.size*2):(Cp (I8 d))[t]?=some (.val ((Go.Sort.flatK Ea 2 d)[t]!)):=by
 have h1:t/2<d.size:=by omega
 rw[Go.Sort.get_flatK _ _ _ _ ht,Cp]
 have:=Ld ((I8 d).map frR) (t/2) (t%2) (Sc _) (a5n _ (by decide))
 rw[show t/2*2+t%2=t by omega]at this
 rw[this,I8,a7y,a0d,a0b (by simpa using h1),getElem!_pos d _ h1]
 rcases Nat.mod_two_eq_zero_or_one t with e|e<;>rw[e]<;>simp[Ea]
theorem Ro(w:World)(blk off n:Nat)(d:Array FQ)(os:Array Obj)(k:Nat)(hk:k<w.heap.size):(Go.Proofs.sortWorldK Ea 2 w blk off n d os).heap[k]?=if blk=k then(w.heap[k]?).map (Go.Sort.onCells (Go.Sort.putCells id off (Go.Sort.flatK Ea 2 d)))else w.heap[k]?:=by
 show(w.heap.modify blk (Go.Sort.onCells (Go.Sort.putCells id off (Go.Sort.flatK Ea 2 d)))++os)[k]?=_
 rw[a1r (by simpa using hk),a8n]
theorem Qd(off:Nat)(F c:Array Value):(Go.Sort.putCells id off F c).size=c.size:=by simp[Go.Sort.putCells]
theorem A6i(w:World)(blk off n:Nat)(d:Array FQ)(os:Array Obj):Fr (fun j=>j=blk) w (Go.Proofs.sortWorldK Ea 2 w blk off n d os):=by
 have hs:w.heap.size<=(Go.Proofs.sortWorldK Ea 2 w blk off n d os).heap.size:=by
  show w.heap.size<=(w.heap.modify blk _++os).size
  simp
 refine⟨rfl,rfl,rfl,hs,fun k hk hn=>by rw[Ro w blk off n d os k hk,if_neg (fun e=>hn e.symm)],fun k x hx=>?_⟩
 have hk:=Ga hx
 unfold World.shape? at hx⊢
 rw[Ro w blk off n d os k hk]
 by_cases e:blk=k
 ·rw[if_pos e]
  cases hh:w.heap[k]? with
  |none=>rw[hh]at hx;cases hx
  |some ob=>
   rw[hh]at hx
   cases ob with
   |cells c e fr=>simpa[Go.Sort.onCells,Qd]using hx
   |_=>exact hx
 ·rw[if_neg e];exact hx
def Acs(l:List Rat)(xs:List Lf):Prop:=∃l',xs=Cp l'/\l'.Perm l/\l'.Pairwise (· <= ·)
theorem Wv(l:List Rat)(hl:∀q∈l,Fits q)(hn:l.length<4611686018427387904):FnSort Tryz.prog 284 98 2 l.length (Cp l) (Acs l):=by
 refine⟨⟨_,Tryz.func284,by kernel_rfl,rfl⟩,fun L w k o cap c el lo hi hG hL hLk hw hlo hcap hfit hc=>?_⟩
 let d:Array FQ:=(l.pmap (fun q h=>(⟨q,h⟩:FQ)) hl).toArray
 have hd:I8 d=l:=by
  simp only[I8,d,List.map_pmap]
  rw[List.pmap_eq_map,List.map_id']
 have hds:d.size=l.length:=by simp[d]
 have hkw:k<w.heap.size:=Cl hw
 have hfit2:o+l.length*2<=c.size:=by omega
 have hH:Go.Sort.HoldsK Ea 2 w k o d:=by
  intro t ht
  rw[b3n]at ht
  have h1:=Vb d t ht
  rw[hd]at h1
  obtain⟨u,h2,h3⟩:=hc t _ h1
  rw[h3.val_eq]at h2
  refine⟨Bi hw h2,?_⟩
  simp only[World.frozen?,hw]
  simp
  omega
 have hcmp:Go.Proofs.CmpLays Tryz.prog 98 #[] Ea 2 U0 k o d.size w:=fun m os dk hs x y=>A11 x y _ (hG _ (A6i w k o m dk os))
 have h:=Go.Proofs.AnyQ.slices_SortFunc Tryz.srt 2 Tryz.isAgg55 Tryz.sizeOf55 Ea (fun _=>rfl) (fun x v hv=>by simp[Ea]at hv;rcases hv with rfl|rfl<;>rfl) U0 Aj8 98 #[] k o cap d w (enters_of Tryz.func98 (by kernel_rfl) rfl) hcmp hH hkw (by rw[hds];exact hn)
 rw[hds]at h
 refine h.mono ?_
 rintro e w' ⟨rfl,d',n,os,⟨hs',_,hperm⟩,hsort,rfl⟩
 have hs2:d'.size=l.length:=by rw[hs',hds]
 have hlen:(Cp (I8 d')).length=l.length*2:=by rw[Ok];simp[I8,hs2]
 have hwk:(Go.Proofs.sortWorldK Ea 2 w k o n d' os).heap[k]?=some (.cells (Go.Sort.putCells id o (Go.Sort.flatK Ea 2 d') c) el (lo,hi)):=by
  rw[Ro w k o n d' os k hkw,if_pos rfl,hw];rfl
 refine⟨rfl,A6i w k o n d' os,Cp (I8 d'),_,⟨I8 d',rfl,?_,?_⟩,hwk,Qd _ _ _,by rw[hlen,Ok],fun j x hj=>?_⟩
 ·have hp:d'.toList.Perm d.toList:=by
   have e1:d'.extract 0 l.length=d':=by rw[<-hs2];exact b3l
   have e2:d.extract 0 l.length=d:=by rw[<-hds];exact b3l
   rw[e1,e2]at hperm
   exact hperm
  rw[<-hd]
  exact hp.map _
 ·rw[a3r]
  intro i j hi hj hij
  have hi':i<d'.size:=by simpa[I8]using hi
  have hj':j<d'.size:=by simpa[I8]using hj
  have:=hsort i j (a0k _) hij (by omega)
  rw[ltF,decide_eq_false_iff_not,getElem!_pos d' j hj',getElem!_pos d' i hi']at this
  simp only[I8,List.getElem_map,Array.getElem_toList]
  grind
 ·have hjl:j<d'.size*2:=by rw[hs2,<-hlen];exact(a0f.1 hj).1
  rw[Vb d' j hjl]at hj
  injection hj with hj
  subst hj
  refine⟨_,?_,.val _⟩
  simp only[Go.Sort.putCells,Array.getElem?_mapIdx]
  rw[a2e (by omega)]
  simp only[a1g]
  rw[if_pos ⟨by omega,by rw[b3n];omega⟩]
  simp
class HasNe2(P:Program)(t:TypeId):Prop where
 out:∀(o:Oper)(η:Operand->Value)(w:World)(x y:Operand)(u:TypeId)(a b c d:Int),o.op=.binOp .neq t x y u->η x=.agg #[.int .i64 a,.int .i64 b]->η y=.agg #[.int .i64 c,.int .i64 d]->(execOp η o).run P w=.ok (.value (.bool (decide (¬(a=c/\b=d))))) w
section
variable {P:Program}{N:Nat}{ops:Array Oper}{m:Option Nat}{K:Tm->AH->Prop}{tm:Tm}{H:AH}{rest:List Oper}{ty:TypeId}{pos:String}{af:Array Edge}{d:Nat}{t:TypeId}{x y:Operand}
theorem p6g{u:TypeId}{a b c e':Int}[he:HasNe2 P t](hx:evT tm x=some (.agg [.val (.int .i64 a),.val (.int .i64 b)]))(hy:evT tm y=some (.agg [.val (.int .i64 c),.val (.int .i64 e')]))(hN:LN d N)(h:Reg m P N ops rest ((d,.val (.bool (decide (¬(a=c/\b=e')))))::tm) H K):Reg m P N ops (⟨some d,.binOp .neq t x y u,ty,pos,af,none⟩::rest) tm H K:=by
 refine S.val (OpV.mk fun L w ρ η hη hH=>?_) hN h
 have h1:=(hη x (by simp[Op.operands]) _ hx).flat (u:=.agg #[.int .i64 a,.int .i64 b]) rfl
 have h2:=(hη y (by simp[Op.operands]) _ hy).flat (u:=.agg #[.int .i64 c,.int .i64 e']) rfl
 exact⟨_,he.out _ η w x y u a b c e' rfl h1 h2,Ab _⟩
end
set_option maxRecDepth 100000 in
instance :HasNe2 Tryz.prog 55:=⟨fun o η w x y u a b c d ho hx hy=>by
 have h1:=fun d' (k:IntKind)(a b:Int)=>run_equalIn_int (P:=Tryz.prog) w d' 3 k .i64 a b a1w
 have h2:=run_equalIn_agg (P:=Tryz.prog) w 9999 55 #[.int .i64 a,.int .i64 b] #[.int .i64 c,.int .i64 d] A9u Yo
 have h3:=run_eqGuard_agg (P:=Tryz.prog) w .neq 55 x y #[.int .i64 a,.int .i64 b] #[.int .i64 c,.int .i64 d] Yn
 have h4:=run_neq_struct (P:=Tryz.prog) w 55 #[.int .i64 a,.int .i64 b] #[.int .i64 c,.int .i64 d]
 rw[P0]at h2
 simp only[execOp,ho,hx,hy,a0t,h3,a0o,h4]
 rw[h2]
 simp[Op.eqFields,go_sem,h1]
 by_cases e1:a=c<;>by_cases e2:b=d<;>simp[*]⟩
def cN(l:List Rat):Nat->List Rat
 |0=>[]
 |n+1=>cN l n++(if n≠0/\l[n]?=l[n-1]? then[]else(l[n]?).toList)
theorem S0{l:List Rat}{n:Nat}{q:Rat}(h:l[n]?=some q)(hd:n≠0->l[n-1]?≠some q):cN l (n+1)=cN l n++[q]:=by
 rw[cN,if_neg,h];rfl
 rintro⟨h1,h2⟩
 exact hd h1 (by rw[<-h2,h])
theorem S5{l:List Rat}{n:Nat}{q:Rat}(h:l[n]?=some q)(h0:n≠0)(hd:l[n-1]?=some q):cN l (n+1)=cN l n:=by
 rw[cN,if_pos ⟨h0,by rw[h,hd]⟩,a1u]
theorem S6{l:List Rat}:∀(n:Nat),n<=l.length->(∀j,0<j->j<n->l[j]?≠l[j-1]?)->cN l n=l.take n
 |0,_,_=>by simp[cN]
 |n+1,h,hu=>by
  have hx:l[n]?=some l[n]:=a0b (by omega)
  rw[S0 hx (fun h0 e=>hu n (by omega) (by omega) (by rw[e,hx])),S6 n (by omega) fun j h1 h2=>hu j h1 (by omega),a0u,hx]
  rfl
theorem V8(l:List Rat):∀(n:Nat),(cN l n).length<=n
 |0=>by simp[cN]
 |n+1=>by
  rw[cN,a0s]
  have:=V8 l n
  split
  ·simp;omega
  ·cases l[n]?<;>simp<;>omega
abbrev fa(l:List Rat):List AV:=(Cp l).map .lf
theorem Vl(l:List Rat):(fa l).length=l.length*2:=by rw[a0e,Ok]
theorem Jt(q:Rat)(l:List Rat):fa (q::l)=.i q.num:: .i q.den::fa l:=rfl
theorem Hk:∀{l:List Rat}{j:Nat}{q:Rat},l[j]?=some q->((fa l).drop (j*2)).take 2=[.i q.num,.i q.den]
 |[],j,q,h=>by simp at h
 |x::l,0,q,h=>by
  simp only[a2f,a0h]at h
  subst h
  rfl
 |x::l,j+1,q,h=>by
  rw[Jt,show(j+1)*2=j*2+1+1 by omega,a6k,a6k]
  exact Hk (by simpa using h)
theorem A1b:∀(l:List Rat)(j:Nat)(q:Rat),j<l.length->Bk (j*2) [.i q.num,.i q.den] (fa l)=fa (l.set j q)
 |[],j,q,h=>by simp at h
 |x::l,0,q,h=>by
  rw[a5f,Jt,Jt]
  simp[Bk,G9]
 |x::l,j+1,q,h=>by
  rw[a5e,Jt,Jt,<-A1b l j q (by simpa using h),show(j+1)*2=j*2+2 by omega]
  simp[Bk]
theorem A53:∀(l:List Rat)(j:Nat),(fa l).take (j*2)=fa (l.take j)
 |[],j=>by rw[show fa []=[]from rfl,List.take_nil,List.take_nil];rfl
 |x::l,0=>rfl
 |x::l,j+1=>by
  rw[a3t,Jt,Jt,show(j+1)*2=j*2+1+1 by omega,a3t,a3t,A53 l j]
theorem Yv{l:List Rat}{j:Nat}{q:Rat}(h:l[j]?=some q):j<l.length:=(a0f.1 h).1
theorem Kq{l:List Rat}{j:Nat}{q:Rat}(h:l[j]?=some q):j*2+2<=(fa l).length:=by
 have:=Yv h
 rw[Vl]
 omega
theorem Iq(n:Nat)(l:List Rat):(fa l).all (AV.under n)=true:=Ac n _
def cM(l:List Rat)(n:Nat):List Rat:=cN l n++l.drop (cN l n).length
theorem Ahq(l:List Rat)(n j:Nat)(h:(cN l n).length<=j)(hn:n<=l.length):(cM l n)[j]?=l[j]?:=by
 rw[cM,a1h h,a2r]
 congr 1
 omega
theorem Ahr(l:List Rat)(n:Nat)(hn:n<=l.length):(cM l n).length=l.length:=by
 have:=V8 l n
 rw[cM,a0s,a4z]
 omega
theorem Afx{l:List Rat}{n:Nat}{q:Rat}(h:l[n]?=some q)(hd:n≠0->l[n-1]?≠some q):(cM l n).set (cN l n).length q=cM l (n+1):=by
 have h1:=V8 l n
 have h2:=Yv h
 have h3:(cN l n).length<l.length:=by omega
 rw[cM,cM,S0 h hd,a7l _ _ (a0n _),a6q,a0s,a6b,a3i]
 congr 1
 rw[a6i h3,a5f]
 rfl
theorem P6{p q:Rat}(h:¬(p.num=q.num/\(p.den:Int)=(q.den:Int))):p≠q:=by
 rintro rfl
 exact h ⟨rfl,rfl⟩
theorem Ow{p q:Rat}(h:p.num=q.num/\(p.den:Int)=(q.den:Int)):p=q:=Rat.ext h.1 (by omega)
theorem A05(l:List Rat)(hn:l.length<=1000000):FnMut Tryz.prog 285 2 l.length (Cp l) (cN l l.length).length (Cp (cN l l.length)):=by
 refine FnMut.of Tryz.func285 Tryz.ntmps285 rfl rfl rfl ?_
 have whole:(∀j,0<j->j<l.length->l[j]?≠l[j-1]?)->cN l l.length=l:=fun h=>by rw[S6 _ (a0n _) h,a1l]
 by_cases h2:(l.length:Int)<2
 ·have hw:=whole fun j h1 h3=>by omega
  repeat' first|refine W ?_|refine Zbb ?_|(apply T.ret;change A0g _ _ _ _ _ _ _)|refine V ?_|refine W2 ?_ ?_<;>intro hc
  exact⟨.inr rfl,0,by rw[hw];exact .cons (.tmp rfl) .nil,by rw[hw];rfl⟩
 ·repeat' first|refine W ?_|refine Zbb ?_|refine V ?_|refine W2 ?_ ?_<;>intro hc
  refine p0c (fun k=>1<=k/\k<=l.length/\∀j,0<j->j<k->l[j]?≠l[j-1]?) (fun k=>l.length-k) (fun k=>[(3,.i k),(0,.own 0 0 l.length 2)]) (fun k=>[.live (fa l)]) 1 ⟨a0n _,by omega,fun j h1 h2=>by omega⟩ CV (.live (Iq _ _) .nil) ?_
  rintro k ⟨hk1,hk2,hu⟩
  by_cases hlt:(k:Int)<(l.length:Nat)
  ·obtain⟨x,hx⟩:∃x,l[k]?=some x:=⟨l[k],a0b (by omega)⟩
   obtain⟨y,hy⟩:∃y,l[k-1]?=some y:=⟨l[k-1],a0b (by omega)⟩
   by_cases he:x.num=y.num/\(x.den:Int)=(y.den:Int)
   ·skip
    repeat' first|refine WY ?_|refine Zbb ?_|(apply S.indexO (o2:=(k)*2);(iterate 4 exact rfl);omega;omega)|(apply S.indexO (o2:=(k-1)*2);(iterate 4 exact rfl);omega;omega)|refine Zbz (Hk hx) (Kq hx) ?_|refine Zbz (Hk hy) (Kq hy) ?_|refine Zd9 ?_|refine Da ?_|(apply p2w (o2:=k*2) (l2:=l.length-k);(iterate 4 exact rfl);omega;omega;omega)|refine V ?_|refine W2 ?_ ?_<;>intro hc
    have hxy:=Ow he
    have hc1:(cN l (k+1)).length=k:=by rw[S5 hx (by omega) (by rw[hy,hxy]),S6 k hk2 hu,a0x];omega
    have hM1:cM l (k+1)=l:=by rw[cM,hc1,S5 hx (by omega) (by rw[hy,hxy]),S6 k hk2 hu,a4i]
    refine p0c (fun i=>1<=i/\k+i<=l.length/\(cN l (k+i)).length+1<=k+i) (fun i=>l.length-(k+i)) (fun i=>[(5,.i i),(3,.i (cN l (k+i)).length),(4,.own 0 (k*2) (l.length-k) 2),(0,.own 0 0 l.length 2)]) (fun i=>[.live (fa (cM l (k+i)))]) 1 ⟨a0n _,by omega,by omega⟩ (.cons rfl rfl (.cons (by rw[hc1];rfl) rfl CV)) (by rw[hM1];exact .live (Iq _ _) .nil) ?_
    rintro i ⟨hi1,hi2,hi3⟩
    have hcl:=V8 l (k+i)
    have hML:=Ahr l (k+i) hi2
    have hg:=fun j=>Ahq l (k+i) j
    have hdf:=fun q=>Afx (l:=l) (n:=k+i) (q:=q)
    have hcd:=fun q=>S0 (l:=l) (n:=k+i) (q:=q)
    have hcs:=fun q=>S5 (l:=l) (n:=k+i) (q:=q)
    have htk:k+i=l.length->(cM l (k+i)).take (cN l (k+i)).length=cN l l.length:=fun h=>by rw[cM,List.take_left',h];rfl
    by_cases hli:(i:Int)<((l.length-k:Nat):Int)
    ·obtain⟨u,hu'⟩:∃u,l[k+i]?=some u:=⟨l[k+i],a0b (by omega)⟩
     obtain⟨v,hv'⟩:∃v,l[k+i-1]?=some v:=⟨l[k+i-1],a0b (by omega)⟩
     have hgu:=(hg (k+i) (by omega) hi2).trans hu'
     have hgv:=(hg (k+i-1) (by omega) hi2).trans hv'
     by_cases hs:u.num=v.num/\(u.den:Int)=(v.den:Int)
     ·have huv:=Ow hs
      have hcc:=hcs u hu' (by omega) (by rw[hv',huv])
      have hMM:cM l (k+i+1)=cM l (k+i):=by rw[cM,cM,hcc]
      repeat' first|refine WY ?_|refine Zbb ?_|(apply S.indexO (o2:=(k+i)*2);(iterate 4 exact rfl);omega;omega)|(apply S.indexO (o2:=(k+i-1)*2);(iterate 4 exact rfl);omega;omega)|refine Zbz (Hk hgu) (Kq hgu) ?_|refine Zbz (Hk hgv) (Kq hgv) ?_|(apply p6g;(iterate 3 exact rfl))|refine Da ?_|refine V ?_|refine W2 ?_ ?_<;>intro hc
      exact Next.go (i+1) ⟨by omega,by omega,by rw[<-a1t,hcc];omega⟩ (by omega) (.cons (by rw[show(((i+1:Nat):Int))=(i:Int)+1 by omega];rfl) rfl (.cons (by rw[<-a1t,hcc];rfl) rfl CV)) (by rw[<-a1t,hMM];exact .live (Iq _ _) .nil)
     ·have huv:=P6 hs
      have hdd:k+i≠0->l[k+i-1]?≠some u:=fun _ e=>by
       rw[hv']at e
       injection e with e
       exact huv e.symm
      have hcc:=hcd u hu' hdd
      have hMM:=hdf u hu' hdd
      have hfs:=A1b (cM l (k+i)) (cN l (k+i)).length u (by omega)
      rw[hMM]at hfs
      have hcl2:(cN l (k+i+1)).length=(cN l (k+i)).length+1:=by rw[hcc,a0s];rfl
      generalize(cN l (k+i)).length=c at*
      repeat' first|refine WY ?_|refine Zbb ?_|(apply S.indexO (o2:=(k+i)*2);(iterate 4 exact rfl);omega;omega)|(apply S.indexO (o2:=(k+i-1)*2);(iterate 4 exact rfl);omega;omega)|(apply S.indexO (o2:=(c)*2);(iterate 4 exact rfl);omega;omega)|refine Zbz (Hk hgu) (Kq hgu) ?_|refine Zbz (Hk hgv) (Kq hgv) ?_|(apply p6g;(iterate 3 exact rfl))|(apply p2c;(iterate 6 exact rfl);(rw[Vl];omega))|refine Da ?_|refine V ?_|refine W2 ?_ ?_<;>intro hc
      exact Next.go (i+1) ⟨by omega,by omega,by rw[<-a1t,hcl2];omega⟩ (by omega) (.cons (by rw[show(((i+1:Nat):Int))=(i:Int)+1 by omega];rfl) rfl (.cons (by rw[<-a1t,hcl2,show(((c+1:Nat):Int))=(c:Int)+1 by omega];rfl) rfl CV)) (by rw[<-a1t];show CovH _ [HB.live (Bk (c*2) [.i u.num,.i u.den] (fa (cM l (k+i))))] _;rw[hfs];exact .live (Iq _ _) .nil)
    ·have hkl:k+i=l.length:=by omega
     have htk':=htk hkl
     have hft:=A53 (cM l (k+i)) (cN l (k+i)).length
     rw[htk']at hft
     have hcl3:(cN l (k+i)).length=(cN l l.length).length:=by rw[hkl]
     generalize(cN l (k+i)).length=c at*
     repeat' first|refine W ?_|refine Zbb ?_|(apply p2w (o2:=c*2) (l2:=l.length-c);(iterate 4 exact rfl);omega;omega;omega)|(apply p3p (l2:=c);(iterate 4 exact rfl);omega;omega)|(apply S.clearO;(iterate 4 exact rfl))|(apply T.ret;change A0g _ _ _ _ _ _ _)|refine V ?_|refine W2 ?_ ?_<;>intro hc
     exact⟨.inr rfl,0,by rw[<-hcl3];exact .cons (.tmp rfl) .nil,by show HB.live _=_;rw[hft]⟩
   ·skip
    repeat' first|refine WY ?_|refine Zbb ?_|(apply S.indexO (o2:=(k)*2);(iterate 4 exact rfl);omega;omega)|(apply S.indexO (o2:=(k-1)*2);(iterate 4 exact rfl);omega;omega)|refine Zbz (Hk hx) (Kq hx) ?_|refine Zbz (Hk hy) (Kq hy) ?_|refine Zd9 ?_|refine Da ?_|refine V ?_|refine W2 ?_ ?_<;>intro hc
    refine Next.go (k+1) ⟨by omega,by omega,fun j h1 h3=>?_⟩ (by omega) (.cons (by rw[show(((k+1:Nat):Int))=(k:Int)+1 by omega];rfl) rfl (.cons rfl rfl .nil)) (.live (Iq _ _) .nil)
    by_cases hjk:j=k
    ·subst hjk
     rw[hx,hy]
     intro e
     injection e with e
     exact P6 he e
    ·exact hu j h1 (by omega)
  ·have hkl:k=l.length:=by omega
   have hw:=whole (by rw[<-hkl];exact hu)
   repeat' first|refine W ?_|refine Zbb ?_|(apply T.ret;change A0g _ _ _ _ _ _ _)|refine V ?_|refine W2 ?_ ?_<;>intro hc
   exact⟨.inr rfl,0,by rw[hw];exact .cons (.tmp rfl) .nil,by rw[hw];rfl⟩
theorem Ahe(u:Nat):val [u%4294967296,u/4294967296]=u:=by simp only[val];omega
theorem Ahd{u:Nat}(h:u<18446744073709551616):Dig [u%4294967296,u/4294967296]:=by
 intro x hx
 simp only[a1q,a2t,or_false]at hx
 omega
theorem Gm(n:Int)(h0: -9223372036854775808<=n)(h1:n<=9223372036854775807):Fz 182 [.i n] (A0 (Gt (decide (n<0)) n.natAbs)):=by
 obtain⟨u,hu⟩:∃u:Nat,u=n.natAbs:=⟨_,rfl⟩
 have hT:=H2 [u%4294967296,u/4294967296] n.natAbs (Ahd (by omega)) (by simp) (by rw[Ahe,hu])
 have c2:IntKind.u32.wrap (u:Int)=((u%4294967296:Nat):Int):=Air u
 have c3:IntKind.u32.wrap ((u:Int)/4294967296)=((u/4294967296:Nat):Int):=by rw[Di];omega
 by_cases hn:n<0
 ·have c1:IntKind.u64.wrap n=n+18446744073709551616:=by rw[C7];omega
  have c4:IntKind.u64.wrap (-(n+18446744073709551616))=(u:Int):=by rw[C7];omega
  refine Fo Tryz.func182 ?_
  repeat' first|refine WY ?_|refine Zb6 c1 ?_|refine Zb6 c2 ?_|refine Zb6 c3 ?_|(apply p5l;exact rfl;exact c4;exact rfl)|refine Zdh ?_|refine Zb4 ?_|refine V ?_|refine W2 ?_ ?_<;>intro hc
  exact D4 rfl rfl rfl rfl rfl rfl
 ·have c1:IntKind.u64.wrap n=(u:Int):=by rw[C7];omega
  refine Fo Tryz.func182 ?_
  repeat' first|refine WY ?_|refine Zb6 c1 ?_|refine Zb6 c2 ?_|refine Zb6 c3 ?_|refine Zdh ?_|refine Zb4 ?_|refine V ?_|refine W2 ?_ ?_<;>intro hc
  exact D4 rfl rfl rfl rfl rfl rfl
theorem Ae4(s:Bool)(a:Nat)(t:Bool)(b:Nat)(ha:(wds a).length<=1000)(hb:(wds b).length<=1000):Fz 249 [A0 (Gt s a),A0 (Gt t b)] (A0 (Gt (Jh s a t b).1 (Jh s a t b).2)):=by
 have c1:=Aak a b ha hb
 have c2:=Xr (wds a) (wds b) ha hb
 by_cases hab:a<b
 ·have c3:=Z2 b a hb (by omega)
  have hc:Ol (wds a) (wds b)<0:=(A0z a b).2 hab
  cases s<;>cases t<;>
  ·simp only[Jh,hab,if_true,if_false,a5b,a7x,reduceCtorEq]
   refine Fo Tryz.func249 ?_
   repeat' first|refine WY ?_|refine Zdj ?_|refine Zdk ?_|refine Dw 8 ?_|refine Dv 8 ?_|refine V ?_|refine W2 ?_ ?_<;>intro hc
   exact D4 rfl rfl rfl rfl rfl rfl
 ·have c3:=Z2 a b ha (by omega)
  have hc:¬Ol (wds a) (wds b)<0:=fun h=>hab ((A0z a b).1 h)
  cases s<;>cases t<;>
  ·simp only[Jh,hab,if_true,if_false,a5b,a7x,reduceCtorEq]
   refine Fo Tryz.func249 ?_
   repeat' first|refine WY ?_|refine Zdj ?_|refine Zdk ?_|refine Dw 8 ?_|refine Dv 8 ?_|refine V ?_|refine W2 ?_ ?_<;>intro hc
   exact D4 rfl rfl rfl rfl rfl rfl
structure MulO where
 i:Nat
 m:List Nat
theorem A46(s t:Bool)(na nb:Nat)(a b:List Nat)(hwa:wds na=a)(hwb:wds nb=b)(da:Dig a)(db:Dig b)(hla:a.length<=1000)(hlb:b.length<=1000):
  Fz 248 [A0 [.val (.bool s),.sl (wq a)],A0 [.val (.bool t),.sl (wq b)]] (A0 [.val (.bool (s !=t)),.sl (wq (wds (val a*val b)))]):=by
 have e1:(wq a).length=a.length:=B7 _ _
 have e2:(wq b).length=b.length:=B7 _ _
 have h1:(((wq a).length:Nat):Int)+((wq b).length:Nat)=((a.length+b.length:Nat):Int):=by omega
 refine Fo Tryz.func248 ?_
 repeat' first|refine WY ?_|refine Zbb ?_|(apply p3d (n:=a.length+b.length);exact rfl;rw[<-h1];exact rfl;omega;exact rfl;exact rfl)|refine V ?_|refine W2 ?_ ?_<;>intro hc
 refine p0c (fun(o:MulO)=>o.i<=a.length/\Qh a b o.m o.i) (fun o=>a.length-o.i) (fun o=>[(22,.i o.i),(21,.i ((wq a).length:Nat)),(20,.sl (wq a)),(5,.own 3 0 (a.length+b.length) 1),(2,.ptr 0 0),(3,.ptr 1 0),(4,.ptr 2 0)])
  (fun o=>[.live [.val (.bool s),.sl (wq a)],.live [.val (.bool t),.sl (wq b)],.live [.val (.bool false),.val (.slice none 0 0)],.live (wsA .u32 o.m)]) ⟨0,List.replicate (a.length+b.length) 0⟩ ⟨a0k _,Aag a b⟩ (.cons rfl rfl CV) (.live rfl (.live rfl (.live rfl (.live (Aw _ _ _) .nil)))) ?_
 rintro⟨i,m⟩ ⟨hi,hinv⟩
 dsimp only at hi hinv⊢
 have hm:=hinv.1
 by_cases hil:i<a.length
 ·have h3:(i:Int)<((wq a).length:Nat):=by omega
  obtain⟨x,hx⟩:∃x,a[i]?=some x:=⟨a[i],a0b hil⟩
  have hbx:=Ez (k:=.u32) hx
  have hxl:=da.get hx
  repeat' first|refine WX ?_|refine W2 ?_ ?_<;>intro hc
  refine p0c (fun(q:AddS)=>q.i<=b.length/\V6 a b q.m i x q.i q.c) (fun q=>b.length-q.i) (fun q=>[(30,.i q.i),(29,.i ((wq b).length:Nat)),(28,.sl (wq b)),(8,.val (.int .u64 (q.c:Int))),(7,.val (.int .u32 (x:Int))),(6,.i i),(22,.i i),(21,.i ((wq a).length:Nat)),(20,.sl (wq a)),(5,.own 3 0 (a.length+b.length) 1),(2,.ptr 0 0),(3,.ptr 1 0),(4,.ptr 2 0)])
   (fun q=>[.live [.val (.bool s),.sl (wq a)],.live [.val (.bool t),.sl (wq b)],.live [.val (.bool false),.val (.slice none 0 0)],.live (wsA .u32 q.m)]) ⟨0,m,0⟩ ⟨a0k _,Ai4 x hinv⟩ (.cons rfl rfl (.cons rfl rfl (.cons rfl rfl (.cons rfl rfl (.cons rfl rfl CV))))) (.live rfl (.live rfl (.live rfl (.live (Aw _ _ _) .nil)))) ?_
  rintro⟨k,m1,c⟩ ⟨hk,hin⟩
  dsimp only at hk hin⊢
  have hm1:=hin.1
  have hcl:=hin.2.2.2.2
  by_cases hkl:k<b.length
  ·have h4:(k:Int)<((wq b).length:Nat):=by omega
   obtain⟨y,hy⟩:∃y,b[k]?=some y:=⟨b[k],a0b hkl⟩
   obtain⟨z,hz⟩:∃z,m1[i+k]?=some z:=⟨m1[i+k]'(by omega),a0b (by omega)⟩
   have hby:=Ez (k:=.u32) hy
   have hyl:=db.get hy
   have hzl:=hin.2.1.get hz
   obtain⟨f1,f2⟩:=Adv hxl hyl hzl hcl
   have hxy:(x:Int)*(y:Int)=((x*y:Nat):Int):=(a3y x y).symm
   obtain⟨p,hp⟩:∃p,p=x*y:=⟨_,rfl⟩
   rw[<-hp]at hxy f1 f2
   have hr:IntKind.u32.wrap ((c:Int)+((x:Int)*(y:Int)+(z:Int)))=(((c+(p+z))%4294967296:Nat):Int):=by rw[Di,hxy];omega
   have hq:((c:Int)+((x:Int)*(y:Int)+(z:Int)))/4294967296=(((c+(p+z))/4294967296:Nat):Int):=by rw[hxy];omega
   repeat' first|refine WY ?_|(apply p1l;(iterate 4 exact rfl);rw[hxy];omega)|refine Zb6 (Jm (show x<18446744073709551616 by omega)) ?_|refine Zb6 (Jm (show y<18446744073709551616 by omega)) ?_|refine Zb6 (Jm (show z<18446744073709551616 by omega)) ?_|refine Zb6 hr ?_|refine Zdh ?_|(apply p1g (i+k);(iterate 4 exact rfl);omega;omega)|(apply p4u;(iterate 4 exact rfl);exact hz)|refine Zbv ?_|refine V ?_|refine W2 ?_ ?_<;>intro hc
   exact Next.go ⟨k+1,m1.set (i+k) ((c+(p+z))%4294967296),(c+(p+z))/4294967296⟩ ⟨by dsimp only;omega,Adw hin hxl hy hyl hz (Nat.mod_lt _ (by decide)) (by rw[<-hp];dsimp only;omega) (by dsimp only;omega)⟩ (by dsimp only;omega) (.cons rfl rfl (.cons rfl rfl (.cons rfl rfl (.cons (by rw[<-hq];rfl) rfl (.cons rfl rfl CV))))) (.live rfl (.live rfl (.live rfl (.live (Aw _ _ _) .nil))))
  ·have h4:¬(k:Int)<((wq b).length:Nat):=by omega
   obtain rfl:k=b.length:=by omega
   have hr:IntKind.u32.wrap (c:Int)=(c:Int):=Ahh hcl
   repeat' first|refine WY ?_|refine Zb6 hr ?_|(apply p1g (i+b.length);(iterate 4 exact rfl);omega;omega)|refine Zbv ?_|refine V ?_|refine W2 ?_ ?_<;>intro hc
   exact Next.go ⟨i+1,m1.set (i+b.length) c⟩ ⟨by dsimp only;omega,Agh hin hx⟩ (by dsimp only;omega) (.cons rfl rfl CV) (.live rfl (.live rfl (.live rfl (.live (Aw _ _ _) .nil))))
 ·have h3:¬(i:Int)<((wq a).length:Nat):=by omega
  obtain rfl:i=a.length:=by omega
  repeat' first|refine W ?_|(refine T.freeze 5 rfl rfl (G5 .u32 m hm.symm) ?_)|refine Zdj ?_|refine Zdk ?_|refine Zbi (H2 m (val a*val b) hinv.2.1 (by omega) (Agg hinv)) ?_|refine Dw 8 ?_|refine Dv 8 ?_|refine V ?_|refine W2 ?_ ?_<;>intro hc
  exact D4 rfl rfl rfl rfl rfl rfl
theorem Kr(s:Bool)(a:Nat)(t:Bool)(b:Nat)(ha:(wds a).length<=1000)(hb:(wds b).length<=1000):Fz 248 [A0 (Gt s a),A0 (Gt t b)] (A0 (Gt (s !=t) (a*b))):=by
 have:=A46 s t a b (wds a) (wds b) rfl rfl (wds_dig a) (wds_dig b) ha hb
 rwa[wds_val,wds_val]at this
abbrev exR(x:Ex):List Lf:=Gt x.s x.n++Gt false x.d
theorem A71{x:Ex}{k:Nat}(h:x.bd k)(hk:k<=1000):(wds x.n).length<=1000:=a2d (wds_len h.1) hk
theorem X6{x:Ex}{k:Nat}(h:x.bd k)(hk:k<=1000):(wds x.d).length<=1000:=a2d (wds_len h.2.1) hk
theorem Aco{n k:Nat}(h:n<4294967296^k)(hk:k<=1000):(wds n).length<=1000:=a2d (wds_len h) hk
theorem Ja(q:Rat)(hq:Fits q):Fz 103 [A0 (frR q)] (A0 (exR (Ex.ofQ q))):=by
 obtain⟨h1,h2⟩:=hq
 have hd:=q.den_pos
 have c1:=Gm q.num (by omega) (by omega)
 have c2:Fz 182 [.i q.den] (A0 (Gt false q.den)):=by
  have:=Gm (q.den:Int) (by omega) (by omega)
  rwa[decide_eq_false (show ¬(q.den:Int)<0 by omega),a9f]at this
 refine Fo Tryz.func103 ?_
 repeat' first|refine WY ?_|refine Dw 7 ?_|refine Dv 7 ?_|refine V ?_|refine W2 ?_ ?_<;>intro hc
 exact D4 rfl rfl rfl rfl rfl rfl
theorem Qa(n:Int)(h0: -9223372036854775808<=n)(h1:n<=9223372036854775807):Fz 186 [.i n] (A0 (exR (p1d n 1000))):=by
 have c1:=Gm n h0 h1
 have c2:Fz 182 [.i 1000] (A0 (Gt false 1000)):=Gm 1000 (by omega) (by omega)
 refine Fo Tryz.func186 ?_
 repeat' first|refine WY ?_|refine Dw 7 ?_|refine Dv 7 ?_|refine V ?_|refine W2 ?_ ?_<;>intro hc
 exact D4 rfl rfl rfl rfl rfl rfl
theorem Js{x y:Ex}{j k:Nat}(hx:x.bd j)(hy:y.bd k)(hj:j<=400)(hk:k<=400):Fz 181 [A0 (exR x),A0 (exR y)] (A0 (exR (x.times y))):=by
 have c1:=Kr x.s x.n y.s y.n (A71 hx (by omega)) (A71 hy (by omega))
 have c2:=Kr false x.d false y.d (X6 hx (by omega)) (X6 hy (by omega))
 refine Fo Tryz.func181 ?_
 repeat' first|refine WY ?_|refine Dw 11 ?_|refine Dv 11 ?_|refine V ?_|refine W2 ?_ ?_<;>intro hc
 exact D4 rfl rfl rfl rfl rfl rfl
theorem Nx{x y:Ex}{j k:Nat}(hx:x.bd j)(hy:y.bd k)(hj:j<=400)(hk:k<=400):Fz 180 [A0 (exR x),A0 (exR y)] (A0 (exR (x.plus y))):=by
 have c1:=Kr x.s x.n false y.d (A71 hx (by omega)) (X6 hy (by omega))
 have c2:=Kr y.s y.n false x.d (A71 hy (by omega)) (X6 hx (by omega))
 have c3:=Kr false x.d false y.d (X6 hx (by omega)) (X6 hy (by omega))
 have c4:=Ae4 (x.s !=false) (x.n*y.d) (y.s !=false) (y.n*x.d) (Aco (Me hx.1 hy.2.1) (by omega)) (Aco (Me hy.1 hx.2.1) (by omega))
 refine Fo Tryz.func180 ?_
 repeat' first|refine WY ?_|refine Dw 17 ?_|refine Dv 17 ?_|refine V ?_|refine W2 ?_ ?_<;>intro hc
 exact D4 rfl rfl rfl rfl rfl rfl
theorem Lu{x y:Ex}{j k:Nat}(hx:x.bd j)(hy:y.bd k)(hj:j<=400)(hk:k<=400):Fz 179 [A0 (exR x),A0 (exR y)] (A0 (exR (x.less y))):=by
 have c1:=A28 y.s y.n
 have c2:=Nx (y:=⟨!y.s,y.n,y.d⟩) hx ⟨hy.1,hy.2.1,hy.2.2⟩ hj hk
 refine Fo Tryz.func179 ?_
 repeat' first|refine WY ?_|refine Dw 8 ?_|refine Dv 8 ?_|refine V ?_|refine W2 ?_ ?_<;>intro hc
 exact D4 rfl rfl rfl rfl rfl rfl
theorem Eg{x:Ex}{j:Nat}(hx:x.bd j):Fz 104 [A0 (exR x)] (.i x.val.num.sign):=by
 have c1:=Ae5 x.s x.n
 rw[show(if x.n=0 then(0:Int)else if x.s then-1 else 1)=x.val.num.sign from p4b hx.2.2]at c1
 refine Fo Tryz.func104 ?_
 repeat' first|refine WX ?_|refine W2 ?_ ?_<;>intro hc
 exact Dd rfl rfl rfl
structure Pt where
 f:Ex
 a:Ex
 b:Ex
 c:Ex
abbrev ptR(p:Pt):List Lf:=exR p.f++exR p.a++exR p.b++exR p.c
structure Pt.ok(p:Pt):Prop where
 f:p.f.bd 2
 a:p.a.bd 2
 b:p.b.bd 2
 c:p.c.bd 2
def Pt.value(p:Pt)(t:Ex):Ex:=p.a.plus ((p.b.plus (p.c.times (t.less p.f))).times (t.less p.f))
def Pt.slope(p:Pt)(t:Ex):Ex:=(p.b.plus (p.c.times (t.less p.f))).plus (p.c.times (t.less p.f))
theorem Pg(p:Pt)(t:Ex)(hp:p.ok)(ht:t.bd 2):Fz 102 [A0 (ptR p),A0 (exR t)] (A0 (exR (p.value t))):=by
 have b1:=Ex.bd_less ht hp.f
 have b2:=Ex.bd_times hp.c b1
 have b3:=Ex.bd_plus hp.b b2
 have b4:=Ex.bd_times b3 b1
 have c1:=Lu ht hp.f (by omega) (by omega)
 have c2:=Js hp.c b1 (by omega) (by omega)
 have c3:=Nx hp.b b2 (by omega) (by omega)
 have c4:=Js b3 b1 (by omega) (by omega)
 have c5:=Nx hp.a b4 (by omega) (by omega)
 refine Fo Tryz.func102 ?_
 repeat' first|refine WY ?_|refine Dw 12 ?_|refine Dv 12 ?_|refine V ?_|refine W2 ?_ ?_<;>intro hc
 exact D4 rfl rfl rfl rfl rfl rfl
theorem Ui(p:Pt)(t:Ex)(hp:p.ok)(ht:t.bd 2):Fz 185 [A0 (ptR p),A0 (exR t)] (A0 (exR (p.slope t))):=by
 have b1:=Ex.bd_less ht hp.f
 have b2:=Ex.bd_times hp.c b1
 have b3:=Ex.bd_plus hp.b b2
 have c1:=Lu ht hp.f (by omega) (by omega)
 have c2:=Js hp.c b1 (by omega) (by omega)
 have c3:=Nx hp.b b2 (by omega) (by omega)
 have c4:=Nx b3 b2 (by omega) (by omega)
 refine Fo Tryz.func185 ?_
 repeat' first|refine WY ?_|refine Dw 6 ?_|refine Dv 6 ?_|refine Da ?_|refine V ?_|refine W2 ?_ ?_<;>intro hc
 exact D4 rfl rfl rfl rfl rfl rfl
theorem Og{p:Pt}{t:Ex}(hp:p.ok)(ht:t.bd 2):(p.value t).bd 21:=by
 have b1:=Ex.bd_less ht hp.f
 have b4:=Ex.bd_times (Ex.bd_plus hp.b (Ex.bd_times hp.c b1)) b1
 exact(Ex.bd_plus hp.a b4).mono (by omega)
theorem Ty{p:Pt}{t:Ex}(hp:p.ok)(ht:t.bd 2):(p.slope t).bd 21:=by
 have b1:=Ex.bd_less ht hp.f
 have b2:=Ex.bd_times hp.c b1
 exact(Ex.bd_plus (Ex.bd_plus hp.b b2) b2).mono (by omega)
def sgQ(r:Rat):Int:=r.num.sign
abbrev four:Ex:=p1d 4 1
def Pt.disc(p:Pt):Ex:=((four.times p.a).times p.c).less (p.b.times p.b)
def Pt.belowS(p:Pt)(a b:Ex):Prop:=0<sgQ (b.less a).val/\((sgQ (p.value a).val<0\/sgQ (p.value b).val<0)\/(0<sgQ p.c.val/\sgQ (p.slope a).val<0/\0<sgQ (p.slope b).val/\sgQ p.disc.val<0))
instance (p:Pt)(a b:Ex):Decidable (p.belowS a b):=by unfold Pt.belowS;exact inferInstance
theorem K2(p:Pt)(a b:Ex)(hp:p.ok)(ha:a.bd 2)(hb:b.bd 2):Fz 106 [A0 (ptR p),A0 (exR a),A0 (exR b)] (.b (decide (p.belowS a b))):=by
 have hf:four.bd 1:=by unfold Ex.bd four p1d;decide
 have b1:=Ex.bd_less hb ha
 have b2:=Ex.bd_times hf hp.a
 have b3:=Ex.bd_times b2 hp.c
 have b4:=Ex.bd_times hp.b hp.b
 have b5:=Ex.bd_less b3 b4
 have c1:=Lu hb ha (by omega) (by omega)
 have s1:Fz 104 [A0 (exR (b.less a))] (.i (sgQ (b.less a).val)):=Eg b1
 have v1:=Pg p a hp ha
 have v2:=Pg p b hp hb
 have s2:Fz 104 [A0 (exR (p.value a))] (.i (sgQ (p.value a).val)):=Eg (Og hp ha)
 have s3:Fz 104 [A0 (exR (p.value b))] (.i (sgQ (p.value b).val)):=Eg (Og hp hb)
 have s4:Fz 104 [A0 (exR p.c)] (.i (sgQ p.c.val)):=Eg hp.c
 have l1:=Ui p a hp ha
 have l2:=Ui p b hp hb
 have s5:Fz 104 [A0 (exR (p.slope a))] (.i (sgQ (p.slope a).val)):=Eg (Ty hp ha)
 have s6:Fz 104 [A0 (exR (p.slope b))] (.i (sgQ (p.slope b).val)):=Eg (Ty hp hb)
 have n1:Fz 182 [.i 4] (A0 (Gt false 4)):=Gm 4 (by omega) (by omega)
 have n2:Fz 182 [.i 1] (A0 (Gt false 1)):=Gm 1 (by omega) (by omega)
 have t1:Fz 181 [A0 (Gt false 4++Gt false 1),A0 (exR p.a)] (A0 (exR (four.times p.a))):=Js hf hp.a (by omega) (by omega)
 have t2:=Js b2 hp.c (by omega) (by omega)
 have t3:=Js hp.b hp.b (by omega) (by omega)
 have t4:=Lu b3 b4 (by omega) (by omega)
 have s7:Fz 104 [A0 (exR p.disc)] (.i (sgQ p.disc.val)):=Eg b5
 refine Fo Tryz.func106 ?_
 repeat' first|refine WY ?_|refine Dv 15 ?_|refine Dw 15 ?_|refine V ?_|refine W2 ?_ ?_<;>intro hc
 all_goals first
  |exact Dd rfl rfl (congrArg Value.bool (by symm;apply decide_eq_false;unfold Pt.belowS;omega))
  |exact Dd rfl rfl (congrArg Value.bool (by symm;apply decide_eq_true;unfold Pt.belowS;omega))
  |exact Dd rfl rfl (congrArg Value.bool (decide_eq_decide.2 (by unfold Pt.belowS;omega)))
def Pt.ofQ(f a b c:Rat):Pt:=⟨Ex.ofQ f,Ex.ofQ a,Ex.ofQ b,Ex.ofQ c⟩
theorem bd_ofQ{q:Rat}(h:Fits q):(Ex.ofQ q).bd 2:=by
 obtain⟨h1,h2⟩:=h
 have:(4294967296:Nat)^2=18446744073709551616:=by decide
 refine⟨?_,?_,q.den_pos⟩<;>(unfold Ex.ofQ;dsimp only;omega)
theorem Aj2(f a b c:Rat)(hf:Fits f)(ha:Fits a)(hb:Fits b)(hc:Fits c):Fz 101 [A0 (frR f++frR a++frR b++frR c)] (A0 (ptR (Pt.ofQ f a b c))):=by
 have c1:=Ja f hf
 have c2:=Ja a ha
 have c3:=Ja b hb
 have c4:=Ja c hc
 refine Fo Tryz.func101 ?_
 repeat' first|refine WY ?_|refine Dw 13 ?_|refine Dv 13 ?_|refine V ?_|refine W2 ?_ ?_<;>intro hc
 exact D4 rfl rfl rfl rfl rfl rfl
theorem A4g{h:HouseR}{n:ByteArray}(h0:0<=Aa h n):∃s,h.sets[(Aa h n).toNat]?=some s/\s.name=n:=by
 obtain⟨s,hs⟩:=Iu (p:=fun s:SetR=>s.name=n) (l:=h.sets) (by show ¬Aa h n<0;omega)
 refine⟨s,hs,?_⟩
 have key:∀(l:List SetR)(s:SetR),¬idx (fun s:SetR=>s.name=n) l<0->l[(idx (fun s:SetR=>s.name=n) l).toNat]?=some s->s.name=n:=by
  intro l
  induction l with
  |nil=>intro s _ h;simp at h
  |cons x l ih=>
   intro s h0 h1
   rw[idx]at h0 h1
   by_cases hx:x.name=n
   ·rw[if_pos hx]at h1
    simp at h1
    rw[<-h1];exact hx
   ·rw[if_neg hx]at h0 h1
    split at h1
    ·rename_i hneg
     rw[if_pos hneg]at h0
     omega
    ·rename_i hneg
     have e:(idx (fun s:SetR=>s.name=n) l+1).toNat=(idx (fun s:SetR=>s.name=n) l).toNat+1:=by omega
     rw[e,a2l]at h1
     exact ih s (by have:=D8 (fun s:SetR=>s.name=n) l;omega) h1
 exact key h.sets s (by show ¬Aa h n<0;omega) hs
theorem cmpQ_pos{p q:Rat}:0<Ay p q↔q<p:=by
 unfold Ay
 by_cases h1:p<q
 ·rw[if_pos h1]
  exact⟨fun h=>by omega,fun h=>absurd (a1e h1) (a2w.2 h)⟩
 ·rw[if_neg h1]
  by_cases h2:q<p
  ·rw[if_pos h2];exact⟨fun _=>h2,fun _=>by omega⟩
  ·rw[if_neg h2];exact⟨fun h=>by omega,fun h=>absurd h h2⟩
theorem Afb(h:HouseR)(l:List Int)(a:Rat)(m:MoveR):a<=Es h l a m/\Hr h l m<=Es h l a m:=by
 unfold Es
 by_cases c:0<Ay (Hr h l m) a
 ·rw[if_pos c]
  exact⟨a1e (cmpQ_pos.1 c),a2i⟩
 ·rw[if_neg c]
  exact⟨a2i,a1j.1 fun hh=>c (cmpQ_pos.2 hh)⟩
theorem A5f(h:HouseR)(l:List Int):∀(ms:List MoveR)(a:Rat),a<=ms.foldl (Es h l) a/\∀m∈ms,Hr h l m<=ms.foldl (Es h l) a
 |[],a=>⟨a2i,fun m hm=>by simp at hm⟩
 |m::ms,a=>by
  obtain⟨s1,s2⟩:=Afb h l a m
  obtain⟨i1,i2⟩:=A5f h l ms (Es h l a m)
  rw[a2y]
  refine⟨a1c s1 i1,fun x hx=>?_⟩
  rcases a1q.1 hx with rfl|hx
  ·exact a1c s2 i1
  ·exact i2 x hx
end Go.Proofs.YtcaicpnepfjcmaaGreat
