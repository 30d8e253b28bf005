/- Lemmas of the proof. -/
import Derived.Shelf.Small.Bits
import Derived.Shelf.Strconv.Itoa0
import Derived.Shelf.Bits.Mul64
import Derived.Lib.Hide
import Derived.Test.YtcaicpnepfjcmaaGreatMm
import Derived.Laws.Externs
import Derived.Shelf.Spec.BitsCarry
set_option linter.all false
set_option maxHeartbeats 64000000
namespace Go.Proofs.YtcaicpnepfjcmaaGreat
def a1l:= @List.take_length
def a1z:= @Int.eq_ofNat_of_zero_le
def a2o:= @List.foldl_append
def a3x:= @Int.mul_assoc
def a4u:= @Int.add_mul
def a5r:= @Int.mul_comm
def a7h:= @List.foldl_nil
def a7k:= @Int.gcd_comm
def a7z:= @Rat.num_divInt_den
def a8g:= @Nat.gcd_dvd_right
def a8z:= @Int.natAbs_mul
def a9f:= @Int.natAbs_natCast
def b0j:= @Nat.gcd_dvd_left
def b1n:= @Nat.gcd_pos_of_pos_left
def b1u:= @Int.neg_tdiv
def b1z:= @Nat.pos_of_dvd_of_pos
def b3i:= @Tryz.func84
def b3p:= @Nat.div_mul_cancel
end Go.Proofs.YtcaicpnepfjcmaaGreat
namespace Go.Proofs
open Go.Shelf
def Tryz.lays134_ren:Go.Shelf.Ren:=⟨fun|134=>290|129=>301|n=>n,fun|53=>142|3=>3|4=>4|46=>261|5=>5|9=>9|n=>n,fun|n=>n⟩
theorem Tryz.lays134:Go.Proofs.Lays.n134 Tryz.prog Tryz.lays134_ren:={
 mixed:=by kernel_rfl
 f129:=Tryz.func301.trans (congrArg some (by kernel_rfl))
 f134:=Tryz.func290.trans (congrArg some (by kernel_rfl))
 t3:=Tryz.underlying3
 a3:=Tryz.isAgg3
 z3:=Tryz.sizeOf3
 v3:=Tryz.zeroValue3
 t4:=Tryz.underlying4
 a4:=Tryz.isAgg4
 z4:=Tryz.sizeOf4
 v4:=Tryz.zeroValue4
 t5:=Tryz.underlying5
 a5:=Tryz.isAgg5
 z5:=Tryz.sizeOf5
 v5:=Tryz.zeroValue5
 t9:=Tryz.underlying9
 a9:=Tryz.isAgg9
 z9:=Tryz.sizeOf9
 v9:=Tryz.zeroValue9
 t46:=Tryz.underlying261
 a46:=Tryz.isAgg261
 z46:=Tryz.sizeOf261
 v46:=Tryz.zeroValue261
 t53:=Tryz.underlying142
 a53:=Tryz.isAgg142
 z53:=Tryz.sizeOf142
 v53:=Tryz.zeroValue142}
theorem Tryz.bits_LeadingZeros64(x:Int)(w:World)(h0:0<=x)(h1:x<=18446744073709551615):
  Calls Tryz.prog 290 #[.int .u64 x] w fun e w'=>e=.returned (.int .i64 (64-(Lib.bitLen x.toNat:Int)))/\w'=w:=Any.bits_LeadingZeros64 Tryz.lays134 x w h0 h1
def Tryz.lays264_ren:Go.Shelf.Ren:=⟨fun|264=>153|n=>n,fun|53=>142|46=>261|n=>n,fun|n=>n⟩
theorem Tryz.lays264:Go.Proofs.Lays.n264 Tryz.prog Tryz.lays264_ren:={
 mixed:=by kernel_rfl
 f264:=Tryz.func153.trans (congrArg some (by kernel_rfl))
 t46:=Tryz.underlying261
 a46:=Tryz.isAgg261
 z46:=Tryz.sizeOf261
 v46:=Tryz.zeroValue261
 t53:=Tryz.underlying142
 a53:=Tryz.isAgg142
 z53:=Tryz.sizeOf142
 v53:=Tryz.zeroValue142}
open Go.RowKit Go.Lib in
theorem Tryz.bits_Mul64(x y:Nat)(hx:x<18446744073709551616)(hy:y<18446744073709551616)(w:World):
  Calls Tryz.prog 153 #[.int .u64 x,.int .u64 y] w fun e w'=>e=.returned (.tuple #[.int .u64 ((x*y/18446744073709551616:Nat):Int),.int .u64 ((x*y%18446744073709551616:Nat):Int)])/\w'=w:=Any.bits_Mul64 Tryz.lays264 x y hx hy w
end Go.Proofs
namespace Go.Proofs.YtcaicpnepfjcmaaGreat
def Dq(n d:Int):Bool:=decide (1<=d)&&decide (d<=1152921504606846976)&&decide (-1152921504606846976<=n)&&decide (n<=1152921504606846976)&&(Int.gcd n d==1)
theorem validB_spec{n d:Int}:Dq n d=true↔1<=d/\d<=1152921504606846976/\ -1152921504606846976<=n/\n<=1152921504606846976/\Int.gcd n d=1:=by
 unfold Dq
 simp only[a0w,decide_eq_true_eq,beq_iff_eq,and_assoc]
theorem X1{n d:Int}(h:¬(1<=d/\d<=1152921504606846976/\ -1152921504606846976<=n/\n<=1152921504606846976/\Int.gcd n d=1)):Dq n d=false:=by
 rw[Bool.eq_false_iff];intro hh;exact h (validB_spec.1 hh)
def A4(n d:Int):Rat:=Rat.divInt n d
theorem Ll{n d:Int}(h:Dq n d=true):(A4 n d).num=n/\((A4 n d).den:Int)=d:=by
 obtain⟨h1,_,_,_,h5⟩:=validB_spec.1 h
 obtain⟨k,rfl⟩:=a1z (show 0<=d by omega)
 have hk:k≠0:=by omega
 have hc:n.natAbs.Coprime k:=by simpa[Int.gcd]using h5
 have:A4 n k=⟨n,k,hk,hc⟩:=by
  unfold A4;rw[Rat.mk_eq_divInt]
 rw[this]
 exact⟨rfl,rfl⟩
theorem F9(q:Rat):A4 q.num q.den=q:=a7z q
theorem A0f(q:Rat)(h1:q.num.natAbs<=1152921504606846976)(h2:q.den<=1152921504606846976):Dq q.num q.den=true:=by
 rw[validB_spec]
 have:=q.den_pos
 refine⟨by omega,by omega,by omega,by omega,?_⟩
 simpa[Int.gcd]using q.reduced

theorem A8s(a b:Rat)(g c:Nat)(s:Int)(hg:g=a.den.gcd b.den)(hs:s=a.num*(b.den/g:Nat)+b.num*(a.den/g:Nat))(hc:c=s.natAbs.gcd g):
  (a+b).num=s/c/\(a+b).den=(a.den/g)*(b.den/c):=by
 have gp:0<g:=hg▸b1n _ a.den_pos
 have ga:g∣a.den:=hg▸b0j ..
 have gb:g∣b.den:=hg▸a8g ..
 have ea:a.den/g*g=a.den:=b3p ga
 have eb:b.den/g*g=b.den:=b3p gb
 have aux:=Rat.add.aux a b hg rfl rfl
 simp only at aux
 rw[<-hs]at aux
 have hnum:a.num*b.den+b.num*a.den=s*g:=by
  rw[hs,a4u,a3x,a3x,<-a3y,<-a3y,ea,eb]
 have hden:a.den*b.den=a.den/g*b.den*g:=by
  conv=>lhs;rw[<-ea]
  rw[Nat.mul_right_comm]
 have hgcd:(a.num*b.den+b.num*a.den).natAbs.gcd (a.den*b.den)=c*g:=by
  rw[hnum,hden,a8z,a9f,Nat.gcd_mul_right,<-aux,<-hc]
 have cg:c∣g:=hc▸a8g ..
 have cp:0<c:=b1z cg gp
 have cb:c∣b.den:=Nat.dvd_trans cg gb
 constructor
 ·rw[Rat.num_add,hgcd,hnum,a3y,Int.mul_ediv_mul_of_pos_left _ _ (by omega)]
 ·rw[Rat.den_add,hgcd,hden,Nat.mul_div_mul_right _ _ gp,Nat.mul_div_assoc _ cb]
theorem Wy(x:Int)(g:Nat):x.tdiv (g:Int)=if x<0 then-((x.natAbs/g:Nat):Int)else((x.natAbs/g:Nat):Int):=by
 by_cases h:x<0
 ·rw[if_pos h]
  have:x= -(x.natAbs:Int):=by omega
  conv=>lhs;rw[this]
  rw[b1u];rfl
 ·rw[if_neg h]
  have:x=(x.natAbs:Int):=by omega
  conv=>lhs;rw[this]
  rfl
theorem Aaf(a b:Rat)(g h:Nat)(hg:g=a.num.natAbs.gcd b.den)(hh:h=b.num.natAbs.gcd a.den):
  (a*b).num=a.num.tdiv g*b.num.tdiv h/\(a*b).den=(a.den/h)*(b.den/g):=by
 subst hg hh
 show(Rat.mul a b).num=_/\(Rat.mul a b).den=_
 unfold Rat.mul
 simp only[Int.divExact_eq_tdiv]
 exact⟨trivial,rfl⟩
theorem A8o{n d:Int}(h:Dq n d=true)(hn:n≠0):Dq (if n<0 then-d else d) (n.natAbs:Int)=true/\A4 (if n<0 then-d else d) (n.natAbs:Int)=(A4 n d)⁻¹:=by
 obtain⟨h1,h2,h3,h4,h5⟩:=validB_spec.1 h
 constructor
 ·rw[validB_spec]
  have e:Int.gcd (if n<0 then-d else d) (n.natAbs:Int)=1:=by
   rw[<-h5,a7k n d]
   by_cases hn:n<0
   ·rw[if_pos hn,Int.neg_gcd];simp[Int.gcd]
   ·rw[if_neg hn];simp[Int.gcd]
  refine⟨by omega,by omega,?_,?_,e⟩<;>split<;>omega
 ·unfold A4
  rw[Rat.inv_divInt]
  by_cases hn:n<0
  ·rw[if_pos hn,show((n.natAbs:Nat):Int)= -n by omega,Rat.neg_divInt_neg]
  ·rw[if_neg hn,show((n.natAbs:Nat):Int)=n by omega]
def Ay(p q:Rat):Int:=if p<q then-1 else if q<p then 1 else 0
theorem A5j{an ad bn bd:Int}(va:Dq an ad=true)(vb:Dq bn bd=true):A4 an ad<A4 bn bd↔an*bd<bn*ad:=by
 obtain⟨e1,e2⟩:=Ll va
 obtain⟨f1,f2⟩:=Ll vb
 rw[Rat.lt_iff,e1,e2,f1,f2]
end Go.Proofs.YtcaicpnepfjcmaaGreat
namespace Go.Proofs.YtcaicpnepfjcmaaGreat
open Go Go.RowKit
theorem p2u{P:Program}{f:FuncId}{args:List AV}{us:List Value}{v:Value}{r:AV}(ent:Enters P f)(ha:args.map AV.flat=us.map some)(hr:∀(w:World)(L:Nat->Prop),RelV w L Ba r v)(h:∀w,Calls P f us.toArray w fun e w'=>e=.returned v/\Below w.heap.size w w'):Fn0 P f args r:=by
 refine⟨ent,fun L w vs _ hL hl hv=>?_⟩
 have hlen:args.length=us.length:=by have:=congrArg List.length ha;simpa using this
 obtain rfl:vs=us:=by
  apply a9r
  intro i
  rcases a0y i args.length with hi|hi
  ·have h1:args[i]?=some args[i]:=a0b hi
   have h2:vs[i]?=some (vs[i]'(by omega)):=a0b _
   have h3:us[i]?=some (us[i]'(by omega)):=a0b _
   have h4:(args.map AV.flat)[i]?=(us.map some)[i]?:=by rw[ha]
   rw[a0d,a0d,h1,h3]at h4
   simp only[a1g,a0h]at h4
   rw[h2,h3,(hv i _ _ h1 h2).flat h4]
  ·rw[a0v (by omega),a0v (by omega)]
 refine(h w).mono ?_
 rintro e w' ⟨rfl,hb⟩
 exact⟨v,rfl,hr w' L,hb⟩
theorem Abp{w:World}{L:Nat->Prop}{ρ:Pl}:∀(l:List Value)(i:Nat)(x:AV)(v:Value),(l.map AV.val)[i]?=some x->l[i]?=some v->RelV w L ρ x v:=fun l i x v hx hv=>by
 rw[a0d,hv]at hx
 simp only[a1g,a0h]at hx
 subst hx
 exact Ab v
def Fits(q:Rat):Prop:=q.num.natAbs<=1152921504606846976/\q.den<=1152921504606846976
abbrev frR(q:Rat):List Lf:=[.i q.num,.i q.den]
abbrev frE(q:Rat)(e:Int):AV:=.tup [A0 (frR q),.i e]
instance (q:Rat):Decidable (Fits q):=by unfold Fits;exact inferInstance
theorem Fits.valid{q:Rat}(h:Fits q):Dq q.num q.den=true:=A0f q h.1 h.2
theorem A9x(x y:Int):Int.gcd y (x%y)=Int.gcd x y:=by
 rw[a7k,Int.emod_def,a5r];exact Int.gcd_sub_mul_right_left y x (x/y)
theorem D3{P:Program}{fn:Func}{t0 t1 b n:Nat}{ty:TypeId}{ds:TypeDesc}{cs:List Lf}{x:Lf}{cells:List AV}{tm:Tm}{H:AH}[HasU P ty ds][HasS P ty n](hr:fn.results.toList=[.cell t0 ty,.tmp t1])(h0:tm.get t0=some (.ptr b 0))(hb:H.at b=.live cells)(hd:ds.isRow=true)(hc:cells=cs.map .lf)(hn:Nat.beq cs.length n=true)(h1:tm.get t1=some (.lf x)):Ao P fn (.tup [A0 cs,.lf x]) .ret ⟨tm,H⟩:=
 ⟨.inr rfl,[A0 cs,.lf x],by rw[hr];exact .cons (Res.row cs h0 hb hd hc hn) (.cons (.tmp h1) .nil),.tup (.cons (.agg (C5 cs)) (.cons (.one (.lf _)) .nil))⟩
theorem D4{P:Program}{fn:Func}{t0 b n:Nat}{ty:TypeId}{ds:TypeDesc}{cs:List Lf}{cells:List AV}{tm:Tm}{H:AH}[HasU P ty ds][HasS P ty n](hr:fn.results.toList=[.cell t0 ty])(h0:tm.get t0=some (.ptr b 0))(hb:H.at b=.live cells)(hd:ds.isRow=true)(hc:cells=cs.map .lf)(hn:Nat.beq cs.length n=true):Ao P fn (A0 cs) .ret ⟨tm,H⟩:=
 ⟨.inr rfl,[A0 cs],by rw[hr];exact .cons (Res.row cs h0 hb hd hc hn) .nil,.one (.agg (C5 cs))⟩
abbrev uA(n:Int):AV:=.val (.int .u64 n)
abbrev wR(n:Int):List Lf:=[.val (.int .u64 (n/18446744073709551616)),.val (.int .u64 (n%18446744073709551616))]
section
variable {P:Program}{N:Nat}{ops:Array Oper}{m:Option Nat}{K:Tm->AH->Prop}{tm tm':Tm}{H:AH}{rest:List Oper}
variable {P:Program}{N:Nat}{ops:Array Oper}{m:Option Nat}{K:Tm->AH->Prop}{tm tm':Tm}{H:AH}{rest:List Oper}{ty:TypeId}{pos:String}{af:Array Edge}{d:Nat}{t e u:TypeId}{x y:Operand}
structure Ext(P:Program)(f:FuncId)(vs:List Value)(v:Value):Prop where
 run:∀w,(callFunc f vs.toArray).run P w=.ok (.value v) w
theorem S.ext{f:FuncId}{xs:Array Operand}{ts:Array TypeId}{v1 v2 v3 v:Value}{r:AV}(hx:evs (evT tm) xs.toList=some [.val v1,.val v2,.val v3])(hc:Ext P f [v1,v2,v3] v)(hr:∀(w:World)(L:Nat->Prop)(ρ:Pl),RelV w L ρ r v)(hN:LN d N)(h:Reg m P N ops rest ((d,r)::tm) H K):Reg m P N ops (⟨some d,.call ⟨.value (.func f),xs,ts⟩,ty,pos,af,none⟩::rest) tm H K:=by
 refine S.val (fun E st a w ρ K Q hs he hH hn hK=>?_) hN h
 obtain⟨g1,g2⟩:=Ff _ _ hx
 have hl:xs.toList.map a.eval=[v1,v2,v3]:=by
  apply a9r
  intro i
  rw[a0d]
  have one:∀(i:Nat)(u:Value),[AV.val v1,AV.val v2,AV.val v3][i]?=some (AV.val u)->(xs.toList[i]?).map a.eval=some u:=fun i u hi=>by
   obtain⟨x,h1,h2⟩:=g2 i _ hi
   have hm:x∈xs:=a4p.1 (a0a h1)
   rw[h1]
   show some (a.eval x)=_
   rw[(hs.ev (he x (a5t.2 (.inr hm)) _ h2)).val_eq]
  match i with
  |0=>exact one 0 _ rfl
  |1=>exact one 1 _ rfl
  |2=>exact one 2 _ rfl
  |i+3=>rw[a0v (by rw[g1];simp)];rfl
 have:(execOp a.eval ⟨some d,.call ⟨.value (.func f),xs,ts⟩,ty,pos,af,none⟩).run P w=(callFunc f (#[]++xs.map a.eval++ #[])).run P w:=by simp[execOp,resolve,Act.eval,Deferred.ofValue,invoke]
 unfold Oper.wp
 rw[this,show(#[]++xs.map a.eval++ #[])=[v1,v2,v3].toArray by rw[<-hl];apply a6m;simp,hc.run w]
 exact hK w ρ v hs (hr w _ _)
end
theorem Fu(n:Int)(h1: -9223372036854775808<=n)(h2:n<=9223372036854775807):Fz 73 [.i n] (uA n.natAbs):=by
 refine Fo Tryz.func73 ?_
 repeat' first|refine WY ?_|(apply p0j;exact rfl;exact C7 _;exact rfl)|(apply p5l;exact rfl;exact C7 _;exact rfl)|refine V ?_|refine W2 ?_ ?_<;>intro hc
 all_goals exact Dd rfl rfl (by exact congrArg (Value.int .u64) (by omega))
theorem Aik(a b:Nat)(ha:a<18446744073709551616)(hb:b<18446744073709551616):Fz 83 [uA a,uA b] (uA (Nat.gcd a b:Nat)):=by
 refine Fo Tryz.func83 ?_
 repeat' first|refine WX ?_|refine W2 ?_ ?_<;>intro hc
 refine p0c (fun p:Nat×Nat=>Nat.gcd p.1 p.2=Nat.gcd a b/\p.1<18446744073709551616/\p.2<18446744073709551616) (fun p=>p.2) (fun p=>[(0,uA p.1),(1,uA p.2)]) (fun _=>[]) (a,b) ⟨rfl,ha,hb⟩ CV .nil ?_
 rintro⟨x,y⟩ ⟨h1,h2,h3⟩
 dsimp only at h1 h2 h3⊢
 by_cases hy:(y:Int)=0
 ·have hn:¬¬(y:Int)=0:=fun k=>k hy
  repeat' first|refine WX ?_|refine W2 ?_ ?_<;>intro hc
  all_goals exact Dd rfl rfl (by exact congrArg (Value.int .u64) (by rw[<-h1,show y=0 by omega,Nat.gcd_zero_right]))
 ·repeat' first|refine WY ?_|refine Zdx ?_|refine Dv 6 ?_|refine Dv 5 ?_|refine V ?_|refine W2 ?_ ?_<;>intro hc
  have hm:x%y<y:=a5n _ (by omega)
  exact Next.go (y,x%y) ⟨by rw[<-h1];show Nat.gcd y (x%y)=_;rw[Nat.gcd_comm,<-Nat.gcd_rec,Nat.gcd_comm],by dsimp only;omega,by dsimp only;omega⟩ (by dsimp only;omega) (by show Cov _ _ [(0,uA ((y:Nat):Int)),(1,uA ((x%y:Nat):Int))];rw[Int.natCast_emod];exact CV) .nil
def sgO(neg:Bool)(n d:Int):AV:=if n<=1152921504606846976/\d<=1152921504606846976 then .tup [A0 [.i (if neg then-n else n),.i d],.i 0]else .tup [A0 [.i 0,.i 0],.i 5]
theorem Nb(neg:Bool)(n d:Int)(hn:0<=n/\n<18446744073709551616)(hd:0<=d/\d<18446744073709551616):Fz 84 [.b neg,uA n,uA d] (sgO neg n d):=by
 unfold sgO
 by_cases h:n<=1152921504606846976/\d<=1152921504606846976
 ·rw[if_pos h]
  obtain⟨h1,h2⟩:=h
  have g1:¬n>1152921504606846976:=by omega
  have g2:¬d>1152921504606846976:=by omega
  cases neg with
  |true=>
   refine Fo b3i ?_
   repeat' first|refine WY ?_|refine Zdv ?_|refine Zd2 ?_|refine V ?_|refine W2 ?_ ?_<;>intro hc
   all_goals exact D3 rfl rfl rfl rfl rfl rfl rfl
  |false=>
   refine Fo b3i ?_
   repeat' first|refine WY ?_|refine Zdv ?_|refine Zd2 ?_|refine V ?_|refine W2 ?_ ?_<;>intro hc
   all_goals exact D3 rfl rfl rfl rfl rfl rfl rfl
 ·rw[if_neg h]
  refine Fo b3i ?_
  repeat' first|refine WY ?_|refine Zdv ?_|refine Zd2 ?_|refine V ?_|refine W2 ?_ ?_<;>intro hc
  all_goals first
   |(exfalso;apply h;constructor<;>omega)
   |(exact D3 rfl rfl rfl rfl rfl rfl rfl)
theorem O3(w:World)(L:Nat->Prop)(ρ:Pl)(a c:Int):RelV w L ρ (.tup [.val (.int .u64 a),.val (.int .u64 c)]) (.tuple #[.int .u64 a,.int .u64 c]):=
 .tup _ [.int .u64 a,.int .u64 c] rfl (Abp [.int .u64 a,.int .u64 c])
theorem A0v(a b:Nat)(ha:a<18446744073709551616)(hb:b<18446744073709551616):Fz 153 [.val (.int .u64 a),.val (.int .u64 b)] (.tup [.val (.int .u64 ((a*b/18446744073709551616:Nat):Int)),.val (.int .u64 ((a*b%18446744073709551616:Nat):Int))]):=by
 refine p2u (us:=[.int .u64 a,.int .u64 b]) ⟨_,Tryz.func153,rfl,rfl⟩ rfl (fun w L=>O3 w L Ba _ _) fun w=>?_
 refine(Tryz.bits_Mul64 a b ha hb w).mono ?_
 rintro e w' ⟨rfl,rfl⟩
 exact⟨rfl,Below.refl _ _⟩
theorem A85(a b:Nat)(ha:a<18446744073709551616)(hb:b<18446744073709551616):Fz 72 [uA a,uA b] (A0 (wR ((a*b:Nat):Int))):=by
 have c:=A0v a b ha hb
 rw[show wR ((a*b:Nat):Int)=[.val (.int .u64 ((a*b/18446744073709551616:Nat):Int)),.val (.int .u64 ((a*b%18446744073709551616:Nat):Int))] by rw[Int.natCast_ediv,Int.natCast_emod];rfl]
 generalize((a*b/18446744073709551616:Nat):Int)=u at*
 generalize((a*b%18446744073709551616:Nat):Int)=v at*
 refine Fo Tryz.func72 ?_
 repeat' first|refine WX ?_|refine W2 ?_ ?_<;>intro hc
 all_goals exact D4 rfl rfl rfl rfl rfl rfl
theorem A1v(p q:Int)(hp:0<=p)(hq:0<=q):(p/18446744073709551616<q/18446744073709551616\/p/18446744073709551616=q/18446744073709551616/\p%18446744073709551616<q%18446744073709551616)↔p<q:=by omega
theorem Af2(a b c d:Int):Fz 74 [A0 [.val (.int .u64 a),.val (.int .u64 c)],A0 [.val (.int .u64 b),.val (.int .u64 d)]] (.b (decide (a<b\/a=b/\c<d))):=by
 refine Fo Tryz.func74 ?_
 repeat' first|refine WX ?_|refine W2 ?_ ?_<;>intro hc
 all_goals exact Dd rfl rfl (congrArg Value.bool (by first|exact decide_eq_decide.2 (by omega)|(symm;first|exact decide_eq_true (by omega)|exact decide_eq_false (by omega))|(first|exact decide_eq_true (by omega)|exact decide_eq_false (by omega))))
theorem Su(p q:Int)(hp:0<=p)(hq:0<=q):Fz 74 [A0 (wR p),A0 (wR q)] (.b (decide (p<q))):=by
 rw[<-decide_eq_decide.2 (A1v p q hp hq)]
 exact Af2 _ _ _ _
theorem A50(x y c:Int)(hx:0<=x)(hy:0<=y)(hc0:0<=c)(hc:c<=1):Ext Tryz.prog 281 [.int .u64 x,.int .u64 y,.int .u64 c] (.tuple #[.int .u64 ((x+y+c)%18446744073709551616),.int .u64 ((x+y+c)/18446744073709551616)]):=by
 refine⟨fun w=>?_⟩
 obtain⟨x,rfl⟩:=a1z hx
 obtain⟨y,rfl⟩:=a1z hy
 obtain⟨c,rfl⟩:=a1z hc0
 show(callFunc _ #[_,_,_]).run _ _=_
 rw[run_callFunc_extern Tryz.func281 (by kernel_rfl) (by kernel_rfl) (by kernel_rfl) (e:=add64Entry) (by kernel_rfl),run_add64 x y c (by omega) (by omega) (by omega) (by omega)]
 simp only[Result.andThen]
 try(congr 5<;>omega)
theorem A51(x y b:Int)(hx:0<=x)(hy:0<=y)(hy':y<18446744073709551616)(hb0:0<=b)(hb:b<=1):Ext Tryz.prog 282 [.int .u64 x,.int .u64 y,.int .u64 b] (.tuple #[.int .u64 ((x-y-b)%18446744073709551616),.int .u64 (if x<y+b then 1 else 0)]):=by
 refine⟨fun w=>?_⟩
 obtain⟨x,rfl⟩:=a1z hx
 obtain⟨y,rfl⟩:=a1z hy
 obtain⟨b,rfl⟩:=a1z hb0
 have e1:(((x+18446744073709551616-y-b)%18446744073709551616:Nat):Int)=((x:Int)-y-b)%18446744073709551616:=by omega
 have e2:((if x<y+b then 1 else 0:Nat):Int)=if(x:Int)<y+b then 1 else 0:=by split<;>split<;>omega
 rw[<-e1,<-e2]
 show(callFunc _ #[_,_,_]).run _ _=_
 rw[run_callFunc_extern Tryz.func282 (by kernel_rfl) (by kernel_rfl) (by kernel_rfl) (e:=sub64Entry) (by kernel_rfl),run_sub64 x y b (by omega)]
 rfl
theorem A6c(p q:Int)(hp:0<=p)(hq:0<=q)(h:p+q<340282366920938463463374607431768211456):Fz 243 [A0 (wR p),A0 (wR q)] (A0 (wR (p+q))):=by
 unfold wR
 have c1:=A50 (p%18446744073709551616) (q%18446744073709551616) 0 (by omega) (by omega) (by omega) (by omega)
 have c2:=A50 (p/18446744073709551616) (q/18446744073709551616) ((p%18446744073709551616+q%18446744073709551616+0)/18446744073709551616) (by omega) (by omega) (by omega) (by omega)
 have e1:(p%18446744073709551616+q%18446744073709551616+0)%18446744073709551616=(p+q)%18446744073709551616:=by omega
 have e2:(p/18446744073709551616+q/18446744073709551616+(p%18446744073709551616+q%18446744073709551616+0)/18446744073709551616)%18446744073709551616=(p+q)/18446744073709551616:=by omega
 rw[e1]at c1
 rw[e2]at c2
 generalize p/18446744073709551616=p1 at*
 generalize q/18446744073709551616=q1 at*
 generalize(p%18446744073709551616+q%18446744073709551616+0)/18446744073709551616=cc at*
 generalize p%18446744073709551616=p0 at*
 generalize q%18446744073709551616=q0 at*
 generalize(p+q)/18446744073709551616=r1 at*
 generalize(p+q)%18446744073709551616=r0 at*
 refine Fo Tryz.func243 ?_
 repeat' first|refine WY ?_|(apply S.ext;exact rfl;exact c1;exact fun w L ρ=>O3 w L ρ _ _;exact rfl)|(apply S.ext;exact rfl;exact c2;exact fun w L ρ=>O3 w L ρ _ _;exact rfl)|refine V ?_|refine W2 ?_ ?_<;>intro hc
 all_goals exact D4 rfl rfl rfl rfl rfl rfl
theorem Uu(p q:Int)(hq:0<=q)(hpq:q<=p)(h:p<340282366920938463463374607431768211456):Fz 244 [A0 (wR p),A0 (wR q)] (A0 (wR (p-q))):=by
 unfold wR
 have c1:=A51 (p%18446744073709551616) (q%18446744073709551616) 0 (by omega) (by omega) (by omega) (by omega) (by omega)
 have c2:=A51 (p/18446744073709551616) (q/18446744073709551616) (if p%18446744073709551616<q%18446744073709551616+0 then 1 else 0) (by omega) (by omega) (by omega) (by split<;>omega) (by split<;>omega)
 have e1:(p%18446744073709551616-q%18446744073709551616-0)%18446744073709551616=(p-q)%18446744073709551616:=by omega
 have e2:(p/18446744073709551616-q/18446744073709551616-(if p%18446744073709551616<q%18446744073709551616+0 then 1 else 0))%18446744073709551616=(p-q)/18446744073709551616:=by split<;>omega
 rw[e1]at c1
 rw[e2]at c2
 generalize(if p/18446744073709551616<q/18446744073709551616+(if p%18446744073709551616<q%18446744073709551616+0 then 1 else 0)then(1:Int)else 0)=dd at*
 generalize(if p%18446744073709551616<q%18446744073709551616+0 then(1:Int)else 0)=cc at*
 generalize p/18446744073709551616=p1 at*
 generalize q/18446744073709551616=q1 at*
 generalize p%18446744073709551616=p0 at*
 generalize q%18446744073709551616=q0 at*
 generalize(p-q)/18446744073709551616=r1 at*
 generalize(p-q)%18446744073709551616=r0 at*
 refine Fo Tryz.func244 ?_
 repeat' first|refine WY ?_|(apply S.ext;exact rfl;exact c1;exact fun w L ρ=>O3 w L ρ _ _;exact rfl)|(apply S.ext;exact rfl;exact c2;exact fun w L ρ=>O3 w L ρ _ _;exact rfl)|refine V ?_|refine W2 ?_ ?_<;>intro hc
 all_goals exact D4 rfl rfl rfl rfl rfl rfl
theorem p5d{P:Program}{st:St}{t:Nat}{x y:AV}(h:st.tm.get t=some x)(e:x=y):Res P st (.tmp t) y:=by subst e;exact .tmp h
structure ReachR where
 left:Int
 right:Int
 hang:Int
 front:Int
 back:Int
def ReachR.row(r:ReachR):List Lf:=[.i r.left,.i r.right,.i r.hang,.i r.front,.i r.back]
def Dg(r:ReachR)(x:ItemR):ReachR:=⟨min r.left x.at_,max r.right (x.at_+x.width),max r.hang x.hang,max r.front x.front,max r.back x.back⟩
def Bw(s:SetR):ReachR:=if s.items.length=0 then⟨0,s.length,0,0,0⟩else s.items.foldl Dg ⟨s.length,0,0,0,0⟩
def Cu(a b:SetR):Prop:=(Bw a).left<(Bw b).right/\(Bw b).left<(Bw a).right/\a.depth-(Bw a).back<b.depth+(Bw b).front/\b.depth-(Bw b).back<a.depth+(Bw a).front
instance (a b:SetR):Decidable (Cu a b):=by unfold Cu;exact inferInstance
def Bh(s:SetR):Int:=s.items.foldl (fun n x=>max n x.hang) 0
structure ReachR.ok(r:ReachR):Prop where
 left:0<=r.left/\r.left<=2097152
 right:0<=r.right/\r.right<=2097152
 hang:0<=r.hang/\r.hang<=1048576
 front:0<=r.front/\r.front<=1048576
 back:0<=r.back/\r.back<=1048576
theorem Xk{s:SetR}(hs:Cb s){x:ItemR}(hx:x∈s.items):(0<=x.at_/\x.at_<=1048576)/\(1<=x.width/\x.width<=1048576)/\(0<=x.hang/\x.hang<=1048576)/\(0<=x.front/\x.front<=1048576)/\(0<=x.back/\x.back<=1048576)/\x.at_+x.width<=1048576:=by
 obtain⟨_,_,_,_,_,hl,_,_,_,_,_,_,_,hi,_⟩:=hs
 obtain⟨h1,h2⟩:=hi.2.2.1 x hx
 obtain⟨_,_,a1,a2,a3⟩:=h1
 obtain⟨b1,b2,b3⟩:=h2
 exact⟨⟨b1,by omega⟩,b2,a1,a2,a3,by omega⟩
theorem Abn{r:ReachR}{x:ItemR}(h:r.ok)(hx:(0<=x.at_/\x.at_<=1048576)/\(1<=x.width/\x.width<=1048576)/\(0<=x.hang/\x.hang<=1048576)/\(0<=x.front/\x.front<=1048576)/\(0<=x.back/\x.back<=1048576)/\x.at_+x.width<=1048576):(Dg r x).ok:=by
 obtain⟨h1,h2,h3,h4,h5⟩:=h
 obtain⟨k1,k2,k3,k4,k5,_⟩:=hx
 unfold Dg
 exact⟨by dsimp only;omega,by dsimp only;omega,by dsimp only;omega,by dsimp only;omega,by dsimp only;omega⟩
theorem Ri{s:SetR}(hs:Cb s):∀k,k<=s.items.length->((s.items.take k).foldl Dg ⟨s.length,0,0,0,0⟩).ok
 |0,_=>by
  have:=hs.2.2.2.2.2.1
  exact⟨by dsimp only[List.take_zero,List.foldl_nil];omega,by dsimp only[List.take_zero,List.foldl_nil];omega,by dsimp only[List.take_zero,List.foldl_nil];omega,by dsimp only[List.take_zero,List.foldl_nil];omega,by dsimp only[List.take_zero,List.foldl_nil];omega⟩
 |k+1,hk=>by
  obtain⟨x,hx⟩:=A2 (l:=s.items) (k:=k) (by omega)
  rw[Ad hx,a2o]
  exact Abn (Ri hs k (by omega)) (Xk hs (a0a hx))
theorem Kx{s:SetR}(hs:Cb s):(Bw s).ok:=by
 unfold Bw
 split
 ·have:=hs.2.2.2.2.2.1
  exact⟨by dsimp only;omega,by dsimp only;omega,by dsimp only;omega,by dsimp only;omega,by dsimp only;omega⟩
 ·have:=Ri hs s.items.length (a0n _)
  rwa[a1l]at this
theorem Vp(s:SetR):(Bw s).hang=Bh s:=by
 have key:∀(l:List ItemR)(r:ReachR),(l.foldl Dg r).hang=l.foldl (fun n x=>max n x.hang) r.hang:=fun l=>by
  induction l with
  |nil=>intro r;rfl
  |cons x l ih=>intro r;rw[a2y,a2y,ih];rfl
 unfold Bw Bh
 split
 ·rename_i h
  rw[a0z h];rfl
 ·exact key _ _
def Abo(s:SetR):Nat->List AV
 |0=>s.row.map .lf
 |k+1=>match s.items[k]? with|some x=>x.row.map .lf|none=>[]
theorem A3a(s:SetR)(hs:Cb s):Fz 94 [A0 s.row] (A0 (Bw s).row):=by
 have h40:s.items.length<=40:=hs.2.2.2.2.2.2.2.2.2.2.2.2.2.1.1
 have hle:=lmA s.items ItemR.row
 by_cases h0:s.items.length=0
 ·have h1:(((s.items.map ItemR.row).length:Nat):Int)=0:=by omega
  have hr:Bw s=⟨0,s.length,0,0,0⟩:=if_pos h0
  rw[hr]
  refine Fo Tryz.func94 ?_
  repeat' first|refine W ?_|refine Zbj ?_|refine Da ?_|refine V ?_|refine W2 ?_ ?_<;>intro hc
  all_goals exact⟨.inr rfl,[A0 [.i 0,.i s.length,.i 0,.i 0,.i 0]],.cons (Res.row [.i 0,.i s.length,.i 0,.i 0,.i 0] rfl rfl rfl rfl rfl) .nil,.one (.agg (C5 _))⟩
 ·have h1:¬(((s.items.map ItemR.row).length:Nat):Int)=0:=by omega
  have hr:Bw s=s.items.foldl Dg ⟨s.length,0,0,0,0⟩:=if_neg h0
  rw[hr]
  refine Fo Tryz.func94 ?_
  repeat' first|refine W ?_|refine Zbj ?_|refine Da ?_|refine V ?_|refine W2 ?_ ?_<;>intro hc
  refine p0c (fun k=>k<=s.items.length) (fun k=>s.items.length-k) (fun k=>[(19,.i k),(18,.i (s.items.map ItemR.row).length),(17,.sl (s.items.map ItemR.row)),(3,.ptr 2 0),(2,.ptr 1 0)]) (fun k=>[.live (Abo s k),.live [.i 0,.i 0,.i 0,.i 0,.i 0],.live (((s.items.take k).foldl Dg ⟨s.length,0,0,0,0⟩).row.map .lf)]) 0 (a0k _) CW CG ?_
  intro k hk
  by_cases hlt:(k:Int)<((s.items.map ItemR.row).length:Nat)
  ·obtain⟨x,hx⟩:=A2 (l:=s.items) (k:=k) (by omega)
   have hb:=A3 (R:=ItemR.row) hx
   have hok:=Xk hs (a0a hx)
   have hro:=Ri hs k (by omega)
   have hsn:(s.items.take (k+1)).foldl Dg ⟨s.length,0,0,0,0⟩=Dg ((s.items.take k).foldl Dg ⟨s.length,0,0,0,0⟩) x:=by rw[Ad hx,a2o];rfl
   obtain⟨r,hrr⟩:∃r,r=(s.items.take k).foldl Dg ⟨s.length,0,0,0,0⟩:=⟨_,rfl⟩
   rw[<-hrr]at hsn hro⊢
   have hbw:x.at_+x.width<=1048576:=hok.2.2.2.2.2
   have hba:0<=x.at_:=hok.1.1
   have hbv:1<=x.width:=hok.2.1.1
   have hxx:Abo s (k+1)=x.row.map .lf:=by show(match s.items[k]? with|some x=>x.row.map AV.lf|none=>[])=_;rw[hx]
   refine T.kill 0 ?_
   repeat' first|refine WY ?_|(apply p5e 0;(iterate 5 exact rfl))|(apply S.max2;(iterate 3 exact rfl))|(apply S.min2;(iterate 3 exact rfl))|refine Dn 2 17 ?_|refine Dx 2 17 ?_|refine Dn 2 21 ?_|refine Dx 2 21 ?_|(apply p4d;(iterate 3 exact rfl);decide+kernel;exact rfl)|(apply p3t;exact rfl;exact rfl;decide+kernel;exact rfl)|refine Da ?_|refine V ?_|refine W2 ?_ ?_<;>intro hc
   exact Next.go (k+1) (by omega) (by omega) CW (by rw[hsn,hxx];exact .live rfl CG)
  ·obtain rfl:k=s.items.length:=by omega
   rw[a1l]
   repeat' first|refine WX ?_|refine W2 ?_ ?_<;>intro hc
   exact⟨.inr rfl,[A0 (s.items.foldl Dg ⟨s.length,0,0,0,0⟩).row],.cons (Res.row _ rfl rfl rfl rfl rfl) .nil,.one (.agg (C5 _))⟩
def P7(a b:SetR)(r s:ReachR):Prop:=r.left<s.right/\s.left<r.right/\a.depth-r.back<b.depth+s.front/\b.depth-s.back<a.depth+r.front
instance (a b:SetR)(r s:ReachR):Decidable (P7 a b r s):=by unfold P7;exact inferInstance
theorem A4i(a b:SetR)(r s:ReachR)(ha:Cb a)(hb:Cb b)(hfa:a.fits)(hfb:b.fits)(ka:r.ok)(kb:s.ok)(oa:Fz 94 [A0 a.row] (A0 r.row))(ob:Fz 94 [A0 b.row] (A0 s.row)):Fz 51 [A0 a.row,A0 b.row] (.tup [.b (decide (P7 a b r s)),.i 0]):=by
 have va:=Gv a hfa
 have vb:=Gv b hfb
 rw[decide_eq_true ha]at va
 rw[decide_eq_true hb]at vb
 have da:0<=a.depth/\a.depth<=1048576:=ha.2.1
 have db:0<=b.depth/\b.depth<=1048576:=hb.2.1
 obtain⟨_,_,_,r4,r5⟩:=ka
 obtain⟨_,_,_,s4,s5⟩:=kb
 refine Fo Tryz.func51 ?_
 repeat' first|refine WY ?_|refine Dw 6 ?_|refine Dw 4 ?_|refine Da ?_|refine V ?_|refine W2 ?_ ?_<;>intro hc
 all_goals refine⟨.inr rfl,[.b (decide (P7 a b r s)),.i 0],.cons (p5d rfl (congrArg (fun q:Bool=>AV.val (.bool q)) ?_)) (.cons (.tmp rfl) .nil),.tup (.cons (.one (.lf _)) (.cons (.one (.lf _)) .nil))⟩
 all_goals first
  |exact(decide_eq_false (fun h=>by obtain⟨h1,h2,h3,h4⟩:=h;omega)).symm
  |exact decide_eq_decide.2 ⟨fun h=>⟨by assumption,by assumption,by assumption,h⟩,fun h=>h.2.2.2⟩
theorem Q5(a b:SetR)(ha:Cb a)(hb:Cb b)(hfa:a.fits)(hfb:b.fits):Fz 51 [A0 a.row,A0 b.row] (.tup [.b (decide (Cu a b)),.i 0]):=by
 have h:=A4i a b (Bw a) (Bw b) ha hb hfa hfb (Kx ha) (Kx hb) (A3a a ha) (A3a b hb)
 rwa[show decide (P7 a b (Bw a) (Bw b))=decide (Cu a b)from decide_eq_decide.2 Iff.rfl]at h
theorem On(s:SetR)(hl:s.items.length<=9223372036854775807):Fz 52 [A0 s.row] (A0 [.i (Bh s),.i 1]):=by
 have hle:=lmA s.items ItemR.row
 refine Fo Tryz.func52 ?_
 repeat' first|refine W ?_|refine Da ?_|refine V ?_|refine W2 ?_ ?_<;>intro hc
 refine p0c (fun k=>k<=s.items.length) (fun k=>s.items.length-k) (fun k=>[(9,.i k),(3,.i ((s.items.take k).foldl (fun n x=>max n x.hang) 0)),(8,.i (s.items.map ItemR.row).length),(7,.sl (s.items.map ItemR.row)),(2,.ptr 1 0)]) (fun k=>[.live (s.row.map .lf),.live [.i 0,.i 0]]) 0 (a0k _) CW CG ?_
 intro k hk
 by_cases hlt:(k:Int)<((s.items.map ItemR.row).length:Nat)
 ·obtain⟨x,hx⟩:=A2 (l:=s.items) (k:=k) (by omega)
  have hb:=A3 (R:=ItemR.row) hx
  have hsn:(s.items.take (k+1)).foldl (fun n x=>max n x.hang) 0=max ((s.items.take k).foldl (fun n x=>max n x.hang) 0) x.hang:=by rw[Ad hx,a2o];rfl
  generalize(s.items.take k).foldl (fun n x=>max n x.hang) 0=n at hsn⊢
  repeat' first|refine WY ?_|(apply S.max2;(iterate 3 exact rfl))|refine Da ?_|refine V ?_|refine W2 ?_ ?_<;>intro hc
  exact Next.go (k+1) (by omega) (by omega) (by rw[hsn];exact .cons rfl rfl CW) CG
 ·obtain rfl:k=s.items.length:=by omega
  rw[a1l]
  repeat' first|refine W ?_|refine Zbj ?_|refine Da ?_|refine V ?_|refine W2 ?_ ?_<;>intro hc
  exact⟨.inr rfl,[A0 [.i (Bh s),.i 1]],.cons (Res.row [.i (Bh s),.i 1] rfl rfl rfl rfl rfl) .nil,.one (.agg (C5 _))⟩
theorem A2r(s:SetR)(hs:Cb s):Fz 62 [A0 s.row] (A0 (Bw s).row):=by
 have h40:s.items.length<=40:=hs.2.2.2.2.2.2.2.2.2.2.2.2.2.1.1
 have hle:=lmA s.items ItemR.row
 by_cases h0:s.items.length=0
 ·have h1:(((s.items.map ItemR.row).length:Nat):Int)=0:=by omega
  have hr:Bw s=⟨0,s.length,0,0,0⟩:=if_pos h0
  rw[hr]
  refine Fo Tryz.func62 ?_
  repeat' first|refine W ?_|refine Zbj ?_|refine Da ?_|refine V ?_|refine W2 ?_ ?_<;>intro hc
  all_goals exact⟨.inr rfl,[A0 [.i 0,.i s.length,.i 0,.i 0,.i 0]],.cons (Res.row [.i 0,.i s.length,.i 0,.i 0,.i 0] rfl rfl rfl rfl rfl) .nil,.one (.agg (C5 _))⟩
 ·have h1:¬(((s.items.map ItemR.row).length:Nat):Int)=0:=by omega
  have hr:Bw s=s.items.foldl Dg ⟨s.length,0,0,0,0⟩:=if_neg h0
  rw[hr]
  refine Fo Tryz.func62 ?_
  repeat' first|refine W ?_|refine Zbj ?_|refine Da ?_|refine V ?_|refine W2 ?_ ?_<;>intro hc
  refine p0c (fun k=>k<=s.items.length) (fun k=>s.items.length-k) (fun k=>[(4,.i k),(3,.ptr 2 0),(2,.ptr 1 0),(1,.ptr 0 0)]) (fun k=>[.live (s.row.map .lf),.live [.i 0,.i 0,.i 0,.i 0,.i 0],.live (((s.items.take k).foldl Dg ⟨s.length,0,0,0,0⟩).row.map .lf)]) 0 (a0k _) CW CG ?_
  intro k hk
  by_cases hlt:(k:Int)<((s.items.map ItemR.row).length:Nat)
  ·obtain⟨x,hx⟩:=A2 (l:=s.items) (k:=k) (by omega)
   have hb:=A3 (R:=ItemR.row) hx
   have hok:=Xk hs (a0a hx)
   have hsn:(s.items.take (k+1)).foldl Dg ⟨s.length,0,0,0,0⟩=Dg ((s.items.take k).foldl Dg ⟨s.length,0,0,0,0⟩) x:=by rw[Ad hx,a2o];rfl
   obtain⟨r,hrr⟩:∃r,r=(s.items.take k).foldl Dg ⟨s.length,0,0,0,0⟩:=⟨_,rfl⟩
   rw[<-hrr]at hsn⊢
   have hbw:x.at_+x.width<=1048576:=hok.2.2.2.2.2
   have hba:0<=x.at_:=hok.1.1
   have hbv:1<=x.width:=hok.2.1.1
   repeat' first|refine WY ?_|(apply S.max2;(iterate 3 exact rfl))|(apply S.min2;(iterate 3 exact rfl))|refine Da ?_|refine V ?_|refine W2 ?_ ?_<;>intro hc
   exact Next.go (k+1) (by omega) (by omega) CW (by rw[hsn];exact .live rfl CG)
  ·obtain rfl:k=s.items.length:=by omega
   rw[a1l]
   repeat' first|refine WX ?_|refine W2 ?_ ?_<;>intro hc
   exact⟨.inr rfl,[A0 (s.items.foldl Dg ⟨s.length,0,0,0,0⟩).row],.cons (Res.row _ rfl rfl rfl rfl rfl) .nil,.one (.agg (C5 _))⟩
theorem Abf(a b:SetR)(r s:ReachR)(ha:Cb a)(hb:Cb b)(ka:r.ok)(kb:s.ok)(oa:Fz 62 [A0 a.row] (A0 r.row))(ob:Fz 62 [A0 b.row] (A0 s.row)):Fz 59 [A0 a.row,A0 b.row] (.b (decide (P7 a b r s))):=by
 have da:0<=a.depth/\a.depth<=1048576:=ha.2.1
 have db:0<=b.depth/\b.depth<=1048576:=hb.2.1
 obtain⟨_,_,_,r4,r5⟩:=ka
 obtain⟨_,_,_,s4,s5⟩:=kb
 refine Fo Tryz.func59 ?_
 repeat' first|refine WY ?_|refine Dw 6 ?_|refine Dw 4 ?_|refine Da ?_|refine V ?_|refine W2 ?_ ?_<;>intro hc
 all_goals exact Dd rfl rfl (congrArg Value.bool (by
  first
  |exact(decide_eq_false (fun h=>by obtain⟨h1,h2,h3,h4⟩:=h;omega))
  |exact decide_eq_decide.2 ⟨fun h=>h.2.2.2,fun h=>⟨by assumption,by assumption,by assumption,h⟩⟩
  |exact(decide_eq_false (fun h=>by obtain⟨h1,h2,h3,h4⟩:=h;omega)).symm
  |exact decide_eq_decide.2 ⟨fun h=>⟨by assumption,by assumption,by assumption,h⟩,fun h=>h.2.2.2⟩))
theorem Uq(a b:SetR)(ha:Cb a)(hb:Cb b):Fz 59 [A0 a.row,A0 b.row] (.b (decide (Cu a b))):=by
 have h:=Abf a b (Bw a) (Bw b) ha hb (Kx ha) (Kx hb) (A2r a ha) (A2r b hb)
 rwa[show decide (P7 a b (Bw a) (Bw b))=decide (Cu a b)from decide_eq_decide.2 Iff.rfl]at h
end Go.Proofs.YtcaicpnepfjcmaaGreat
