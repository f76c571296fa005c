import Derived.Test.YtgcjpahhljmlmaaGreatDoorLParsesY5
import Derived.Lib.SplitLaws
set_option maxRecDepth 100000
set_option maxHeartbeats 4000000
set_option linter.defProp false
namespace Go.Proofs.YtgcjpahhljmlmaaGreatDoor
open Go.Proofs.Tryz
section
open Go.Eng Go.Lx Go.Ty
def Pow (m : View) : Prop := ∀ h w, St m h w → Lib.TabIs prog w "internal/strconv.uint64pow10" .u64 Lib.pow10Tab
theorem c6e(v:Int)(h:Lr)(m:View)(hp:Pow m)(hv:-9223372036854775808<=v/\v<=9223372036854775807):CT prog 322 [.int .i64 v] h m (A5 h (str (Lib.itoa v))):=
 CT.ofGrow call322 λw st=>Tryz.strconv_Itoa v hv.1 hv.2 w (hp h w st)
theorem a8T(t:Tok)(s:B)(h:Lr)(m:View)(hg:Glob m)(hs:s.length<4294967281):CT prog 281 [I6 t,str s] h m (A5 h (.bool (b2s t s))):=by
 refine cB [1,2,4] func281 λ_=>?_;refine xX λb2=>?_
 refine ZZ [1,7] ?_;refine A3 (GU.t rfl rfl) (λhc=>⟨Ef,(E2 (Eg hc) (Eg hc)),a1U hg s t.text hs _⟩) Lb ?_;refine Z2 ?_;refine wT h ?_;exact⟨rfl,rfl⟩
theorem a7O{s:B}{k:Nat}(h:k<s.length):(s.drop k).take (k+1-k)=[s.getD k 0]:=by rw[qq h,Nat.add_sub_cancel_left,List.take_succ_cons,zZ,ql,qk h];rfl
theorem c9T(v:Nat):IntKind.u8.wrap (v:Int)=((UInt8.ofNat v).toNat:Int):=by rw[UInt8.toNat_ofNat'];unfold IntKind.wrap;simp[IntKind.bits,IntKind.signed]
theorem c9n(v:Nat):a7i .i32 (v:Int) 4=((v/16:Nat):Int):=by unfold a7i;rw[z1 _ (by decide)];simp[IntKind.bits]
theorem c6V{v:Nat}(h:v<256):c0a .i32 (v:Int) 15=((v%16:Nat):Int):=by
 have:∀v,v<256->c0a .i32 ((v:Nat):Int) 15=((v%16:Nat):Int):=by decide +kernel
 exact this v h
theorem c2y{v:Nat}(h:v<256):IntKind.i32.wrap ((v:Int)+1)=((v+1:Nat):Int):=by unfold IntKind.wrap;simp[IntKind.bits,IntKind.signed];omega
theorem c2W(v:Nat)(h:Lr)(m:View)(hv:v<256):CT prog 314 [.int .i32 v] h m (A5 h (str (a6A v))):=by
 have hI:=a5J (UInt8.ofNat v) c8B;have hI5:shI v<=4:=hI;refine cB [0,2,3,7,15] func314 λ_=>?_;refine ZZ [1,1] ?_;refine xG (PO.conv a0R uu5 Et) ?_;refine WL.val (v':=.int .u8 ((UInt8.ofNat v).toNat:Int)) (congrArg (Value.int .u8) (c9T v)) ?_;refine xf (E2 Ek Et) (CT.argsE rfl (b0E c8B (UInt8.ofNat v) _ _)) ?_;refine WL.val (v':=.int .i64 (shI v)) rfl ?_;refine ZZ [1,3,0] ?_;refine wc ?_ ?_<;>intro c7
 have d7:0<=shI v:=dT c7;obtain⟨k,hk⟩:∃k:Nat,shI v=k:=⟨(shI v).toNat,by omega⟩;rw[hk];have hk5:k<b4m.length:=by show k<5;omega
 refine kA3 ?_;refine WL.val (v':=.int .i64 ((k+1:Nat):Int)) (congrArg (Value.int .i64) (by omega)) ?_;refine xG (a03 (s:=b4m) (l:=k) (u:=k+1) uu9 Ek Et Et rfl rfl (by omega) (by omega)) ?_;refine WL.val (v':=str [b4m.getD k 0]) (congrArg str (a7O hk5)) ?_;refine xG (a0U Ek Et (by simp)) ?_;refine Z1 ?_;refine wT h ?_;exact⟨by unfold a6A;rw[c7,hk];rfl,rfl⟩;refine Z7 ?_;refine wc ?_ ?_<;>intro c15
 refine jE ?_;refine dS [] (.op 0 (.op 1 (.op 2 (.op 3 (.op 4 (.op 5 (.op 6 (.op 7 (.op 8 (.op 9 (.op 10 (.op 11 (.op 12 .nil))))))))))))) [13,14] C9 ?_;refine kA1 ?_;refine yG rfl (PO.shr Et Ek (by decide)) ?_;refine SR.val (v':=.int .i32 ((v/16:Nat):Int)) (congrArg (Value.int .i32) (c9n v)) ?_;refine kA1 ?_;refine yG rfl (PO.shr Et Ek (by decide)) ?_;refine SR.val (v':=.int .i32 ((v/16:Nat):Int)) (congrArg (Value.int .i32) (c9n v)) ?_;refine yG rfl (O4 Et Ek rfl) ?_;refine SR.val (v':=.int .i32 ((v/16+1:Nat):Int)) (congrArg (Value.int .i32) (c2y (by omega))) ?_;refine yG rfl (a03 (s:=R4) (l:=v/16) (u:=v/16+1) uu9 Ek Et Et rfl rfl (by omega) (by show _<=16;omega)) ?_;refine SR.val (v':=str [R4.getD (v/16) 0]) (congrArg str (a7O (by show _<16;omega))) ?_;refine yG rfl (a0U Ek Et (by simp)) ?_;refine kA1 ?_;refine yG rfl (O4 Et Ek rfl) ?_
 refine SR.val (v':=.int .i32 ((v%16:Nat):Int)) (congrArg (Value.int .i32) (c6V hv)) ?_;refine kA1 ?_;refine yG rfl (O4 Et Ek rfl) ?_;refine SR.val (v':=.int .i32 ((v%16:Nat):Int)) (congrArg (Value.int .i32) (c6V hv)) ?_;refine yG rfl (O4 Et Ek rfl) ?_;refine SR.val (v':=.int .i32 ((v%16+1:Nat):Int)) (congrArg (Value.int .i32) (c2y (by omega))) ?_;refine yG rfl (a03 (s:=R4) (l:=v%16) (u:=v%16+1) uu9 Ek Et Et rfl rfl (by omega) (by show _<=16;omega)) ?_;refine SR.val (v':=str [R4.getD (v%16) 0]) (congrArg str (a7O (by show _<16;omega))) ?_;refine nS ?_;refine xG (a0U Et Et (by simp)) ?_;refine Z1 ?_;refine wT h ?_;exact⟨by unfold a6A;rw[c7,c15];rfl,rfl⟩;have hv2:v<128:=by simp at c15;omega
 refine ZZ [0,1] ?_;refine xG (c5j a0R uu9 Et rfl hv2) ?_;refine Z1 ?_;refine wT h ?_;exact⟨by unfold a6A;rw[c7,c15];rfl,rfl⟩
theorem c6t{u i:Nat}(hi:i<8):a7i .u32 (u:Int) (4*(i:Int))=((u/16^i:Nat):Int):=by unfold a7i;rw[show min (4*(i:Int)).toNat IntKind.u32.bits=4*i by show min _ 32=_;omega,z1 _ (Int.le_of_lt (Int.pow_pos (by decide)))];rw[show(16:Nat)^i=2^(4*i) by rw[Nat.pow_mul]];simp
theorem c4S(x:Nat)(hx:x<4294967296):c0a .u32 (x:Int) 15=((x%16:Nat):Int):=by
 have e:(BitVec.ofInt 32 (x:Int)&&&BitVec.ofInt 32 15).toNat=x%16:=by rw[BitVec.toNat_and,BitVec.ofInt_natCast,BitVec.toNat_ofNat,Nat.mod_eq_of_lt (by omega),show(BitVec.ofInt 32 15).toNat=2^4-1 from rfl,Nat.and_two_pow_sub_one_eq_mod]
 unfold c0a;rw[show IntKind.u32.bits=32 from rfl,e,a9B (by omega)]
theorem d0l{k j:Nat}{x:UInt8}{r:B}(hj:j=k+1):(bv (35::(List.replicate (k+1) 0++r))).set (0+j*1) (.int .u8 x.toNat)=bv (35::(List.replicate k 0++(x::r))):=by
 subst hj;rw[qI,Nat.mul_one];have e:∀(k:Nat),(bv (List.replicate (k+1) 0++r)).set k (.int .u8 x.toNat)=bv (List.replicate k 0++(x::r)):=by
  intro k;induction k with
  |zero=>rfl
  |succ k ih=>show _::(bv (List.replicate (k+1) 0++r)).set k _=_;rw[ih];rfl
 show _::(bv (List.replicate (k+1) 0++r)).set k _=_;rw[e];rfl
theorem c2w(v:Int)(b:Bool)(h:Lr)(m:View)(hp:Pow m)(hv:-2147483648<=v/\v<=2147483647):CT prog 313 [.int .i32 v,.bool b] h m (A5 h (str (a0g v b))):=by
 obtain⟨u,hu⟩:∃u:Nat,IntKind.u32.wrap v=u:=⟨(IntKind.u32.wrap v).toNat,by
  have:0<=IntKind.u32.wrap v:=by unfold IntKind.wrap;simp[IntKind.bits,IntKind.signed];omega
  omega⟩
 have hu32:u<4294967296:=by
  have:IntKind.u32.wrap v<4294967296:=by unfold IntKind.wrap;simp[IntKind.bits,IntKind.signed];omega
  omega
 refine cB [0,1,4,5,6,8,13,14] func313 λ_=>?_;refine ZZ [1,2,0] ?_;refine wc ?_ ?_<;>intro c8
 have d8:b=false:=by simpa using c8
 subst d8;refine kA1 ?_;refine xG (PO.conv a0R uu3 Et) ?_;refine WL.val (v':=.int .i64 v) (congrArg (Value.int .i64) (by unfold IntKind.wrap;simp[IntKind.bits,IntKind.signed];omega)) ?_;refine xf (E1 Et) (c6e v _ _ hp (by omega)) ?_;refine Z1 ?_;refine wT h ?_;exact⟨rfl,rfl⟩;have d8:b=true:=by simpa using c8
 subst d8;refine Z0 ?_;refine xG (a5o b7W rfl rfl rfl Eb (by exact rfl)) ?_;refine xW λb5=>?_;refine ZZ [1,1,0] ?_;refine lI [0,5] (λμ F' h'=>∃i:Nat,(i<=8)/\8-i=μ/\F'=[(13,.int .i64 i)]/\.pt b5 (.cells (bv (35::(List.replicate (8-i) 0++a1p u i))).toArray 335 (0,0))::h=h') (8-0) [(13,.int .i64 0)] (.pt b5 (.cells (bv (35::(List.replicate (8-0) 0++a1p u 0))).toArray 335 (0,0))::h) ⟨0,by omega,rfl,rfl,rfl⟩ ?_;rintro _ _ _ ⟨i,hJ,rfl,rfl,rfl⟩;refine A9 rfl ?_;refine y4 ?_ ?_<;>intro c14
 have hd:u/16^i%16<16:=Nat.mod_lt _ (by decide);obtain⟨x,hx⟩:=A8 (l:=R4) (k:=u/16^i%16) hd;have hx':R4.getD (u/16^i%16) 0=x:=by rw[ql,hx];rfl
 have hle:u/16^i<4294967296:=Nat.lt_of_le_of_lt (Nat.div_le_self _ _) hu32;refine ZZ [0,2,1] ?_;refine xG (P3 Ek Et (by omega)) ?_;refine kA1 ?_;refine xG (PO.conv a0R b3z Et) ?_;refine WL.val (v':=.int .u32 (u:Int)) (congrArg (Value.int .u32) hu) ?_;refine kA1 ?_;refine xG (a6G Ek Et (by omega)) ?_;refine xG (PO.shr Et Et (by omega)) ?_;refine WL.val (v':=.int .u32 ((u/16^i:Nat):Int)) (congrArg (Value.int .u32) (c6t (by omega))) ?_;refine kA1 ?_;refine WL.val (v':=.int .u32 ((u/16^i%16:Nat):Int)) (congrArg (Value.int .u32) (c4S _ hle)) ?_;refine xG (F3 (l:=R4) (q:=u/16^i%16) uu9 Ek Et rfl hx) ?_;refine xG (b7X (sz:=1) b7W rfl Et Et (q:=8-i) (by omega) (by omega)) ?_;refine b8L (cs:=bv (35::(List.replicate (8-i) 0++a1p u i))) rfl Et Et rfl rfl (by rw[b2I];simp[a6u];omega) Up ?_
 refine c7q (cs:=(bv (35::(List.replicate (8-i) 0++a1p u i))).set (0+(8-i)*1) _) (cs':=bv (35::(List.replicate (8-(i+1)) 0++a1p u (i+1)))) (by rw[b5I,hx',show 8-i=8-(i+1)+1 by omega];exact d0l rfl) Up ?_;refine ZZ [0,2] ?_;exact WL.nil (lN (8-(i+1)) [(13,.int .i64 (i+1))] (.pt b5 (.cells (bv (35::(List.replicate (8-(i+1)) 0++a1p u (i+1)))).toArray 335 (0,0))::h) ⟨i+1,by omega,rfl,rfl,rfl⟩);have e:i=8:=by omega
 subst e;refine Z0 ?_;refine xG (b4S b7W rfl (by decide) Et) ?_;refine xG (c2q (bs:=35::a1p u 8) b7v uu5 uu9 Et (Rd.ofPt rfl (by decide) (qm _))) ?_;refine Z1 ?_;refine wT h ?_;exact⟨by unfold a0g;rw[hu];rfl,rfl⟩
theorem c5y(t:Tok)(h:Lr)(m:View)(hp:Pow m)(hn:-2147483648<=t.n/\t.n<=2147483647)(hk:mayK t=true):CT prog 283 [I6 t] h m (A5 h (str (a1Z t))):=by
 refine cB [1,2,4,5,13] func283 λ_=>?_;refine xX λb1=>?_
 refine ZZ [1,2,2,0] ?_;refine wc ?_ ?_<;>intro c5
 refine kA5 ?_;refine xf (E2 Et Et) (c2w t.n _ _ _ hp hn) ?_;refine Z1 ?_;refine wT h ?_;exact⟨by unfold a1Z;rw[c5];rfl,rfl⟩;refine y2 ?_ ?_<;>intro c13
 have hb:0<=t.n/\t.n<256:=by have e:t.kind=4:=eq_of_beq c13;unfold mayK at hk;rw[e]at hk;simp at hk;omega
 have hsl:=b2h t.n.toNat;refine kA2 ?_;refine WL.val (v':=.int .i32 (t.n.toNat:Int)) (congrArg (Value.int .i32) (by omega)) ?_;refine xf (E1 Et) (c2W t.n.toNat _ _ (by omega)) ?_;refine xG (a0U Ek Et (by simp;omega)) ?_;refine xG (a0U Et Ek (by simp;omega)) ?_;refine Z1 ?_;refine wT h ?_;exact⟨by unfold a1Z;rw[c5,c13];rfl,rfl⟩;refine ZZ [0,3,0] ?_;refine wT h ?_;exact⟨by unfold a1Z;rw[c5,c13];rfl,rfl⟩
def TkL(l:Lt):Prop:=∀x,x∈l->(-2147483648<=x.n/\x.n<=2147483647)/\x.text.length<=140737488355328
theorem c6B{l:Lt}{i:Nat}{x:Tok}(hx:l[i]?=some x)(h:mayK x=false):l.any (λt=>!mayK t)=true:=
 List.any_eq_true.2 ⟨x,qe hx,by rw[h];rfl⟩
theorem c2i{l:Lt}{i:Nat}{x:Tok}(hx:l[i]?=some x)(h:mayK x=true)(hJ:(l.take i).any (λt=>!mayK t)=false):(l.take (i+1)).any (λt=>!mayK t)=false:=by rw[List.take_add_one,hx,List.any_append,hJ];simp[h]
theorem c7J{l:Lt}{i:Nat}(hi:i<l.length)(x:Tok):b0Q (a5m none (l.take i)) x=(decide ((i:Int)>0)&&gap (l.getD (i-1) zeroK) x):=by
 cases i with
 |zero=>rfl
 |succ j=>
  have hj:j<l.length:=by omega
  rw[b0i l j none l[j] (qk hj),Nat.add_sub_cancel,ql,qk hj];have:decide (((j+1:Nat):Int)>0)=true:=by simp
  rw[this];rfl
theorem c0c(a:Oa)(k c:Nat)(l:Lt)(h:Lr)(m:View)(hg:Glob m)(hp:Pow m)(hs:Rd m h a k c 4 (fl B1 l))(hT:TkL l) :
 CT prog 222 [.slice a k c] h m (A5 h (.tuple #[str (textO l).1,.int .i64 (textO l).2])):=by
 have hl:=hs.lenF A7 (by decide);subst hl;have hmx:=hs.mx;have hle:=hs.le;have hq:∀n:Nat,n<l.length->l[n]?=some (l.getD n zeroK):=λn hn=>by rw[ql,qk hn];rfl
 refine cB [0,2,3,4,6,7,8,9,10,11,12,13,18,20,21,22,23,68] func222 λ_=>?_;refine Z2 ?_;refine xG (PO.assign Ef) ?_;refine ZZ [0,3,0] ?_;refine lI [0,4,10,11] (λμ F' h'=>∃i:Nat,(i<=l.length/\(l.take i).any (λt=>!mayK t)=false)/\l.length-i=μ/\F'=[(12,.int .i64 i)]/\h=h') (l.length-0) [(12,.int .i64 0)] h ⟨0,⟨by omega,rfl⟩,rfl,rfl,rfl⟩ ?_;rintro _ _ _ ⟨i,⟨hi,hJ⟩,rfl,rfl,rfl⟩;refine A9 rfl ?_;refine y4 ?_ ?_<;>intro c13
 obtain⟨x,hx⟩:=A8 (l:=l) (k:=i) (by omega);have hxT:=hT x (qe hx);refine ZZ [0,2] ?_;refine xW λb6=>?_;refine ZZ [1,1] ?_;refine xf (E1 Et) (b4e x _ _ hg hxT.2) ?_;refine y1 ?_ ?_<;>intro c18
 have d18:mayK x=false:=by simpa using c18
 have hO:=b8K (c6B hx d18);refine Z2 ?_;refine w2 h ?_;exact⟨by rw[hO],rfl⟩;have d18:mayK x=true:=by simpa using c18
 have hJ2:=c2i hx d18 hJ;refine ZZ [0,2] ?_;exact WL.nil (lN (l.length-(i+1)) [(12,.int .i64 (i+1))] h ⟨i+1,⟨by omega,hJ2⟩,rfl,rfl,rfl⟩);rw[qC (by omega)]at hJ;have hall:∀x,x∈l->mayK x=true:=λx hx=>by
  have:=List.any_eq_false.1 hJ x hx;simpa using this
 refine ZZ [0,1,3,0] ?_;refine lI [0,4,20,21] (λμ F' h'=>∃i:Nat,∃s:B,((i<=l.length/\s.length<=256)/\s=textL none (l.take i))/\l.length-i=μ/\F'=[(7,str s),(22,.int .i64 i)]/\h=h') (l.length-0) [(7,str ([])),(22,.int .i64 0)] h ⟨0,[],⟨⟨by omega,by decide⟩,rfl⟩,rfl,rfl,rfl⟩ ?_;rintro _ _ _ ⟨i,s,⟨⟨hi,hs256⟩,hS⟩,rfl,rfl,rfl⟩;refine A9 rfl ?_;refine y4 ?_ ?_<;>intro c23
 obtain⟨x,hx⟩:=A8 (l:=l) (k:=i) (by omega);have hxT:=hT x (qe hx);have hxK:=hall x (qe hx);have hgap:=c7J (l:=l) (i:=i) (by omega) x;have hsn:=b6b none hx;have hxl:=c03 hxT.1 hxT.2;generalize hy:l.getD (i-1) zeroK=y at hgap;have hqy:0<i->l[i-1]?=some y:=λh0=>by rw[hq (i-1) (by omega),hy]
 refine ZZ [0,3] ?_;refine xW λb9=>?_;refine ZZ [2,4] ?_;refine zG (λ_=>pA C7) ?_;refine A3 (GU.t rfl rfl) (λhc=>⟨(a04 rfl hc),(E2 (a04 rfl hc) Ek),a8T x c0N _ _ hg (by decide)⟩) Lb ?_;refine kA6 ?_;refine C2 (GU.t rfl rfl) (λhc=>P3 (Eg hc) Ek (by first|omega|(simp at hc;omega))) Lb ?_;refine C2 (GU.t rfl rfl) (λhc=>D7 B3.und B3.size B3.posz (Eg hc) (Eg hc) Rr (q:=i-1) (by simp at hc;omega) (by simp at hc;omega)) Lb ?_;refine C2 (GU.t rfl rfl) (λhc=>a2q C7 rfl rfl A7 Rr (Eg hc) (hqy (by simp at hc;omega)) rfl rfl (qu _)) Lb ?_;refine A3 (GU.t rfl rfl) (λhc=>⟨(a04 rfl hc),(E2 (a04 rfl hc) Ek),a8T y b89 _ _ hg (by decide)⟩) Lb ?_;refine kA5 ?_;refine C2 (GU.t rfl rfl) (λhc=>P3 (Eg hc) Ek (by first|omega|(simp at hc;omega))) Lb ?_;refine C2 (GU.t rfl rfl) (λhc=>D7 B3.und B3.size B3.posz (Eg hc) (Eg hc) Rr (q:=i-1) (by simp at hc;omega) (by simp at hc;omega)) Lb ?_
 refine C2 (GU.t rfl rfl) (λhc=>D0 C7 rfl (qf rfl) A7 (qu _) Rr (hqy (by simp at hc;omega)) (Eg hc)) Lb ?_;refine C2 (GU.t rfl rfl) (λhc=>D2 a2H rfl A7 Rr (Eg hc) (hqy (by simp at hc;omega)) rfl) Lb ?_;refine kA3 ?_;refine zG (λ_=>pA C7) ?_;refine A3 (a4M rfl rfl) (λhc=>⟨(a04 rfl hc),(E2 (a04 rfl hc) Ek),a8T x b89 _ _ hg (by decide)⟩) Lb ?_;refine kA1 ?_;refine zG (λhc=>a2T hc rfl rfl) ?_;refine kP1 [0,4,7,9,20,21,22,59] ?_;refine D6 KKh [0,4,9,20,21,22] rfl (λF' h'=>∃u:B,(u=s++sep (b0Q (a5m none (l.take i)) x)/\u.length<=257)/\F'=[(7,str u)]/\.pt b9 (.cells (B1 x).toArray 116 (0,0))::h=h') ?_ ?_;refine jE ?_;refine wc ?_ ?_<;>intro c59
 have d59:b0Q (a5m none (l.take i)) x=true:=by rw[hgap];simpa [gap,Bool.and_assoc]using c59
 refine kA1 ?_;refine xG (a0U Et Ek (by simp;omega)) ?_;refine kA1 ?_;exact WL.nil (mN [(7,str (s++[32]))] (.pt b9 (.cells (B1 x).toArray 116 (0,0))::h) ⟨s++[32],⟨by rw[d59];rfl,by rw[qh,qO];omega⟩,rfl,rfl⟩);have d59:b0Q (a5m none (l.take i)) x=false:=by rw[hgap];simpa [gap,Bool.and_assoc]using c59
 exact WC.skip (mN [(7,str s)] (.pt b9 (.cells (B1 x).toArray 116 (0,0))::h) ⟨s,⟨by rw[d59];exact(zF s).symm,by omega⟩,rfl,rfl⟩);rintro _ _ ⟨u,⟨hu,hul⟩,rfl,rfl⟩;refine A9 rfl ?_;refine kA2 ?_;refine xf (E1 Et) (c5y x _ _ hp hxT.1 hxK) ?_;refine xG (a0U Et Et (by omega)) ?_;refine ZZ [1,1] ?_;refine xG (G0 uu9 Et) ?_;refine y1 ?_ ?_<;>intro c68
 have hlong:256<(u++a1Z x).length:=by have:=zq c68;omega
 have hO:=b5K hJ (i:=i+1) (by rw[hsn,<-hS,<-qj,<-hu];exact hlong);refine Z2 ?_;refine w2 h ?_;exact⟨by rw[hO],rfl⟩;have hshort:(u++a1Z x).length<=256:=by have:=zz c68;omega
 refine ZZ [0,2] ?_;exact WL.nil (lN (l.length-(i+1)) [(7,str (u++a1Z x)),(22,.int .i64 (i+1))] h ⟨i+1,u++a1Z x,⟨⟨by omega,hshort⟩,by rw[hsn,<-hS,<-qj,<-hu]⟩,rfl,rfl,rfl⟩);rw[qC (by omega)]at hS;have hO:=c1x hJ (by rw[<-hS];exact hs256);refine ZZ [0,3,0] ?_;refine w2 h ?_;exact⟨by rw[hO,hS],rfl⟩
end
section
open Go.Eng Go.Pc Go.Sx Go
open Go.Xp hiding B E8
open Go.Ty (Ty Vr Tok eqT tyV E9 B1 A7 I6 zeroK H3 E5)
open Go.Lx (encB C0 textO)
open Go.Ly (Rw K7 C6)
abbrev OwT(h:Lr)(l:Lt)(v:Value)(h':Lr):Prop:=b5h B1 116 4 h l v h'
theorem a2W(s:B)(h:Lr)(m:View):CT prog 211 [str s] h m (λv _ h'=>OwT h [R2 s] v h'):=by
 refine cB [0,2] func211 λ_=>?_;refine ZZ [1,2] ?_;refine xY B3 Eb λb5=>?_
 refine a2M (k:=1) (sz:=4) (cs:=fl B1 [R2 s]) rfl (by decide) Up ?_;refine Z1 ?_;refine wT (.row (.slice (some ⟨b5,0,none⟩) 1 1) 116 4 1 (fl B1 [R2 s])::h) ?_;exact⟨_,_,1,rfl,rfl,rfl⟩
theorem D1{m:View}(hg:Glob m)(a:Oa)(k c:Nat)(l:List B)(h:Lr)(hs:Rd m h a k c 1 (fl encB l))(hl:k<=1000)(hw:∀x∈l,x.length<=140737488355328) :
 CT prog 146 [.slice a k c] h m (λv _ h'=>OwT h (l.map A6) v h'):=by
 have hlen:=hs.lenF C0 (by decide);subst hlen;refine cB [0,2,3,5,6,7,8,9,13] func146 λ_=>?_;refine Z1 ?_;refine WL.addNil 116 4 ?_;refine ZZ [1,3,0] ?_;refine lI [6,7] (λμ F' h'=>∃a3:Oa,∃c3:Nat,∃r:Lt,∃j:Nat,((j<=l.length/\r.length=j)/\r=(l.take j).map A6)/\l.length-j=μ/\F'=[(3,.slice a3 r.length c3),(8,.int .i64 j)]/\.row (.slice a3 r.length c3) 116 4 r.length (fl B1 r)::h=h') (l.length-0) [(3,.slice none ([]).length 0),(8,.int .i64 0)] (.row (.slice none ([]).length 0) 116 4 ([]).length (fl B1 ([]))::h) ⟨none,0,[],0,⟨⟨by omega,rfl⟩,rfl⟩,rfl,rfl,rfl⟩ ?_;rintro _ _ _ ⟨a3,c3,r,j,⟨⟨hj,hr⟩,hJ⟩,rfl,rfl,rfl⟩;refine A9 rfl ?_;refine y4 ?_ ?_<;>intro c9
 obtain⟨s,hx⟩:=A8 (l:=l) (k:=j) (by omega);have htk:(l.take (j+1)).map A6=(l.take j).map A6++[A6 s]:=by rw[a3u hx,qZ];rfl
 have hsw:=hw s (qe hx);refine ZZ [0,3,1] ?_;refine xf (E1 Et) (a7Y s _ _ hg hsw) ?_;refine y0 ?_ ?_<;>intro c13
 have hws:A6 s=⟨2,0,s,0⟩:=by unfold A6;rw[if_pos c13]
 have hln:(r++[A6 s]).length=r.length+1:=qh;refine kA2 ?_;refine xf (E1 Et) (L9 _ _ _) ?_;refine xY B3 Eb λb17=>?_;rw[<-hws];refine xD B3 (Ev.tmp rfl) (Ev.tmp rfl) (show r.length+1=(r++[A6 s]).length by simp) (D9 (enc:=B1) _ (A6 s)) λa18 c18=>?_
 refine ZZ [1,2] ?_;exact WL.nil (lN (l.length-(j+1)) [(3,.slice a18 (r++[A6 s]).length c18),(8,.int .i64 (j+1))] (.row (.slice a18 (r++[A6 s]).length c18) 116 4 (r++[A6 s]).length (fl B1 (r++[A6 s]))::h) ⟨a18,c18,r++[A6 s],j+1,⟨⟨by omega,by omega⟩,by rw[htk,hJ]⟩,rfl,rfl,rfl⟩);have hws:A6 s=⟨5,0,s,0⟩:=by unfold A6;rw[if_neg (E6 c13)]
 have hln:(r++[A6 s]).length=r.length+1:=qh;refine kA2 ?_;refine xf (E1 Et) (H5 _ _ _) ?_;refine xY B3 Eb λb22=>?_;rw[<-hws];refine xD B3 (Ev.tmp rfl) (Ev.tmp rfl) (show r.length+1=(r++[A6 s]).length by simp) (D9 (enc:=B1) _ (A6 s)) λa23 c23=>?_
 refine ZZ [1,2] ?_;exact WL.nil (lN (l.length-(j+1)) [(3,.slice a23 (r++[A6 s]).length c23),(8,.int .i64 (j+1))] (.row (.slice a23 (r++[A6 s]).length c23) 116 4 (r++[A6 s]).length (fl B1 (r++[A6 s]))::h) ⟨a23,c23,r++[A6 s],j+1,⟨⟨by omega,by omega⟩,by rw[htk,hJ]⟩,rfl,rfl,rfl⟩);rw[qC (by omega)]at hJ;subst hJ;refine ZZ [0,2,0] ?_;refine wT (.row (.slice a3 (l.map A6).length c3) 116 4 (l.map A6).length (fl B1 (l.map A6))::h) ?_;exact⟨_,_,_,rfl,rfl,rfl⟩
theorem K8{m:View}(hg:Glob m)(e:Ex)(h:Lr)(hE:EOk m h e):CT prog 213 [exV e] h m (λv _ h'=>OwT h (G3 e) v h'):=by
 refine cB [1,2,3] func213 λ_=>?_;refine xX λb1=>?_
 refine ZZ [1,1] ?_;refine xg (E1 Et) (c3Z hg e _ (hE.t.mono Sb) hE.w) ?_;rintro _ _ ⟨a7,c7,rfl,rfl⟩;refine ZZ [5,2,0] ?_;refine wT (.row (.slice a7 (G3 e).length c7) 116 4 (G3 e).length (fl B1 (G3 e))::h) ?_;exact⟨_,_,_,rfl,rfl,rfl⟩
theorem a2o{m:View}(hg:Glob m)(t:Ty)(h:Lr)(hs:t.proto.length<=9223372036854775807):CT prog 212 [tyV t] h m (λv _ h'=>OwT h (M7 t) v h'):=by
 refine cB [1,2,3] func212 λ_=>?_;refine xX λb1=>?_
 refine ZZ [1,1] ?_;refine xg (E1 Et) (Ty9.tokens_ct t _ _ hg hs) ?_;rintro _ _ ⟨a7,c7,rfl,rfl⟩;refine ZZ [5,2,0] ?_;refine wT (.row (.slice a7 (M7 t).length c7) 116 4 (M7 t).length (fl B1 (M7 t))::h) ?_;exact⟨_,_,_,rfl,rfl,rfl⟩
theorem b3B{m:View}(hg:Glob m)(k:Int)(h:Lr):CT prog 217 [.int .u8 k] h m (λv _ h'=>OwT h (a1I k) v h'):=by
 refine cB [0,2] func217 λ_=>?_;refine ZZ [1,2] ?_;refine xg (E1 Et) (a2o hg ⟨k,0,0,[]⟩ _ (qi _)) ?_;rintro _ _ ⟨a5,c5,k5,hk5,rfl,rfl⟩;refine Z1 ?_;refine wT (.row (.slice a5 k5 c5) 116 4 k5 (fl B1 (a1I k))::h) ?_;exact⟨_,_,_,hk5,rfl,rfl⟩
theorem a3P{m:View}(q:FuncId)(f:Ex->Lt)(sep:B)(a:Oa)(k c:Nat)(l:List Ex)(h:Lr)(hs:Rd m h a k c 6 (fl exE l))(hk:k<=3000)(hb:∀x∈l,(f x).length<=3000)
 (ht:∀x∈l,∀h',h.Sublist h'->CT prog q [exV x] h' m (λv _ h2=>OwT h' (f x) v h2)) :
 CT prog 221 [.slice a k c,str sep,.func (.func q) #[] #[]] h m (λv _ h'=>OwT h (E7 sep f l) v h'):=by
 have hlen:=hs.lenF a5T (by decide);subst hlen;refine cB [0,1,2,6,7,8,9,10,11,12,13] func221 λ_=>?_;refine Z1 ?_;refine WL.addNil 116 4 ?_;refine ZZ [1,3,0] ?_;refine lI [1,2,10,11] (λμ F' h'=>∃a7:Oa,∃c7:Nat,∃r:Lt,∃j:Nat,((j<=l.length/\r.length<=j*3001)/\r=E7 sep f (l.take j))/\l.length-j=μ/\F'=[(7,.slice a7 r.length c7),(12,.int .i64 j)]/\.row (.slice a7 r.length c7) 116 4 r.length (fl B1 r)::h=h') (l.length-0) [(7,.slice none ([]).length 0),(12,.int .i64 0)] (.row (.slice none ([]).length 0) 116 4 ([]).length (fl B1 ([]))::h) ⟨none,0,[],0,⟨⟨by omega,by simp⟩,rfl⟩,rfl,rfl,rfl⟩ ?_;rintro _ _ _ ⟨a7,c7,r,j,⟨⟨hj,hr⟩,hJ⟩,rfl,rfl,rfl⟩;refine A9 rfl ?_;refine y4 ?_ ?_<;>intro c13
 obtain⟨x,hx⟩:=A8 (l:=l) (k:=j) (by omega);have hxm:=qe hx;have hfx:=hb x hxm;have htk:=a3u hx;have h3:j*3001<=9000000:=by omega
 refine ZZ [0,3] ?_;refine xW λb9=>?_;refine Z2 ?_;refine kP2 [1,2,7,9,10,11,12,18] ?_;refine D6 KKh [1,2,9,10,11,12] rfl (λF' h'=>∃a8:Oa,∃c8:Nat,∃r2:Lt,(r2.length<=r.length+1/\r2++f x=E7 sep f (l.take (j+1)))/\F'=[(7,.slice a8 r2.length c8)]/\.pt b9 (.cells (exE x).toArray 29 (0,0))::.row (.slice a8 r2.length c8) 116 4 r2.length (fl B1 r2)::h=h') ?_ ?_;refine jE ?_;refine wD ?_ ?_<;>intro c18
 have hln:(r++[(⟨5,0,sep,0⟩:Tok)]).length=r.length+1:=qh;refine kA2 ?_;refine xf (E1 Et) (H5 _ _ _) ?_;refine xY B3 Eb λb22=>?_;refine xD B3 (Ev.tmp rfl) (Ev.tmp rfl) (show r.length+1=(r++[(⟨5,0,sep,0⟩:Tok)]).length by simp) (D9 (enc:=B1) _ (⟨5,0,sep,0⟩)) λa23 c23=>?_
 refine kA1 ?_;exact WL.nil (mN [(7,.slice a23 (r++[(⟨5,0,sep,0⟩:Tok)]).length c23)] (.pt b9 (.cells (exE x).toArray 29 (0,0))::.row (.slice a23 (r++[(⟨5,0,sep,0⟩:Tok)]).length c23) 116 4 (r++[(⟨5,0,sep,0⟩:Tok)]).length (fl B1 (r++[(⟨5,0,sep,0⟩:Tok)]))::h) ⟨a23,c23,r++[(⟨5,0,sep,0⟩:Tok)],⟨by omega,by rw[htk,a2R sep f _ x (by intro q;have:=congrArg List.length q;rw[qV]at this;simp only[zQ]at this;omega),<-hJ,qj];rfl⟩,rfl,rfl⟩);have hj0:j=0:=by omega
 subst hj0;have hr0:r=[]:=hJ;subst hr0;exact WC.skip (mN [(7,.slice a7 ([]).length c7)] (.pt b9 (.cells (exE x).toArray 29 (0,0))::.row (.slice a7 ([]).length c7) 116 4 ([]).length (fl B1 ([]))::h) ⟨a7,c7,[],⟨by simp,by rw[htk];rfl⟩,rfl,rfl⟩);rintro _ _ ⟨a8,c8,r2,⟨hr2,hJ2⟩,rfl,rfl⟩;refine A9 rfl ?_;refine kA3 ?_;refine F9 (Ev.tmp rfl) (E1 (Ev.tmp rfl)) (ht x hxm _ Sb) Lb ?_;rintro _ _ ⟨a27,c27,k27,e27,rfl,rfl⟩;refine kR a27 λp27 q27 r27=>?_;have hln:(r2++f x).length=r2.length+k27:=by rw[qh,e27]
 refine xD B3 (Ev.tmp rfl) (Ev.tmp rfl) (show r2.length+k27=(r2++f x).length from hln.symm) (a2F (enc:=B1) r2 (f x)).symm λa28 c28=>?_;refine ZZ [1,2] ?_;exact WL.nil (lN (l.length-(j+1)) [(7,.slice a28 (r2++f x).length c28),(12,.int .i64 (j+1))] (.row (.slice a28 (r2++f x).length c28) 116 4 (r2++f x).length (fl B1 (r2++f x))::h) ⟨a28,c28,r2++f x,j+1,⟨⟨by omega,by omega⟩,hJ2⟩,rfl,rfl,rfl⟩);rw[qC (by omega)]at hJ;subst hJ;refine ZZ [0,2,0] ?_;refine wT (.row (.slice a7 (E7 sep f l).length c7) 116 4 (E7 sep f l).length (fl B1 (E7 sep f l))::h) ?_;exact⟨_,_,_,rfl,rfl,rfl⟩
theorem b9o{m:View}(q:FuncId)(f:Fo->Lt)(sep:B)(a:Oa)(k c:Nat)(l:List Fo)(h:Lr)(hs:Rd m h a k c 6 (fl foE l))(hk:k<=3000)(hb:∀x∈l,(f x).length<=3000)
 (ht:∀x∈l,∀h',h.Sublist h'->CT prog q [foV x] h' m (λv _ h2=>OwT h' (f x) v h2)) :
 CT prog 214 [.slice a k c,str sep,.func (.func q) #[] #[]] h m (λv _ h'=>OwT h (E7 sep f l) v h'):=by
 have hlen:=hs.lenF a4F (by decide);subst hlen;refine cB [0,1,2,6,7,8,9,10,11,12,13] func214 λ_=>?_;refine Z1 ?_;refine WL.addNil 116 4 ?_;refine ZZ [1,3,0] ?_;refine lI [1,2,10,11] (λμ F' h'=>∃a7:Oa,∃c7:Nat,∃r:Lt,∃j:Nat,((j<=l.length/\r.length<=j*3001)/\r=E7 sep f (l.take j))/\l.length-j=μ/\F'=[(7,.slice a7 r.length c7),(12,.int .i64 j)]/\.row (.slice a7 r.length c7) 116 4 r.length (fl B1 r)::h=h') (l.length-0) [(7,.slice none ([]).length 0),(12,.int .i64 0)] (.row (.slice none ([]).length 0) 116 4 ([]).length (fl B1 ([]))::h) ⟨none,0,[],0,⟨⟨by omega,by simp⟩,rfl⟩,rfl,rfl,rfl⟩ ?_;rintro _ _ _ ⟨a7,c7,r,j,⟨⟨hj,hr⟩,hJ⟩,rfl,rfl,rfl⟩;refine A9 rfl ?_;refine y4 ?_ ?_<;>intro c13
 obtain⟨x,hx⟩:=A8 (l:=l) (k:=j) (by omega);have hxm:=qe hx;have hfx:=hb x hxm;have htk:=a3u hx;have h3:j*3001<=9000000:=by omega
 refine ZZ [0,3] ?_;refine xW λb9=>?_;refine Z2 ?_;refine kP2 [1,2,7,9,10,11,12,18] ?_;refine D6 KKh [1,2,9,10,11,12] rfl (λF' h'=>∃a8:Oa,∃c8:Nat,∃r2:Lt,(r2.length<=r.length+1/\r2++f x=E7 sep f (l.take (j+1)))/\F'=[(7,.slice a8 r2.length c8)]/\.pt b9 (.cells (foE x).toArray 95 (0,0))::.row (.slice a8 r2.length c8) 116 4 r2.length (fl B1 r2)::h=h') ?_ ?_;refine jE ?_;refine wD ?_ ?_<;>intro c18
 have hln:(r++[(⟨5,0,sep,0⟩:Tok)]).length=r.length+1:=qh;refine kA2 ?_;refine xf (E1 Et) (H5 _ _ _) ?_;refine xY B3 Eb λb22=>?_;refine xD B3 (Ev.tmp rfl) (Ev.tmp rfl) (show r.length+1=(r++[(⟨5,0,sep,0⟩:Tok)]).length by simp) (D9 (enc:=B1) _ (⟨5,0,sep,0⟩)) λa23 c23=>?_
 refine kA1 ?_;exact WL.nil (mN [(7,.slice a23 (r++[(⟨5,0,sep,0⟩:Tok)]).length c23)] (.pt b9 (.cells (foE x).toArray 95 (0,0))::.row (.slice a23 (r++[(⟨5,0,sep,0⟩:Tok)]).length c23) 116 4 (r++[(⟨5,0,sep,0⟩:Tok)]).length (fl B1 (r++[(⟨5,0,sep,0⟩:Tok)]))::h) ⟨a23,c23,r++[(⟨5,0,sep,0⟩:Tok)],⟨by omega,by rw[htk,a2R sep f _ x (by intro q;have:=congrArg List.length q;rw[qV]at this;simp only[zQ]at this;omega),<-hJ,qj];rfl⟩,rfl,rfl⟩);have hj0:j=0:=by omega
 subst hj0;have hr0:r=[]:=hJ;subst hr0;exact WC.skip (mN [(7,.slice a7 ([]).length c7)] (.pt b9 (.cells (foE x).toArray 95 (0,0))::.row (.slice a7 ([]).length c7) 116 4 ([]).length (fl B1 ([]))::h) ⟨a7,c7,[],⟨by simp,by rw[htk];rfl⟩,rfl,rfl⟩);rintro _ _ ⟨a8,c8,r2,⟨hr2,hJ2⟩,rfl,rfl⟩;refine A9 rfl ?_;refine kA3 ?_;refine F9 (Ev.tmp rfl) (E1 (Ev.tmp rfl)) (ht x hxm _ Sb) Lb ?_;rintro _ _ ⟨a27,c27,k27,e27,rfl,rfl⟩;refine kR a27 λp27 q27 r27=>?_;have hln:(r2++f x).length=r2.length+k27:=by rw[qh,e27]
 refine xD B3 (Ev.tmp rfl) (Ev.tmp rfl) (show r2.length+k27=(r2++f x).length from hln.symm) (a2F (enc:=B1) r2 (f x)).symm λa28 c28=>?_;refine ZZ [1,2] ?_;exact WL.nil (lN (l.length-(j+1)) [(7,.slice a28 (r2++f x).length c28),(12,.int .i64 (j+1))] (.row (.slice a28 (r2++f x).length c28) 116 4 (r2++f x).length (fl B1 (r2++f x))::h) ⟨a28,c28,r2++f x,j+1,⟨⟨by omega,by omega⟩,hJ2⟩,rfl,rfl,rfl⟩);rw[qC (by omega)]at hJ;subst hJ;refine ZZ [0,2,0] ?_;refine wT (.row (.slice a7 (E7 sep f l).length c7) 116 4 (E7 sep f l).length (fl B1 (E7 sep f l))::h) ?_;exact⟨_,_,_,rfl,rfl,rfl⟩
theorem b9c{m:View}(q:FuncId)(f:B->Lt)(sep:B)(a:Oa)(k c:Nat)(l:List B)(h:Lr)(hs:Rd m h a k c 1 (fl encB l))(hk:k<=3000)(hb:∀x∈l,(f x).length<=3000)
 (ht:∀x∈l,∀h',h.Sublist h'->CT prog q [str x] h' m (λv _ h2=>OwT h' (f x) v h2)) :
 CT prog 210 [.slice a k c,str sep,.func (.func q) #[] #[]] h m (λv _ h'=>OwT h (E7 sep f l) v h'):=by
 have hlen:=hs.lenF C0 (by decide);subst hlen;refine cB [0,1,2,6,7,8,9,10,11,12,13] func210 λ_=>?_;refine Z1 ?_;refine WL.addNil 116 4 ?_;refine ZZ [1,3,0] ?_;refine lI [1,2,10,11] (λμ F' h'=>∃a7:Oa,∃c7:Nat,∃r:Lt,∃j:Nat,((j<=l.length/\r.length<=j*3001)/\r=E7 sep f (l.take j))/\l.length-j=μ/\F'=[(7,.slice a7 r.length c7),(12,.int .i64 j)]/\.row (.slice a7 r.length c7) 116 4 r.length (fl B1 r)::h=h') (l.length-0) [(7,.slice none ([]).length 0),(12,.int .i64 0)] (.row (.slice none ([]).length 0) 116 4 ([]).length (fl B1 ([]))::h) ⟨none,0,[],0,⟨⟨by omega,by simp⟩,rfl⟩,rfl,rfl,rfl⟩ ?_;rintro _ _ _ ⟨a7,c7,r,j,⟨⟨hj,hr⟩,hJ⟩,rfl,rfl,rfl⟩;refine A9 rfl ?_;refine y4 ?_ ?_<;>intro c13
 obtain⟨x,hx⟩:=A8 (l:=l) (k:=j) (by omega);have hxm:=qe hx;have hfx:=hb x hxm;have htk:=a3u hx;have h3:j*3001<=9000000:=by omega
 refine ZZ [0,5,0] ?_;refine kP2 [1,2,7,9,10,11,12,18] ?_;refine D6 KKh [1,2,9,10,11,12] rfl (λF' h'=>∃a8:Oa,∃c8:Nat,∃r2:Lt,(r2.length<=r.length+1/\r2++f x=E7 sep f (l.take (j+1)))/\F'=[(7,.slice a8 r2.length c8)]/\.row (.slice a8 r2.length c8) 116 4 r2.length (fl B1 r2)::h=h') ?_ ?_;refine jE ?_;refine wD ?_ ?_<;>intro c18
 have hln:(r++[(⟨5,0,sep,0⟩:Tok)]).length=r.length+1:=qh;refine kA2 ?_;refine xf (E1 Et) (H5 _ _ _) ?_;refine xY B3 Eb λb22=>?_;refine xD B3 (Ev.tmp rfl) (Ev.tmp rfl) (show r.length+1=(r++[(⟨5,0,sep,0⟩:Tok)]).length by simp) (D9 (enc:=B1) _ (⟨5,0,sep,0⟩)) λa23 c23=>?_
 refine kA1 ?_;exact WL.nil (mN [(7,.slice a23 (r++[(⟨5,0,sep,0⟩:Tok)]).length c23)] (.row (.slice a23 (r++[(⟨5,0,sep,0⟩:Tok)]).length c23) 116 4 (r++[(⟨5,0,sep,0⟩:Tok)]).length (fl B1 (r++[(⟨5,0,sep,0⟩:Tok)]))::h) ⟨a23,c23,r++[(⟨5,0,sep,0⟩:Tok)],⟨by omega,by rw[htk,a2R sep f _ x (by intro q;have:=congrArg List.length q;rw[qV]at this;simp only[zQ]at this;omega),<-hJ,qj];rfl⟩,rfl,rfl⟩);have hj0:j=0:=by omega
 subst hj0;have hr0:r=[]:=hJ;subst hr0;exact WC.skip (mN [(7,.slice a7 ([]).length c7)] (.row (.slice a7 ([]).length c7) 116 4 ([]).length (fl B1 ([]))::h) ⟨a7,c7,[],⟨by simp,by rw[htk];rfl⟩,rfl,rfl⟩);rintro _ _ ⟨a8,c8,r2,⟨hr2,hJ2⟩,rfl,rfl⟩;refine A9 rfl ?_;refine kA3 ?_;refine F9 (Ev.tmp rfl) (E1 (Ev.tmp rfl)) (ht x hxm _ Sb) Lb ?_;rintro _ _ ⟨a27,c27,k27,e27,rfl,rfl⟩;refine kR a27 λp27 q27 r27=>?_;have hln:(r2++f x).length=r2.length+k27:=by rw[qh,e27]
 refine xD B3 (Ev.tmp rfl) (Ev.tmp rfl) (show r2.length+k27=(r2++f x).length from hln.symm) (a2F (enc:=B1) r2 (f x)).symm λa28 c28=>?_;refine ZZ [1,2] ?_;exact WL.nil (lN (l.length-(j+1)) [(7,.slice a28 (r2++f x).length c28),(12,.int .i64 (j+1))] (.row (.slice a28 (r2++f x).length c28) 116 4 (r2++f x).length (fl B1 (r2++f x))::h) ⟨a28,c28,r2++f x,j+1,⟨⟨by omega,by omega⟩,hJ2⟩,rfl,rfl,rfl⟩);rw[qC (by omega)]at hJ;subst hJ;refine ZZ [0,2,0] ?_;refine wT (.row (.slice a7 (E7 sep f l).length c7) 116 4 (E7 sep f l).length (fl B1 (E7 sep f l))::h) ?_;exact⟨_,_,_,rfl,rfl,rfl⟩
theorem b1Y{m:View}(q:FuncId)(f:Int->Lt)(sep:B)(a:Oa)(k c:Nat)(l:List Int)(h:Lr)(hs:Rd m h a k c 1 (fl H3 l))(hk:k<=3000)(hb:∀x∈l,(f x).length<=3000)
 (ht:∀x∈l,∀h',h.Sublist h'->CT prog q [.int .u8 x] h' m (λv _ h2=>OwT h' (f x) v h2)) :
 CT prog 216 [.slice a k c,str sep,.func (.func q) #[] #[]] h m (λv _ h'=>OwT h (E7 sep f l) v h'):=by
 have hlen:=hs.lenF E5 (by decide);subst hlen;refine cB [0,1,2,6,7,8,9,10,11,12,13] func216 λ_=>?_;refine Z1 ?_;refine WL.addNil 116 4 ?_;refine ZZ [1,3,0] ?_;refine lI [1,2,10,11] (λμ F' h'=>∃a7:Oa,∃c7:Nat,∃r:Lt,∃j:Nat,((j<=l.length/\r.length<=j*3001)/\r=E7 sep f (l.take j))/\l.length-j=μ/\F'=[(7,.slice a7 r.length c7),(12,.int .i64 j)]/\.row (.slice a7 r.length c7) 116 4 r.length (fl B1 r)::h=h') (l.length-0) [(7,.slice none ([]).length 0),(12,.int .i64 0)] (.row (.slice none ([]).length 0) 116 4 ([]).length (fl B1 ([]))::h) ⟨none,0,[],0,⟨⟨by omega,by simp⟩,rfl⟩,rfl,rfl,rfl⟩ ?_;rintro _ _ _ ⟨a7,c7,r,j,⟨⟨hj,hr⟩,hJ⟩,rfl,rfl,rfl⟩;refine A9 rfl ?_;refine y4 ?_ ?_<;>intro c13
 obtain⟨x,hx⟩:=A8 (l:=l) (k:=j) (by omega);have hxm:=qe hx;have hfx:=hb x hxm;have htk:=a3u hx;have h3:j*3001<=9000000:=by omega
 refine ZZ [0,5,0] ?_;refine kP2 [1,2,7,9,10,11,12,18] ?_;refine D6 KKh [1,2,9,10,11,12] rfl (λF' h'=>∃a8:Oa,∃c8:Nat,∃r2:Lt,(r2.length<=r.length+1/\r2++f x=E7 sep f (l.take (j+1)))/\F'=[(7,.slice a8 r2.length c8)]/\.row (.slice a8 r2.length c8) 116 4 r2.length (fl B1 r2)::h=h') ?_ ?_;refine jE ?_;refine wD ?_ ?_<;>intro c18
 have hln:(r++[(⟨5,0,sep,0⟩:Tok)]).length=r.length+1:=qh;refine kA2 ?_;refine xf (E1 Et) (H5 _ _ _) ?_;refine xY B3 Eb λb22=>?_;refine xD B3 (Ev.tmp rfl) (Ev.tmp rfl) (show r.length+1=(r++[(⟨5,0,sep,0⟩:Tok)]).length by simp) (D9 (enc:=B1) _ (⟨5,0,sep,0⟩)) λa23 c23=>?_
 refine kA1 ?_;exact WL.nil (mN [(7,.slice a23 (r++[(⟨5,0,sep,0⟩:Tok)]).length c23)] (.row (.slice a23 (r++[(⟨5,0,sep,0⟩:Tok)]).length c23) 116 4 (r++[(⟨5,0,sep,0⟩:Tok)]).length (fl B1 (r++[(⟨5,0,sep,0⟩:Tok)]))::h) ⟨a23,c23,r++[(⟨5,0,sep,0⟩:Tok)],⟨by omega,by rw[htk,a2R sep f _ x (by intro q;have:=congrArg List.length q;rw[qV]at this;simp only[zQ]at this;omega),<-hJ,qj];rfl⟩,rfl,rfl⟩);have hj0:j=0:=by omega
 subst hj0;have hr0:r=[]:=hJ;subst hr0;exact WC.skip (mN [(7,.slice a7 ([]).length c7)] (.row (.slice a7 ([]).length c7) 116 4 ([]).length (fl B1 ([]))::h) ⟨a7,c7,[],⟨by simp,by rw[htk];rfl⟩,rfl,rfl⟩);rintro _ _ ⟨a8,c8,r2,⟨hr2,hJ2⟩,rfl,rfl⟩;refine A9 rfl ?_;refine kA3 ?_;refine F9 (Ev.tmp rfl) (E1 (Ev.tmp rfl)) (ht x hxm _ Sb) Lb ?_;rintro _ _ ⟨a27,c27,k27,e27,rfl,rfl⟩;refine kR a27 λp27 q27 r27=>?_;have hln:(r2++f x).length=r2.length+k27:=by rw[qh,e27]
 refine xD B3 (Ev.tmp rfl) (Ev.tmp rfl) (show r2.length+k27=(r2++f x).length from hln.symm) (a2F (enc:=B1) r2 (f x)).symm λa28 c28=>?_;refine ZZ [1,2] ?_;exact WL.nil (lN (l.length-(j+1)) [(7,.slice a28 (r2++f x).length c28),(12,.int .i64 (j+1))] (.row (.slice a28 (r2++f x).length c28) 116 4 (r2++f x).length (fl B1 (r2++f x))::h) ⟨a28,c28,r2++f x,j+1,⟨⟨by omega,by omega⟩,hJ2⟩,rfl,rfl,rfl⟩);rw[qC (by omega)]at hJ;subst hJ;refine ZZ [0,2,0] ?_;refine wT (.row (.slice a7 (E7 sep f l).length c7) 116 4 (E7 sep f l).length (fl B1 (E7 sep f l))::h) ?_;exact⟨_,_,_,rfl,rfl,rfl⟩
theorem a6W{α:Type}{p:α->Prop}{x:α}(h:p x):∀y∈[x],p y:=λ_ hy=>(qy.1 hy)▸h
theorem _root_.Go.Pc.EOk.fr{m:View}{h:Lr}{e:Ex}(q:EOk m h e)(fr:Lr):EOk m (fr++h) e:=q.mono (qc fr h)
theorem I0{α:Type}{p:α->Prop}:∀y∈([]:List α),p y:=λ_ hx=>(qn hx).elim
theorem B7{α:Type}{p:α->Prop}{x:α}{l:List α}(h:p x)(r:∀y∈l,p y):∀y∈x::l,p y:=λy hy=>by
 rcases qQ.1 hy with rfl|hy
 ·exact h
 ·exact r y hy
theorem b4k{m:View}(hg:Glob m)(s:B)(hw:s.length<=1000)(a:Oa)(k c:Nat)(l:Lt)(h:Lr)(hs:Rd m h a k c 4 (fl B1 l))(hk:k<=9000000):CT prog 218 [str s,.slice a k c] h m (λv _ h'=>OwT h (a3i s l) v h'):=by
 have hlen:=hs.lenF A7 (by decide);subst hlen;refine cB [0,1,4,7] func218 λ_=>?_;refine WL.addNil 116 4 ?_;refine ZZ [1,3,0] ?_;refine wE ?_ ?_<;>intro c7
 have e7:a3i s l=[]:=by unfold a3i;rw[if_pos (by omega)]
 refine j0 ?_;refine WL.addNil 116 4 ?_;refine Z1 ?_;refine wT (.row (.slice none 0 0) 116 4 0 (fl B1 [])::h) ?_;rw[e7];exact⟨none,0,0,rfl,rfl,rfl⟩
 have e7:a3i s l=A6 s::l:=by unfold a3i;rw[if_neg (by omega)]
 have hln:(A6 s::l).length=l.length+1:=rfl;refine ZZ [0,1] ?_;refine xY M3 Eb λb9=>?_;refine xJ (E1 Et) (D1 hg _ 1 _ [s] _ Rr (by decide) (a6W (qr hw (by decide)))) λa10 c10=>?_
 refine kA1 ?_;refine xD B3 (Ev.tmp rfl) (Ev.tmp rfl) (show 1+l.length=(A6 s::l).length by rw[hln,Nat.add_comm]) (a2F (enc:=B1) [A6 s] l).symm λa12 c12=>?_;refine Z1 ?_;refine wT (.row (.slice a12 (A6 s::l).length c12) 116 4 (A6 s::l).length (fl B1 (A6 s::l))::h) ?_;rw[e7];exact⟨_,_,_,rfl,rfl,rfl⟩
theorem c5d(n:Nat)(h:Lr)(m:View)(hn:n<=300000):CT prog 284 [.slice none 0 0,.int .i64 n] h m (λv _ h'=>OwT h [] v h'):=by
 refine cB [0,1,4,6,16] func284 λ_=>?_;refine ZZ [1,2,0] ?_;refine wD ?_ ?_<;>intro c6
 omega;refine ZZ [0,2] ?_;refine xG (b4D a2O Et) ?_;refine kA2 ?_;refine xG (P3 Et Et (by omega)) ?_;refine xG (P3 Et Et (by omega)) ?_;refine ZZ [1,2,0] ?_;refine wD ?_ ?_<;>intro c16
 have hn0:0<n:=by omega
 refine kA2 ?_;refine xG (b4D a2O Et) ?_;refine xG (a7P B3.und B3.size Et Et rfl (by omega)) ?_;refine kA1 ?_;refine c0U B3 uu3 Et Et (q:=n) (by omega) (by omega) (by omega) (by omega) Lb λb22 c22 hq22 hc22=>?_;refine kA2 ?_;refine xG (a7P B3.und B3.size Et Et rfl (by omega)) ?_;refine ZZ [1,2,0] ?_;refine wT (.row (.slice (some ⟨b22,0,none⟩) 0 c22) 116 4 0 (fl B1 [])::h) ?_;exact⟨_,_,0,rfl,rfl,by rw[c8Z _ _ _ (.inr ⟨_,_,rfl⟩)]⟩;refine WC.addNil 116 4 ?_;refine ZZ [0,2,0] ?_;refine wT (.row (.slice none 0 0) 116 4 0 (fl B1 [])::h) ?_;exact⟨_,_,0,rfl,rfl,rfl⟩
def ptE(s:Sli Tok):Lv:=[.slice s.a s.l.length s.c]
theorem b7o(s:Sli Tok):(ptE s).length=1:=rfl
@[reducible,instance]def iptE_len:=Go.Eng.Ln.mk b7o (by decide)
theorem a5R(a:Oa)(k c:Nat)(ps:List (Sli Tok))(h:Lr)(m:View)(hs:Rd m h a k c 1 (fl ptE ps))(hp:∀p∈ps,Rd m h p.a p.l.length p.c 4 (fl B1 p.l))(hk:k<=10)(hb:∀p∈ps,p.l.length<=30000) :
 CT prog 223 [.slice a k c] h m (λv _ h'=>OwT h (ps.flatMap (·.l)) v h'):=by
 have hlen:=hs.lenF b7o (by decide);subst hlen;refine cB [0,2,3,5,6,8,9,10,11,12,20,25,26,27,28] func223 λ_=>?_;refine ZZ [1,1,3,0] ?_;refine lI [0,9,10] (λμ F' h'=>∃s:Nat,∃j:Nat,(j<=ps.length/\s<=j*30000)/\ps.length-j=μ/\F'=[(3,.int .i64 s),(11,.int .i64 j)]/\h=h') (ps.length-0) [(3,.int .i64 0),(11,.int .i64 0)] h ⟨0,0,⟨by omega,by omega⟩,rfl,rfl,rfl⟩ ?_;rintro _ _ _ ⟨s,j,⟨hj,hs1⟩,rfl,rfl,rfl⟩;refine A9 rfl ?_;refine y4 ?_ ?_<;>intro c12
 obtain⟨p,hx⟩:=A8 (l:=ps) (k:=j) (by omega);have hbp:=hb p (qe hx);refine ZZ [0,3,3] ?_;refine xG (K3 Et Et (by omega)) ?_;refine WL.val (v':=.int .i64 ((s+p.l.length:Nat):Int)) (congrArg (Value.int .i64) (by omega)) ?_;refine ZZ [1,2,0] ?_;refine wD ?_ ?_<;>intro c20
 omega;refine ZZ [0,2] ?_;exact WL.nil (lN (ps.length-(j+1)) [(3,.int .i64 (s+p.l.length)),(11,.int .i64 (j+1))] h ⟨s+p.l.length,j+1,⟨by omega,by omega⟩,rfl,rfl,rfl⟩);refine ZZ [0,1] ?_;refine xJ (E2 Ek Et) (c5d s _ _ (by omega)) λa24 c24=>?_;refine ZZ [1,3,0] ?_;refine lI [25,26] (λμ F' h'=>∃a6:Oa,∃c6:Nat,∃r:Lt,∃j:Nat,((j<=ps.length/\r.length<=j*30000)/\r=(ps.take j).flatMap (·.l))/\ps.length-j=μ/\F'=[(6,.slice a6 r.length c6),(27,.int .i64 j)]/\.row (.slice a6 r.length c6) 116 4 r.length (fl B1 r)::h=h') (ps.length-0) [(6,.slice a24 ([]).length c24),(27,.int .i64 0)] (.row (.slice a24 ([]).length c24) 116 4 ([]).length (fl B1 ([]))::h) ⟨a24,c24,[],0,⟨⟨by omega,by simp⟩,rfl⟩,rfl,rfl,rfl⟩ ?_;rintro _ _ _ ⟨a6,c6,r,j,⟨⟨hj,hr⟩,hJ⟩,rfl,rfl,rfl⟩;refine A9 rfl ?_;refine y4 ?_ ?_<;>intro c28
 obtain⟨p,hx⟩:=A8 (l:=ps) (k:=j) (by omega);have hbp:=hb p (qe hx);have hpr:=hp p (qe hx);have htk:(ps.take (j+1)).flatMap (·.l)=(ps.take j).flatMap (·.l)++p.l:=by rw[a3u hx,List.flatMap_append];simp
 refine ZZ [0,3,2] ?_;have hln:(r++p.l).length=r.length+p.l.length:=qh;refine xD B3 (Ev.tmp rfl) (Ev.tmp rfl) (show r.length+p.l.length=(r++p.l).length from hln.symm) (a2F (enc:=B1) r p.l).symm λa33 c33=>?_;refine ZZ [1,2] ?_;exact WL.nil (lN (ps.length-(j+1)) [(6,.slice a33 (r++p.l).length c33),(27,.int .i64 (j+1))] (.row (.slice a33 (r++p.l).length c33) 116 4 (r++p.l).length (fl B1 (r++p.l))::h) ⟨a33,c33,r++p.l,j+1,⟨⟨by omega,by omega⟩,by rw[htk,hJ]⟩,rfl,rfl,rfl⟩);rw[qC (by omega)]at hJ;subst hJ;refine ZZ [0,2,0] ?_;refine wT (.row (.slice a6 (ps.flatMap (·.l)).length c6) 116 4 (ps.flatMap (·.l)).length (fl B1 (ps.flatMap (·.l)))::h) ?_;exact⟨_,_,_,rfl,rfl,rfl⟩
end
section
open Go.Eng Go.Pc Go.Sx Go
open Go.Xp hiding B E8
open Go.Ty (Ty Vr Tok eqT tyV E9 B1 A7 I6 zeroK H3 E5 encV D8)
open Go.Lx (encB C0 textO)
open Go.Ly (Rw K7 C6)
theorem a2h{d:Prop}{m:View}{R:Value->View->Lr->Prop}{c:List PanicEntry}{w:World}(h:d/\RQ m R (.panicked c) w):False:=by obtain⟨_,_,_,_,e,_⟩:=h;cases e
theorem M8(e:Ex):(G3 e).length<=2000:=by
 unfold G3;split
 ·rename_i hm
  obtain⟨hF,hc⟩:=b3H hm;have:=a5Z e hF;omega
 ·exact qi _
theorem a3H(t:Ty):(M7 t).length<=10:=by
 unfold M7 Go.Ty.tokens;split
 ·unfold Go.Ty.toks
  have h1:=Go.Ty.dimT_le t;have h2:=Go.Ty.chanT_le t;simp only[qh,qO];omega
 ·exact qi _
theorem c4s{m:View}(hg:Glob m)(r:Rp)(h:Lr)(hr:Rs m h r):CT prog 219 [rpV r] h m (λv _ h'=>OwT h (a2E r) v h'):=by
 have hB:=hr.b;have hC:=hr.c;have t1:=M8 r.base;have t2:=M8 r.count;refine cB [1,2,5] func219 λ_=>?_;refine xX λb1=>?_
 refine ZZ [1,2] ?_;refine xG (H0 Et Ek) ?_;refine y0 ?_ ?_<;>intro c5
 have c5:r.name=[]:=by simpa using c5
 have e5:a2E r=[]:=by unfold a2E;rw[if_pos c5]
 refine WC.addNil 116 4 ?_;refine Z1 ?_;refine wT (.row (.slice none 0 0) 116 4 0 (fl B1 [])::h) ?_;rw[e5];exact⟨none,0,0,rfl,rfl,rfl⟩
 have c5:¬(r.name=[]):=by simpa using c5
 have e5:a2E r=[R2 r.name]++([A6 [61]]++(G3 r.base++([A6 [70,79,82]]++(G3 r.count++[])))):=by unfold a2E;rw[if_neg c5];simp only[qj,zF]
 refine Z0 ?_;refine a0X [2,3,4,7,8,9,4096] (.op 0 (.op 1 (.op 5 (.op 6 (.op 10 (.op 11 (.op 2 (.op 3 (.op 4 (.op 7 (.op 8 (.op 9 .nil)))))))))))) [12,13,14,15] _ [] C9 (λ_ _ _ h=>a2h h) [] (by kernel_rfl) ?_;refine kA6 ?_;refine H2 rfl rfl Ef (E1 Et) (λfr=>a2W r.name _ _) Lb λa8 c8=>?_;refine sB rfl M3 λb9=>?_
 refine H2 rfl rfl Ef (E1 (Ev.tmp rfl)) (λfr=>D1 hg _ 1 _ [[61]] _ (Rd.fr Rr fr) (by decide) (a6W (by decide))) Lb λa10 c10=>?_;refine H2 rfl rfl Ef (E1 Et) (λfr=>K8 hg r.base _ ((hB.mono Sb).fr fr)) Lb λa13 c13=>?_
 refine sB rfl M3 λb14=>?_;refine H2 rfl rfl Ef (E1 (Ev.tmp rfl)) (λfr=>D1 hg _ 1 _ [[70,79,82]] _ (Rd.fr Rr fr) (by decide) (a6W (by decide))) Lb λa15 c15=>?_
 refine nS ?_;refine xJ (E1 Et) (K8 hg r.count _ (hC.mono Sb)) λa18 c18=>?_;refine xY N0 Eb λb19=>?_
 refine kR a8 λp8 q8 r8=>?_;refine kR a10 λp10 q10 r10=>?_
 refine kR a13 λp13 q13 r13=>?_;refine kR a15 λp15 q15 r15=>?_
 refine kR a18 λp18 q18 r18=>?_;refine xJ (E1 Et) (a5R _ 5 _ [⟨a8,c8,[R2 r.name]⟩,⟨a10,c10,[A6 [61]]⟩,⟨a13,c13,G3 r.base⟩,⟨a15,c15,[A6 [70,79,82]]⟩,⟨a18,c18,G3 r.count⟩] _ _ (Rd.ofPt rfl (by decide) Me) (B7 (iR r8 p8 q8) (B7 (iR r10 p10 q10) (B7 (iR r13 p13 q13) (B7 (iR r15 p15 q15) (B7 (iR r18 p18 q18) I0))))) (by decide) (B7 (by simp) (B7 (by simp) (B7 (by simp;omega) (B7 (by simp) (B7 (by simp;omega) I0)))))) λa20 c20=>?_
 refine Z1 ?_;refine wT (.row (.slice a20 _ c20) 116 4 _ (fl B1 _)::h) ?_;exact⟨_,_,_,congrArg List.length e5.symm,rfl,by rw[e5];rfl⟩
theorem b7c{m:View}(hg:Glob m)(f:Fo)(h:Lr)(hw:FoW f):CT prog 215 [foV f] h m (λv _ h'=>OwT h (U2 f) v h'):=by
 have t1:=a3H f.ty;have hp2:f.ty.proto.length<=9223372036854775807:=qr hw.t.p (by decide);refine cB [1,2,3,5] func215 λ_=>?_;refine xX λb1=>?_
 refine ZZ [1,1,2,0] ?_;refine wc ?_ ?_<;>intro c5
 have e5:U2 f=[A6 [86,65,76]]++(M7 f.ty++([R2 f.name]++[])):=by unfold U2;rw[if_pos c5];simp only[qj,zF]
 refine j0 ?_;refine xY M3 Eb λb6=>?_;refine xJ (E1 Et) (D1 hg _ 1 _ [[86,65,76]] _ Rr (by decide) (a6W (by decide))) λa7 c7=>?_
 refine Z1 ?_;refine F4 [3] (.op 0 (.op 1 (.op 2 (.op 4 (.op 5 (.op 3 .nil)))))) [6,7,8,9] _ [] C9 (λ_ _ _ _ _ h=>h) [0] (by kernel_rfl) ?_;refine kA5 ?_;refine H2 rfl rfl Ef (E1 Et) (λfr=>a2o hg f.ty _ hp2) Lb λa11 c11=>?_;refine nS ?_;refine xJ (E1 Et) (a2W f.name _ _) λa14 c14=>?_
 refine xY N0 Eb λb15=>?_;refine kR a7 λp7 q7 r7=>?_
 refine kR a11 λp11 q11 r11=>?_;refine kR a14 λp14 q14 r14=>?_
 refine xJ (E1 Et) (a5R _ 3 _ [⟨a7,c7,[A6 [86,65,76]]⟩,⟨a11,c11,M7 f.ty⟩,⟨a14,c14,[R2 f.name]⟩] _ _ (Rd.ofPt rfl (by decide) Me) (B7 (iR r7 p7 q7) (B7 (iR r11 p11 q11) (B7 (iR r14 p14 q14) I0))) (by decide) (B7 (by simp) (B7 (by simp;omega) (B7 (by simp) I0)))) λa16 c16=>?_;refine Z1 ?_;refine wT (.row (.slice a16 _ c16) 116 4 _ (fl B1 _)::h) ?_;exact⟨_,_,_,congrArg List.length e5.symm,rfl,by rw[e5];rfl⟩;have e5:U2 f=[]++(M7 f.ty++([R2 f.name]++[])):=by unfold U2;rw[if_neg (E6 c5)];simp only[qj,zF]
 refine Z0 ?_;refine F4 [3] (.op 0 (.op 1 (.op 2 (.op 4 (.op 5 (.op 3 .nil)))))) [6,7,8,9] _ [] C9 (λ_ _ _ _ _ h=>h) [0] (by kernel_rfl) ?_;refine kA5 ?_;refine H2 rfl rfl Ef (E1 Et) (λfr=>a2o hg f.ty _ hp2) Lb λa11 c11=>?_;refine nS ?_;refine xJ (E1 Et) (a2W f.name _ _) λa14 c14=>?_
 refine xY N0 Eb λb15=>?_;refine kR a11 λp11 q11 r11=>?_
 refine kR a14 λp14 q14 r14=>?_;refine xJ (E1 Et) (a5R _ 3 _ [⟨none,0,[]⟩,⟨a11,c11,M7 f.ty⟩,⟨a14,c14,[R2 f.name]⟩] _ _ (Rd.ofPt rfl (by decide) Me) (B7 (Rd.nilF B1 4 _ _) (B7 (iR r11 p11 q11) (B7 (iR r14 p14 q14) I0))) (by decide) (B7 (by simp) (B7 (by simp;omega) (B7 (by simp) I0)))) λa16 c16=>?_
 refine Z1 ?_;refine wT (.row (.slice a16 _ c16) 116 4 _ (fl B1 _)::h) ?_;exact⟨_,_,_,congrArg List.length e5.symm,rfl,by rw[e5];rfl⟩
abbrev prB(b:Nat)(a:Oa)(c:Nat)(st:Ps):Res:=.pt b (.cells [.slice a st.1.length c,.bool st.2].toArray 150 (0,0))
abbrev prW(a:Oa)(c:Nat)(st:Ps):Res:=.row (.slice a st.1.length c) 52 3 st.1.length (fl K7 st.1)
theorem W8{st:Ps}{x:Ln}(h:st.1.length<=2049):(D5 st x).1.length<=2049:=by
 unfold D5;split
 ·exact h
 ·rename_i q
  simp only[qh,qO];omega
theorem a0O:∀(l:List Ln){st:Ps},st.1.length<=2049->(B8 st l).1.length<=2049
 | [],_,h=>h
 |x::l,_,h=>a0O l (W8 (x:=x) h)
abbrev PrR(b:Nat)(h:Lr)(st:Ps)(h':Lr):Prop:=∃a c,h'=prB b a c st::prW a c st::h
theorem G9{m:View}(hg:Glob m)(hp:Pow m)(b:Nat)(a:Oa)(c:Nat)(st:Ps)(d:Int)(pa:Oa)(pk pc:Nat)(ps:List (Sli Tok))(toks:Lt)(h:Lr)(hs:Rd m h pa pk pc 1 (fl ptE ps))(hps:∀p∈ps,Rd m h p.a p.l.length p.c 4 (fl B1 p.l))(hk:pk<=10)
 (hb:∀p∈ps,p.l.length<=30000) (he:ps.flatMap (·.l)=toks) (hT:TkL toks) (hn:st.1.length<=2049) :
 CT prog 145 [ptV b,.int .i64 d,.slice pa pk pc] (prB b a c st::prW a c st::h) m (λ_ _ h'=>PrR b h (D5 st (d,toks)) h'):=by
 subst he;refine cB [0,1,6,7,23] func145 λ_=>?_;refine kA1 ?_;refine xJ (E1 Et) (a5R pa pk pc ps _ _ (hs.mono Vl Sb) (λp hp=>(hps p hp).mono Vl Sb) hk hb) λa10 c10=>?_
 refine kR a10 λp10 q10 r10=>?_;refine xf (E1 Et) (c0c a10 _ c10 _ _ m hg hp (iR r10 p10 q10) hT) ?_;refine ZZ [5,4] ?_;refine zG (λhc=>PO.nilCheck (Eg hc)) ?_;refine Z5 ?_;refine wc ?_ ?_<;>intro c23
 have e23:D5 st (d,ps.flatMap (·.l))=(st.1,true):=by unfold D5;rw[if_pos];simp only[qv,bne_iff_ne,ne_eq,qw]at c23;exact c23.imp id λq=>by omega
 refine Z4 ?_;refine WC.ret (a6p (h':=prB b a c (st.1,true)::prW a c st::h) (.inl rfl) rfl  Vl Sb ?_);exact⟨a,c,by rw[e23]⟩;have e23:D5 st (d,ps.flatMap (·.l))=(st.1++[⟨st.1.length+1,d,(textO (ps.flatMap (·.l))).1⟩],st.2):=by
  unfold D5;rw[if_neg];intro q;have:(((textO (ps.flatMap (·.l))).2 !=0)||decide ((st.1.length:Int)>2048))=true:=by simp only[qv,bne_iff_ne,ne_eq,qw];exact q.imp id λq=>by omega
  rw[this]at c23;cases c23
 have hln:(st.1++[(⟨st.1.length+1,d,(textO (ps.flatMap (·.l))).1⟩:Rw)]).length=st.1.length+1:=qh;refine Z0 ?_;refine F4 [14] (.op 0 (.op 1 (.op 2 (.op 3 (.op 4 (.op 5 (.op 6 (.op 7 (.op 8 (.op 9 (.op 10 (.op 11 (.op 12 (.op 13 (.op 14 .nil))))))))))))))) [15,16,17,18] _ [] C9 (λ_ _ _ _ _ h=>h) [0] (by kernel_rfl) ?_;refine kA9 ?_;refine yG rfl (R8 a6b Et) ?_;refine yG rfl (K3 Et Ek (by omega)) ?_;refine kA2 ?_;refine yG rfl (PO.build a8Y rfl rfl rfl Eb (by exact rfl)) ?_;refine sB rfl V1 λb41=>?_;refine nS ?_;refine xD V1 (Ev.tmp rfl) (Ev.tmp rfl) (show st.1.length+1=(st.1++[(⟨st.1.length+1,d,(textO (ps.flatMap (·.l))).1⟩:Rw)]).length by simp) (D9 (enc:=K7) _ (⟨st.1.length+1,d,(textO (ps.flatMap (·.l))).1⟩)) λa42 c42=>?_
 refine kA3 ?_;refine WL.nil (w0 (prB b a42 c42 (st.1++[⟨st.1.length+1,d,(textO (ps.flatMap (·.l))).1⟩],st.2)::prW a42 c42 (st.1++[⟨st.1.length+1,d,(textO (ps.flatMap (·.l))).1⟩],st.2)::h) ?_);exact⟨a42,c42,by rw[e23]⟩
theorem a3F{α:Type}(sep:B)(f:α->Lt)(n:Nat):∀(l:List α),(∀x∈l,(f x).length<=n)->(E7 sep f l).length<=l.length*(n+1)
 | [],_=>qi _
 | [x],h=>by
  have:=h x (qm _);show(f x).length<=1*(n+1);omega
 |x::y::r,h=>by
  have h1:=h x (qm _);have h2:=a3F sep f n (y::r) λz hz=>h z (qD _ hz)
  show(f x++⟨5,0,sep,0⟩::E7 sep f (y::r)).length<=_;rw[qh,qJ];simp only[qJ]at h2⊢;rw[zv (r.length+1) 1 (n+1)];omega
theorem a1d(sep:B)(l:List Ex)(h:l.length<=9):(E7 sep G3 l).length<=30000:=by
 have h1:=a3F sep G3 2000 l λx _=>M8 x
 have h2:l.length*2001<=9*2001:=zw _ h;omega
theorem b0J(r:Rp):(a2E r).length<=30000:=by
 unfold a2E;split
 ·exact qi _
 ·have h1:=M8 r.base
  have h2:=M8 r.count;simp only[qh,qO];omega
theorem a2m{m:View}(hg:Glob m)(b4:Nat)(p:Pr)(sep:B)(h:Lr)(hb:Res.pt b4 (.cells (prE p).toArray 46 (0,0))∈h)(hL:LOk m h p.ex)(hE:p.ex.l.length<=9) :
 CT prog 220 [str sep,ptV b4] h m (λv _ h'=>OwT h (E7 sep G3 p.ex.l) v h'):=by
 refine cB [0,1,3] func220 λ_=>?_;refine ZZ [1,1] ?_;refine xG (C8 c9F rfl Et hb rfl) ?_;refine kA1 ?_;refine xJ (E3 Et Et Ef) (a3P 213 G3 sep _ _ _ p.ex.l _ hL.rd (by omega) (λx _=>qr (M8 x) (by decide)) (λx hx h2 hh=>K8 hg x h2 ((hL.ok x hx).mono hh))) λa7 c7=>?_
 refine Z1 ?_;refine wT (.row (.slice a7 (E7 sep G3 p.ex.l).length c7) 116 4 (E7 sep G3 p.ex.l).length (fl B1 (E7 sep G3 p.ex.l))::h) ?_;exact⟨_,_,_,rfl,rfl,rfl⟩
abbrev fT(p:Pr):Lt:=F6 p.k p.name p.ch p.tg.l p.ex.l p.rep
theorem c1s{m:View}(hg:Glob m)(hp:Pow m)(p:Pr)(b:Nat)(a:Oa)(c:Nat)(st:Ps)(d:Int)(h:Lr)(hO:P1 m h p)(hTg:p.tg.l.length<=9)(hEx:p.ex.l.length<=9)(hk:1<=p.k/\p.k<=17)(hT:TkL (fT p))(hn:st.1.length<=2049) :
 CT prog 144 [ptV b,prV p,.int .i64 d] (prB b a c st::prW a c st::h) m (λ_ _ h'=>PrR b h (D5 st (d,fT p)) h'):=by
 refine cB [0,2,4,6,7,13,14,22,30,43,57,70,83,94,103,112,120,128,137,146,155,165,175] func144 λ_=>?_;refine xX λb4=>?_
 refine ZZ [0,2] ?_;refine xJ (E1 Et) (c4s hg p.rep _ (Rs.mono (h:=h) ⟨hO.rn,hO.rb,hO.rc⟩ Sb)) λa10 c10=>?_;refine Z1 ?_;refine xG (PO.makeFunc Evs.nil (E1 Et)) ?_;refine ZZ [1,2,2,0] ?_;refine wE ?_ ?_<;>intro c14
 have e9:fT p=_:=F6.eq_1 ..;rw[if_pos c14]at e9;refine kA2 ?_;refine xY M3 Eb λb18=>?_
 refine xJ (E1 Et) (D1 hg _ 1 _ [[83,75,73,80]] _ Rr (by decide) (by decide)) λa19 c19=>?_;refine xY N0 Eb λb20=>?_
 refine kR a19 λp19 q19 r19=>?_;refine pP (prB b a c st) (prW a c st) ?_;refine xg (E3 Et Et Et) (G9 hg hp b a c st d _ 1 _ [⟨a19,c19,[A6 [83,75,73,80]]⟩] (fT p) _ (Rd.ofPt rfl (by decide) Me) (B7 (iR r19 p19 q19) I0) (by decide) (B7 (by simp) I0) (by rw[e9];simp) (hT) hn) ?_;rintro _ _ ⟨a21,c21,rfl⟩;refine WL.nil (w0 (prB b a21 c21 (D5 st (d,fT p))::prW a21 c21 (D5 st (d,fT p))::h) ?_);exact⟨a21,c21,rfl⟩;refine y3 ?_ ?_<;>intro c22
 have e9:fT p=_:=F6.eq_1 ..;rw[if_neg c14,if_pos c22]at e9;refine kA2 ?_;refine xY M3 Eb λb26=>?_
 refine xJ (E1 Et) (D1 hg _ 1 _ [[83,84,79,80]] _ Rr (by decide) (by decide)) λa27 c27=>?_;refine xY N0 Eb λb28=>?_
 refine kR a27 λp27 q27 r27=>?_;refine pP (prB b a c st) (prW a c st) ?_;refine xg (E3 Et Et Et) (G9 hg hp b a c st d _ 1 _ [⟨a27,c27,[A6 [83,84,79,80]]⟩] (fT p) _ (Rd.ofPt rfl (by decide) Me) (B7 (iR r27 p27 q27) I0) (by decide) (B7 (by simp) I0) (by rw[e9];simp) (hT) hn) ?_;rintro _ _ ⟨a29,c29,rfl⟩;refine WL.nil (w0 (prB b a29 c29 (D5 st (d,fT p))::prW a29 c29 (D5 st (d,fT p))::h) ?_);exact⟨a29,c29,rfl⟩;refine y3 ?_ ?_<;>intro c30
 have e9:fT p=_:=F6.eq_1 ..;rw[if_neg c14,if_neg c22,if_pos c30]at e9;refine kA4 ?_;refine xJ (E3 Et Ek Ef) (a3P 213 G3 [44] _ _ _ p.tg.l _ (hO.tg.rd.mono Vl Sb) (by omega) (λx _=>qr (M8 x) (by decide)) (λx hx h2 hh=>K8 hg x h2 ((hO.tg.ok x hx).mono (qX Sb hh)))) λa36 c36=>?_
 refine xY M3 Eb λb37=>?_;refine xJ (E1 Et) (D1 hg _ 1 _ [[58,61]] _ Rr (by decide) (by decide)) λa38 c38=>?_
 refine kA1 ?_;refine F9 (Ev.tmp rfl) (E1 Ek) (a2m hg b4 p [44] _ Me (hO.ex.mono Sb) hEx) Lb ?_;rintro _ _ ⟨a40,c40,_,rfl,rfl,rfl⟩;refine xY N0 Eb λb41=>?_;refine kR a36 λp36 q36 r36=>?_
 refine kR a38 λp38 q38 r38=>?_;refine kR a40 λp40 q40 r40=>?_
 refine pP (prB b a c st) (prW a c st) ?_;refine xg (E3 Et Et Et) (G9 hg hp b a c st d _ 3 _ [⟨a36,c36,E7 [44] G3 p.tg.l⟩,⟨a38,c38,[A6 [58,61]]⟩,⟨a40,c40,E7 [44] G3 p.ex.l⟩] (fT p) _ (Rd.ofPt rfl (by decide) Me) (B7 (iR r36 p36 q36) (B7 (iR r38 p38 q38) (B7 (iR r40 p40 q40) I0))) (by decide) (B7 (a1d [44] p.tg.l (by omega)) (B7 (by simp) (B7 (a1d [44] p.ex.l (by omega)) I0))) (by rw[e9];simp) (hT) hn) ?_;rintro _ _ ⟨a42,c42,rfl⟩;refine WL.nil (w0 (prB b a42 c42 (D5 st (d,fT p))::prW a42 c42 (D5 st (d,fT p))::h) ?_);exact⟨a42,c42,rfl⟩;refine y3 ?_ ?_<;>intro c43
 have e9:fT p=_:=F6.eq_1 ..;rw[if_neg c14,if_neg c22,if_neg c30,if_pos c43]at e9;refine jE ?_;refine a0X [4,5,6,4096] (.op 0 (.op 1 (.op 2 (.op 3 (.op 7 (.op 8 (.op 4 (.op 5 (.op 6 .nil))))))))) [9,10,11] _ [] C9 (λ_ _ _ h=>a2h h) [0,1] (by kernel_rfl) ?_;refine kA6 ?_;refine H2 rfl rfl Ef (E1 Et) (λfr=>K8 hg p.ch _ (hO.ch.mono Sb)) Lb λa49 c49=>?_
 refine sB rfl M3 λb50=>?_;refine H2 rfl rfl Ef (E1 (Ev.tmp rfl)) (λfr=>D1 hg _ 1 _ [[63]] _ (Rd.fr Rr fr) (by decide) (by decide)) Lb λa51 c51=>?_
 refine nS ?_;refine xJ (E3 Et Ek Ef) (a3P 213 G3 [59] _ _ _ p.tg.l _ (hO.tg.rd.mono Vl Sb) (by omega) (λx _=>qr (M8 x) (by decide)) (λx hx h2 hh=>K8 hg x h2 ((hO.tg.ok x hx).mono (qX Sb hh)))) λa54 c54=>?_;refine xY N0 Eb λb55=>?_
 refine kR a49 λp49 q49 r49=>?_;refine kR a51 λp51 q51 r51=>?_
 refine kR a54 λp54 q54 r54=>?_;refine pP (prB b a c st) (prW a c st) ?_;refine xg (E3 Et Et Et) (G9 hg hp b a c st d _ 3 _ [⟨a49,c49,G3 p.ch⟩,⟨a51,c51,[A6 [63]]⟩,⟨a54,c54,E7 [59] G3 p.tg.l⟩] (fT p) _ (Rd.ofPt rfl (by decide) Me) (B7 (iR r49 p49 q49) (B7 (iR r51 p51 q51) (B7 (iR r54 p54 q54) I0))) (by decide) (B7 (qr (M8 _) (by decide)) (B7 (by simp) (B7 (a1d [59] p.tg.l (by omega)) I0))) (by rw[e9];simp) (hT) hn) ?_;rintro _ _ ⟨a56,c56,rfl⟩;refine WL.nil (w0 (prB b a56 c56 (D5 st (d,fT p))::prW a56 c56 (D5 st (d,fT p))::h) ?_);exact⟨a56,c56,rfl⟩;refine y3 ?_ ?_<;>intro c57
 have e9:fT p=_:=F6.eq_1 ..;rw[if_neg c14,if_neg c22,if_neg c30,if_neg c43,if_pos c57]at e9;refine kA4 ?_;refine xJ (E1 Et) (K8 hg p.ch _ (hO.ch.mono Sb)) λa63 c63=>?_
 refine xY M3 Eb λb64=>?_;refine xJ (E1 Et) (D1 hg _ 1 _ [[33]] _ Rr (by decide) (by decide)) λa65 c65=>?_
 refine kA1 ?_;refine F9 (Ev.tmp rfl) (E1 Ek) (a2m hg b4 p [59] _ Me (hO.ex.mono Sb) hEx) Lb ?_;rintro _ _ ⟨a67,c67,_,rfl,rfl,rfl⟩;refine xY N0 Eb λb68=>?_;refine kR a63 λp63 q63 r63=>?_
 refine kR a65 λp65 q65 r65=>?_;refine kR a67 λp67 q67 r67=>?_
 refine pP (prB b a c st) (prW a c st) ?_;refine xg (E3 Et Et Et) (G9 hg hp b a c st d _ 3 _ [⟨a63,c63,G3 p.ch⟩,⟨a65,c65,[A6 [33]]⟩,⟨a67,c67,E7 [59] G3 p.ex.l⟩] (fT p) _ (Rd.ofPt rfl (by decide) Me) (B7 (iR r63 p63 q63) (B7 (iR r65 p65 q65) (B7 (iR r67 p67 q67) I0))) (by decide) (B7 (qr (M8 _) (by decide)) (B7 (by simp) (B7 (a1d [59] p.ex.l (by omega)) I0))) (by rw[e9];simp) (hT) hn) ?_;rintro _ _ ⟨a69,c69,rfl⟩;refine WL.nil (w0 (prB b a69 c69 (D5 st (d,fT p))::prW a69 c69 (D5 st (d,fT p))::h) ?_);exact⟨a69,c69,rfl⟩;refine y3 ?_ ?_<;>intro c70
 have e9:fT p=_:=F6.eq_1 ..;rw[if_neg c14,if_neg c22,if_neg c30,if_neg c43,if_neg c57,if_pos c70]at e9;refine kA4 ?_;refine xJ (E1 Et) (K8 hg p.ch _ (hO.ch.mono Sb)) λa76 c76=>?_
 refine xY M3 Eb λb77=>?_;refine xJ (E1 Et) (D1 hg _ 2 _ [[63],[65,70,84,69,82]] _ Rr (by decide) (by decide)) λa78 c78=>?_
 refine kA1 ?_;refine F9 (Ev.tmp rfl) (E1 Ek) (a2m hg b4 p [] _ Me (hO.ex.mono Sb) hEx) Lb ?_;rintro _ _ ⟨a80,c80,_,rfl,rfl,rfl⟩;refine xY N0 Eb λb81=>?_;refine kR a76 λp76 q76 r76=>?_
 refine kR a78 λp78 q78 r78=>?_;refine kR a80 λp80 q80 r80=>?_
 refine pP (prB b a c st) (prW a c st) ?_;refine xg (E3 Et Et Et) (G9 hg hp b a c st d _ 3 _ [⟨a76,c76,G3 p.ch⟩,⟨a78,c78,[A6 [63],A6 [65,70,84,69,82]]⟩,⟨a80,c80,E7 [] G3 p.ex.l⟩] (fT p) _ (Rd.ofPt rfl (by decide) Me) (B7 (iR r76 p76 q76) (B7 (iR r78 p78 q78) (B7 (iR r80 p80 q80) I0))) (by decide) (B7 (qr (M8 _) (by decide)) (B7 (by simp) (B7 (a1d [] p.ex.l (by omega)) I0))) (by rw[e9];simp) (hT) hn) ?_;rintro _ _ ⟨a82,c82,rfl⟩;refine WL.nil (w0 (prB b a82 c82 (D5 st (d,fT p))::prW a82 c82 (D5 st (d,fT p))::h) ?_);exact⟨a82,c82,rfl⟩;refine y3 ?_ ?_<;>intro c83
 have e9:fT p=_:=F6.eq_1 ..;rw[if_neg c14,if_neg c22,if_neg c30,if_neg c43,if_neg c57,if_neg c70,if_pos c83]at e9;refine kA4 ?_;refine xJ (E1 Et) (K8 hg p.ch _ (hO.ch.mono Sb)) λa89 c89=>?_
 refine xY M3 Eb λb90=>?_;refine xJ (E1 Et) (D1 hg _ 2 _ [[63],[67,65,83,69]] _ Rr (by decide) (by decide)) λa91 c91=>?_
 refine xY N0 Eb λb92=>?_;refine kR a89 λp89 q89 r89=>?_
 refine kR a91 λp91 q91 r91=>?_;refine pP (prB b a c st) (prW a c st) ?_;refine xg (E3 Et Et Et) (G9 hg hp b a c st d _ 2 _ [⟨a89,c89,G3 p.ch⟩,⟨a91,c91,[A6 [63],A6 [67,65,83,69]]⟩] (fT p) _ (Rd.ofPt rfl (by decide) Me) (B7 (iR r89 p89 q89) (B7 (iR r91 p91 q91) I0)) (by decide) (B7 (qr (M8 _) (by decide)) (B7 (by simp) I0)) (by rw[e9];simp) (hT) hn) ?_;rintro _ _ ⟨a93,c93,rfl⟩;refine WL.nil (w0 (prB b a93 c93 (D5 st (d,fT p))::prW a93 c93 (D5 st (d,fT p))::h) ?_);exact⟨a93,c93,rfl⟩;refine y3 ?_ ?_<;>intro c94
 have e9:fT p=_:=F6.eq_1 ..;rw[if_neg c14,if_neg c22,if_neg c30,if_neg c43,if_neg c57,if_neg c70,if_neg c83,if_pos c94]at e9;refine kA2 ?_;refine xY M3 Eb λb98=>?_
 refine xJ (E1 Et) (D1 hg _ 1 _ [[83,69,81]] _ Rr (by decide) (by decide)) λa99 c99=>?_;refine kA1 ?_;refine xY N0 Eb λb101=>?_
 refine kR a99 λp99 q99 r99=>?_;refine kR a10 λp10 q10 r10=>?_
 refine pP (prB b a c st) (prW a c st) ?_;refine xg (E3 Et Et Et) (G9 hg hp b a c st d _ 2 _ [⟨a99,c99,[A6 [83,69,81]]⟩,⟨a10,c10,a2E p.rep⟩] (fT p) _ (Rd.ofPt rfl (by decide) Me) (B7 (iR r99 p99 q99) (B7 (iR r10 p10 q10) I0)) (by decide) (B7 (by simp) (B7 (b0J p.rep) I0)) (by rw[e9];simp) (hT) hn) ?_;rintro _ _ ⟨a102,c102,rfl⟩;refine WL.nil (w0 (prB b a102 c102 (D5 st (d,fT p))::prW a102 c102 (D5 st (d,fT p))::h) ?_);exact⟨a102,c102,rfl⟩;refine y3 ?_ ?_<;>intro c103
 have e9:fT p=_:=F6.eq_1 ..;rw[if_neg c14,if_neg c22,if_neg c30,if_neg c43,if_neg c57,if_neg c70,if_neg c83,if_neg c94,if_pos c103]at e9;refine kA2 ?_;refine xY M3 Eb λb107=>?_
 refine xJ (E1 Et) (D1 hg _ 1 _ [[80,65,82]] _ Rr (by decide) (by decide)) λa108 c108=>?_;refine kA1 ?_;refine xY N0 Eb λb110=>?_
 refine kR a108 λp108 q108 r108=>?_;refine kR a10 λp10 q10 r10=>?_
 refine pP (prB b a c st) (prW a c st) ?_;refine xg (E3 Et Et Et) (G9 hg hp b a c st d _ 2 _ [⟨a108,c108,[A6 [80,65,82]]⟩,⟨a10,c10,a2E p.rep⟩] (fT p) _ (Rd.ofPt rfl (by decide) Me) (B7 (iR r108 p108 q108) (B7 (iR r10 p10 q10) I0)) (by decide) (B7 (by simp) (B7 (b0J p.rep) I0)) (by rw[e9];simp) (hT) hn) ?_;rintro _ _ ⟨a111,c111,rfl⟩;refine WL.nil (w0 (prB b a111 c111 (D5 st (d,fT p))::prW a111 c111 (D5 st (d,fT p))::h) ?_);exact⟨a111,c111,rfl⟩;refine y3 ?_ ?_<;>intro c112
 have e9:fT p=_:=F6.eq_1 ..;rw[if_neg c14,if_neg c22,if_neg c30,if_neg c43,if_neg c57,if_neg c70,if_neg c83,if_neg c94,if_neg c103,if_pos c112]at e9;refine kA2 ?_;refine xY M3 Eb λb116=>?_
 refine xJ (E1 Et) (D1 hg _ 2 _ [[80,82,73],[80,65,82]] _ Rr (by decide) (by decide)) λa117 c117=>?_;refine xY N0 Eb λb118=>?_
 refine kR a117 λp117 q117 r117=>?_;refine pP (prB b a c st) (prW a c st) ?_;refine xg (E3 Et Et Et) (G9 hg hp b a c st d _ 1 _ [⟨a117,c117,[A6 [80,82,73],A6 [80,65,82]]⟩] (fT p) _ (Rd.ofPt rfl (by decide) Me) (B7 (iR r117 p117 q117) I0) (by decide) (B7 (by simp) I0) (by rw[e9];simp) (hT) hn) ?_;rintro _ _ ⟨a119,c119,rfl⟩;refine WL.nil (w0 (prB b a119 c119 (D5 st (d,fT p))::prW a119 c119 (D5 st (d,fT p))::h) ?_);exact⟨a119,c119,rfl⟩;refine y3 ?_ ?_<;>intro c120
 have e9:fT p=_:=F6.eq_1 ..;rw[if_neg c14,if_neg c22,if_neg c30,if_neg c43,if_neg c57,if_neg c70,if_neg c83,if_neg c94,if_neg c103,if_neg c112,if_pos c120]at e9;refine kA2 ?_;refine xY M3 Eb λb124=>?_
 refine xJ (E1 Et) (D1 hg _ 2 _ [[80,76,65,67,69,68],[80,65,82]] _ Rr (by decide) (by decide)) λa125 c125=>?_;refine xY N0 Eb λb126=>?_
 refine kR a125 λp125 q125 r125=>?_;refine pP (prB b a c st) (prW a c st) ?_;refine xg (E3 Et Et Et) (G9 hg hp b a c st d _ 1 _ [⟨a125,c125,[A6 [80,76,65,67,69,68],A6 [80,65,82]]⟩] (fT p) _ (Rd.ofPt rfl (by decide) Me) (B7 (iR r125 p125 q125) I0) (by decide) (B7 (by simp) I0) (by rw[e9];simp) (hT) hn) ?_;rintro _ _ ⟨a127,c127,rfl⟩;refine WL.nil (w0 (prB b a127 c127 (D5 st (d,fT p))::prW a127 c127 (D5 st (d,fT p))::h) ?_);exact⟨a127,c127,rfl⟩;refine y3 ?_ ?_<;>intro c128
 have e9:fT p=_:=F6.eq_1 ..;rw[if_neg c14,if_neg c22,if_neg c30,if_neg c43,if_neg c57,if_neg c70,if_neg c83,if_neg c94,if_neg c103,if_neg c112,if_neg c120,if_pos c128]at e9;refine kA2 ?_;refine xY M3 Eb λb132=>?_
 refine xJ (E1 Et) (D1 hg _ 1 _ [[65,76,84]] _ Rr (by decide) (by decide)) λa133 c133=>?_;refine kA1 ?_;refine xY N0 Eb λb135=>?_
 refine kR a133 λp133 q133 r133=>?_;refine kR a10 λp10 q10 r10=>?_
 refine pP (prB b a c st) (prW a c st) ?_;refine xg (E3 Et Et Et) (G9 hg hp b a c st d _ 2 _ [⟨a133,c133,[A6 [65,76,84]]⟩,⟨a10,c10,a2E p.rep⟩] (fT p) _ (Rd.ofPt rfl (by decide) Me) (B7 (iR r133 p133 q133) (B7 (iR r10 p10 q10) I0)) (by decide) (B7 (by simp) (B7 (b0J p.rep) I0)) (by rw[e9];simp) (hT) hn) ?_;rintro _ _ ⟨a136,c136,rfl⟩;refine WL.nil (w0 (prB b a136 c136 (D5 st (d,fT p))::prW a136 c136 (D5 st (d,fT p))::h) ?_);exact⟨a136,c136,rfl⟩;refine y3 ?_ ?_<;>intro c137
 have e9:fT p=_:=F6.eq_1 ..;rw[if_neg c14,if_neg c22,if_neg c30,if_neg c43,if_neg c57,if_neg c70,if_neg c83,if_neg c94,if_neg c103,if_neg c112,if_neg c120,if_neg c128,if_pos c137]at e9;refine kA2 ?_;refine xY M3 Eb λb141=>?_
 refine xJ (E1 Et) (D1 hg _ 2 _ [[80,82,73],[65,76,84]] _ Rr (by decide) (by decide)) λa142 c142=>?_;refine kA1 ?_;refine xY N0 Eb λb144=>?_
 refine kR a142 λp142 q142 r142=>?_;refine kR a10 λp10 q10 r10=>?_
 refine pP (prB b a c st) (prW a c st) ?_;refine xg (E3 Et Et Et) (G9 hg hp b a c st d _ 2 _ [⟨a142,c142,[A6 [80,82,73],A6 [65,76,84]]⟩,⟨a10,c10,a2E p.rep⟩] (fT p) _ (Rd.ofPt rfl (by decide) Me) (B7 (iR r142 p142 q142) (B7 (iR r10 p10 q10) I0)) (by decide) (B7 (by simp) (B7 (b0J p.rep) I0)) (by rw[e9];simp) (hT) hn) ?_;rintro _ _ ⟨a145,c145,rfl⟩;refine WL.nil (w0 (prB b a145 c145 (D5 st (d,fT p))::prW a145 c145 (D5 st (d,fT p))::h) ?_);exact⟨a145,c145,rfl⟩;refine y3 ?_ ?_<;>intro c146
 have e9:fT p=_:=F6.eq_1 ..;rw[if_neg c14,if_neg c22,if_neg c30,if_neg c43,if_neg c57,if_neg c70,if_neg c83,if_neg c94,if_neg c103,if_neg c112,if_neg c120,if_neg c128,if_neg c137,if_pos c146]at e9;refine kA2 ?_;refine xY M3 Eb λb150=>?_
 refine xJ (E1 Et) (D1 hg _ 1 _ [[73,70]] _ Rr (by decide) (by decide)) λa151 c151=>?_;refine kA1 ?_;refine xY N0 Eb λb153=>?_
 refine kR a151 λp151 q151 r151=>?_;refine kR a10 λp10 q10 r10=>?_
 refine pP (prB b a c st) (prW a c st) ?_;refine xg (E3 Et Et Et) (G9 hg hp b a c st d _ 2 _ [⟨a151,c151,[A6 [73,70]]⟩,⟨a10,c10,a2E p.rep⟩] (fT p) _ (Rd.ofPt rfl (by decide) Me) (B7 (iR r151 p151 q151) (B7 (iR r10 p10 q10) I0)) (by decide) (B7 (by simp) (B7 (b0J p.rep) I0)) (by rw[e9];simp) (hT) hn) ?_;rintro _ _ ⟨a154,c154,rfl⟩;refine WL.nil (w0 (prB b a154 c154 (D5 st (d,fT p))::prW a154 c154 (D5 st (d,fT p))::h) ?_);exact⟨a154,c154,rfl⟩;refine y3 ?_ ?_<;>intro c155
 have e9:fT p=_:=F6.eq_1 ..;rw[if_neg c14,if_neg c22,if_neg c30,if_neg c43,if_neg c57,if_neg c70,if_neg c83,if_neg c94,if_neg c103,if_neg c112,if_neg c120,if_neg c128,if_neg c137,if_neg c146,if_pos c155]at e9;refine kA2 ?_;refine xY M3 Eb λb159=>?_
 refine xJ (E1 Et) (D1 hg _ 1 _ [[67,65,83,69]] _ Rr (by decide) (by decide)) λa160 c160=>?_;refine kA1 ?_;refine F9 (Ev.tmp rfl) (E1 Ek) (a2m hg b4 p [] _ Me (hO.ex.mono Sb) hEx) Lb ?_;rintro _ _ ⟨a162,c162,_,rfl,rfl,rfl⟩;refine xY N0 Eb λb163=>?_
 refine kR a160 λp160 q160 r160=>?_;refine kR a162 λp162 q162 r162=>?_
 refine pP (prB b a c st) (prW a c st) ?_;refine xg (E3 Et Et Et) (G9 hg hp b a c st d _ 2 _ [⟨a160,c160,[A6 [67,65,83,69]]⟩,⟨a162,c162,E7 [] G3 p.ex.l⟩] (fT p) _ (Rd.ofPt rfl (by decide) Me) (B7 (iR r160 p160 q160) (B7 (iR r162 p162 q162) I0)) (by decide) (B7 (by simp) (B7 (a1d [] p.ex.l (by omega)) I0)) (by rw[e9];simp) (hT) hn) ?_;rintro _ _ ⟨a164,c164,rfl⟩;refine WL.nil (w0 (prB b a164 c164 (D5 st (d,fT p))::prW a164 c164 (D5 st (d,fT p))::h) ?_);exact⟨a164,c164,rfl⟩;refine y3 ?_ ?_<;>intro c165
 have e9:fT p=_:=F6.eq_1 ..;rw[if_neg c14,if_neg c22,if_neg c30,if_neg c43,if_neg c57,if_neg c70,if_neg c83,if_neg c94,if_neg c103,if_neg c112,if_neg c120,if_neg c128,if_neg c137,if_neg c146,if_neg c155,if_pos c165]at e9;refine kA2 ?_;refine xY M3 Eb λb169=>?_
 refine xJ (E1 Et) (D1 hg _ 1 _ [[87,72,73,76,69]] _ Rr (by decide) (by decide)) λa170 c170=>?_;refine kA1 ?_;refine F9 (Ev.tmp rfl) (E1 Ek) (a2m hg b4 p [] _ Me (hO.ex.mono Sb) hEx) Lb ?_;rintro _ _ ⟨a172,c172,_,rfl,rfl,rfl⟩;refine xY N0 Eb λb173=>?_
 refine kR a170 λp170 q170 r170=>?_;refine kR a172 λp172 q172 r172=>?_
 refine pP (prB b a c st) (prW a c st) ?_;refine xg (E3 Et Et Et) (G9 hg hp b a c st d _ 2 _ [⟨a170,c170,[A6 [87,72,73,76,69]]⟩,⟨a172,c172,E7 [] G3 p.ex.l⟩] (fT p) _ (Rd.ofPt rfl (by decide) Me) (B7 (iR r170 p170 q170) (B7 (iR r172 p172 q172) I0)) (by decide) (B7 (by simp) (B7 (a1d [] p.ex.l (by omega)) I0)) (by rw[e9];simp) (hT) hn) ?_;rintro _ _ ⟨a174,c174,rfl⟩;refine WL.nil (w0 (prB b a174 c174 (D5 st (d,fT p))::prW a174 c174 (D5 st (d,fT p))::h) ?_);exact⟨a174,c174,rfl⟩;refine y3 ?_ ?_<;>intro c175
 have e9:fT p=_:=F6.eq_1 ..;rw[if_neg c14,if_neg c22,if_neg c30,if_neg c43,if_neg c57,if_neg c70,if_neg c83,if_neg c94,if_neg c103,if_neg c112,if_neg c120,if_neg c128,if_neg c137,if_neg c146,if_neg c155,if_neg c165]at e9;refine kA4 ?_;refine xJ (E1 Et) (a2W p.name _ _) λa181 c181=>?_
 refine xY M3 Eb λb182=>?_;refine xJ (E1 Et) (D1 hg _ 1 _ [[40]] _ Rr (by decide) (by decide)) λa183 c183=>?_
 refine kA1 ?_;refine F9 (Ev.tmp rfl) (E1 Ek) (a2m hg b4 p [44] _ Me (hO.ex.mono Sb) hEx) Lb ?_;rintro _ _ ⟨a185,c185,_,rfl,rfl,rfl⟩;refine xY M3 Eb λb186=>?_;refine xJ (E1 Et) (D1 hg _ 1 _ [[41]] _ Rr (by decide) (by decide)) λa187 c187=>?_
 refine xY N0 Eb λb188=>?_;refine kR a181 λp181 q181 r181=>?_
 refine kR a183 λp183 q183 r183=>?_;refine kR a185 λp185 q185 r185=>?_
 refine kR a187 λp187 q187 r187=>?_;refine pP (prB b a c st) (prW a c st) ?_;refine xg (E3 Et Et Et) (G9 hg hp b a c st d _ 4 _ [⟨a181,c181,[R2 p.name]⟩,⟨a183,c183,[A6 [40]]⟩,⟨a185,c185,E7 [44] G3 p.ex.l⟩,⟨a187,c187,[A6 [41]]⟩] (fT p) _ (Rd.ofPt rfl (by decide) Me) (B7 (iR r181 p181 q181) (B7 (iR r183 p183 q183) (B7 (iR r185 p185 q185) (B7 (iR r187 p187 q187) I0)))) (by decide) (B7 (by simp) (B7 (by simp) (B7 (a1d [44] p.ex.l (by omega)) (B7 (by simp) I0)))) (by rw[e9];simp) (hT) hn) ?_;rintro _ _ ⟨a189,c189,rfl⟩;refine WL.nil (w0 (prB b a189 c189 (D5 st (d,fT p))::prW a189 c189 (D5 st (d,fT p))::h) ?_);exact⟨a189,c189,rfl⟩;omega
end
section
open Go.Eng Go.Pc Go.Sx Go
open Go.Xp hiding B E8
open Go.Ty (Ty Vr Tok eqT tyV E9 B1 A7 I6 zeroK H3 E5 encV D8 prL prV PrOk VOk mayPr hdV)
open Go.Lx (encB C0 textO)
open Go.Ly (Rw K7 C6)
theorem a1G:TkL []:=λ_ hx=>(qn hx).elim
theorem G8{a b:Lt}(ha:TkL a)(hb:TkL b):TkL (a++b):=λx hx=>(qY.1 hx).elim (ha x) (hb x)
theorem a2I{t:Tok}{b:Lt}(ha:TkL [t])(hb:TkL b):TkL (t::b):=λx hx=>(qQ.1 hx).elim (λe=>ha x (qy.2 e)) (hb x)
theorem a0p{k p:Int}{s:B}(h:s.length<=Big):TkL [⟨k,p.toNat,s,0⟩]:=λx hx=>by
 rw[qy]at hx;subst hx;exact⟨(show(-2147483648:Int)<=0/\(0:Int)<=2147483647 by decide),h⟩
theorem Y2{s:B}(h:s.length<=Big):TkL [A6 s]:=by
 unfold A6;split
 ·exact a0p (p:=0) h
 ·exact a0p (p:=0) h
theorem b1T{s:B}(h:s.length<=Big):TkL [R2 s]:=a0p (p:=0) h
theorem b8h{s:B}(h:s.length<=Big):TkL [F7 s]:=by
 unfold F7;split
 ·exact a0p (p:=0) h
 ·exact a0p (p:=0) h
theorem b8a{p:Bool×Lt}(h:TkL p.2):TkL (a2a p):=by
 unfold a2a;split
 ·exact a2I (a0p (p:=0) (by decide)) (G8 h (a0p (p:=0) (by decide)))
 ·exact h
theorem b4J{ws:List (Bool×Lt)}(h:∀p∈ws,TkL p.2)(i:Nat):TkL (ws.getD i (false,[])).2:=by
 rw[ql];cases hq:ws[i]? with
 |none=>exact a1G
 |some p=>exact h p (qe hq)
theorem c8t{k o t n:Int}{s:B}{ws:List (Bool×Lt)}(hs:s.length<=Big)(hn:-2147483648<=n/\n<=2147483647)(hw:∀p∈ws,TkL p.2):TkL (wr k o t n s ws):=by
 have ho:TkL [P8 o]:=b8h (qr (b4y o) (by decide));have hp:(L3 t).length<=Big:=by
  unfold L3;repeat' split
  all_goals decide
 have h1:∀k,TkL [⟨k,0,[],n⟩]:=λk x hx=>by
  rw[qy]at hx;subst hx;exact⟨hn,qi _⟩
 unfold wr;split
 ·exact h1 3
 split
 ·exact h1 4
 split
 ·split<;>exact b8h (by decide)
 split
 ·exact a0p (p:=0) hs
 split
 ·exact a2I (b8h (by decide)) (a0p (p:=0) hs)
 split
 ·exact a2I (a0p (p:=0) hs) (a2I (a0p (p:=0) (by decide)) (G8 (b4J hw 0) (a0p (p:=0) (by decide))))
 split
 ·exact a2I ho (b8a (b4J hw 0))
 split
 ·exact a2I (b8h hp) (b8a (b4J hw 0))
 ·exact G8 (b8a (b4J hw 0)) (a2I ho (b8a (b4J hw 1)))
theorem c0G:∀{l:List Ex},(∀x∈l,TkL (C3 x))->∀p∈Y1 l,TkL p.2
 | [],_,p,hp=>by
  rw[Y1]at hp;cases hp
 |x::r,h,p,hp=>by
  rw[Y1]at hp;rcases qQ.1 hp with rfl|hp
  ·exact h x (qm _)
  ·exact c0G (λy hy=>h y (qD _ hy)) p hp
theorem a3h{m:View}{h:Lr}{e:Ex}(q:EOk m h e):TkL (G3 e):=by
 unfold G3;split
 ·exact Ex.ind (p:=λe=>Wf e->TkL (C3 e)) (λe ih hW=>by
   rw[a4g];exact c8t hW.spec.2.2 hW.spec.2.1 (c0G λx hx=>ih x hx (hW.part hx))) e q.w
 ·exact a1G
theorem b5b{α:Type}{sep:B}(hs:sep.length<=Big){f:α->Lt}:∀{l:List α},(∀x∈l,TkL (f x))->TkL (E7 sep f l)
 | [],_=>a1G
 | [x],h=>h x (qm _)
 |x::_::_,h=>G8 (h x (qm _)) (a2I (a0p (p:=0) hs) (b5b hs λz hz=>h z (qD _ hz)))
theorem a2Y{m:View}{h:Lr}{sep:B}(hs:sep.length<=Big){s:Sli Ex}(q:LOk m h s):TkL (E7 sep G3 s.l):=b5b hs λx hx=>a3h (q.ok x hx)
theorem c7f{s:B}(hs:s.length<=Big){l:Lt}(q:TkL l):TkL (a3i s l):=by
 unfold a3i;split
 ·exact a1G
 ·exact a2I (Y2 hs) q
theorem d02{m:View}{h:Lr}{r:Rp}(q:Rs m h r):TkL (a2E r):=by
 unfold a2E;split
 ·exact a1G
 ·exact G8 (G8 (G8 (G8 (b1T q.n) (Y2 (by decide))) (a3h q.b)) (Y2 (by decide))) (a3h q.c)
theorem Q1{c:Prop}[Decidable c]{a b:Lt}(ha:TkL a)(hb:TkL b):TkL (if c then a else b):=by
 split
 ·exact ha
 ·exact hb
theorem b8Q{m:View}{h:Lr}{p:Pr}(q:P1 m h p):TkL (F6 p.k p.name p.ch p.tg.l p.ex.l p.rep):=by
 have hr:TkL (a2E p.rep):=d02 (m:=m) (h:=h) ⟨q.rn,q.rb,q.rc⟩;have w1:∀{s:B},s.length<=1000->TkL [A6 s]:=λh=>Y2 (qr h (by decide))
 have w2:∀{s t:B},s.length<=1000->t.length<=1000->TkL [A6 s,A6 t]:=λh h2=>a2I (w1 h) (w1 h2)
 unfold F6;exact Q1 (w1 (by decide)) (Q1 (w1 (by decide)) (Q1 (G8 (G8 (a2Y (by decide) q.tg) (w1 (by decide))) (a2Y (by decide) q.ex)) (Q1 (G8 (G8 (a3h q.ch) (w1 (by decide))) (a2Y (by decide) q.tg)) (Q1 (G8 (G8 (a3h q.ch) (w1 (by decide))) (a2Y (by decide) q.ex)) (Q1 (G8 (G8 (a3h q.ch) (w2 (by decide) (by decide))) (a2Y (by decide) q.ex)) (Q1 (G8 (a3h q.ch) (w2 (by decide) (by decide))) (Q1 (G8 (w1 (by decide)) hr) (Q1 (G8 (w1 (by decide)) hr) (Q1 (w2 (by decide) (by decide)) (Q1 (w2 (by decide) (by decide)) (Q1 (G8 (w1 (by decide)) hr) (Q1 (G8 (w2 (by decide) (by decide)) hr) (Q1 (G8 (w1 (by decide)) hr) (Q1 (G8 (w1 (by decide)) (a2Y (by decide) q.ex)) (Q1 (G8 (w1 (by decide)) (a2Y (by decide) q.ex)) (G8 (G8 (G8 (b1T q.n) (w1 (by decide))) (a2Y (by decide) q.ex)) (w1 (by decide))))))))))))))))))
theorem b09{m:View}{h:Lr}{e:Ex}(q:EOk m h e):TkL (a1j e):=by
 unfold a1j;split
 ·exact a1G
 ·exact G8 (a3h q) (a0p (p:=0) (by decide))
theorem c08{m:View}{h:Lr}{g:Gu}(q:GOk m h g):TkL (H9 g.k g.name g.cond g.ch g.tg.l g.vl.l g.time):=by
 have w1:∀{s:B},s.length<=1000->TkL [A6 s]:=λh=>Y2 (qr h (by decide))
 unfold H9;exact Q1 (a3h q.cond) (Q1 (G8 (b09 q.cond) (w1 (by decide))) (Q1 (G8 (G8 (G8 (b09 q.cond) (a3h q.ch)) (w1 (by decide))) (a2Y (by decide) q.tg)) (Q1 (G8 (G8 (G8 (b09 q.cond) (a3h q.ch)) (a2I (w1 (by decide)) (w1 (by decide)))) (a3h q.time)) (Q1 (a2Y (by decide) q.vl) (Q1 (w1 (by decide)) (G8 (b1T q.n) (c7f (by decide) (a2Y (by decide) q.tg))))))))
theorem b2D(e:Ex):(a1j e).length<=30000:=by
 unfold a1j;have:=M8 e;split
 ·exact qi _
 ·rw[qh]
  simp only[qO];omega
theorem b8b(s:B){l:Lt}(h:l.length<=25000):(a3i s l).length<=30000:=by
 unfold a3i;split
 ·exact qi _
 ·simp only[qJ]
  omega
theorem a7V(sep:B)(l:List Ex)(h:l.length<=9):(E7 sep G3 l).length<=25000:=by
 have h1:=a3F sep G3 2000 l λx _=>M8 x
 have h2:l.length*2001<=9*2001:=zw _ h;omega
theorem c2S{g:Gu}(h:guP g=true)(h0:0<=g.k):(1<=g.k/\g.k<=7)/\g.bl.length=1/\g.tg.l.length<=8/\g.vl.l.length<=8:=by
 unfold guP at h;simp only[qa,bne_iff_ne,ne_eq,qw,qU]at h;obtain⟨⟨⟨⟨⟨⟨⟨⟨h1,h2⟩,h3⟩,-⟩,-⟩,-⟩,-⟩,h4⟩,h5⟩:=h;have h4:=(Y4 h4).2.2;have h5:=(Y4 h5).2.2;refine⟨⟨by omega,h2⟩,by omega,?_,?_⟩
 ·have:(if g.k=3 then(8:Int)else if g.k=7 then 8 else 0)<=8:=by repeat' split<;>omega
  omega
 ·have:(if g.k=5 then(8:Int)else 0)<=8:=by split<;>omega
  omega
theorem b8C(g:Gu)(d:Int):a0G g d=(d,H9 g.k g.name g.cond g.ch g.tg.l g.vl.l g.time)::a2A g.bl (d+1):=by cases g;rfl
abbrev PRC(m:View)(p:Pr):Prop:=∀(b:Nat)(a:Oa)(c:Nat)(st:Ps)(d:Int)(h:Lr),POk m h p->Vld p->(0<=d/\d+2*(W9 p:Int)<=100000)->st.1.length<=2049 ->
 CT prog 76 [ptV b,prV p,.int .i64 d] (prB b a c st::prW a c st::h) m (λ_ _ h'=>PrR b h (B8 st (J7 p d)) h')
theorem b8J{m:View}(hg:Glob m)(hp:Pow m)(g:Gu)(b:Nat)(a:Oa)(c:Nat)(st:Ps)(d:Int)(h:Lr)(hO:GOk m h g)(hu:guP g=true)(hS:∀x∈g.bl,POk m h x/\Vld x/\PRC m x/\d+1+2*(W9 x:Int)<=100000)(hd:0<=d/\d<=100000)(hn:st.1.length<=2049) :
 CT prog 147 [ptV b,guV g,.int .i64 d] (prB b a c st::prW a c st::h) m (λ_ _ h'=>PrR b h (B8 st (a0G g d)) h'):=by
 obtain⟨hk,hbl,hTg,hVl⟩:=c2S hu hO.k.1;have hT:=c08 hO;have hrb:=hO.b;obtain⟨y,hy⟩:=A8 (l:=g.bl) (k:=0) (by omega);have hym:=qe hy;obtain⟨hy1,hy2,hy3,hy4⟩:=hS y hym;have hcy:=a7h y;have hlg:a0G g d=(d,H9 g.k g.name g.cond g.ch g.tg.l g.vl.l g.time)::J7 y (d+1):=by
  have e:g.bl=[y]:=by
   cases hb:g.bl with
   |nil=>rw[hb]at hy;cases hy
   |cons z r=>
    rw[hb]at hy hbl;cases hy;cases r with
    |nil=>rfl
    |cons u v=>simp at hbl
  rw[b8C,e];rfl
 refine cB [0,2,4,6,7,22,23,32,41,54,69,78,86] func147 λ_=>?_;refine xX λb4=>?_
 refine Z0 ?_;refine WL.addNil 116 4 ?_;refine ZZ [1,2] ?_;refine xf (E1 Et) (a3g g.cond (hO.cond.t.mono Sb)) ?_;refine kP1 [0,2,4,6,11] ?_;refine D6 KKh [0,2,4] rfl (λF' h'=>∃a6:Oa,∃c6:Nat,∃L:Lt,(L=a1j g.cond)/\F'=[(6,.slice a6 L.length c6)]/\.row (.slice a6 L.length c6) 116 4 L.length (fl B1 L)::.pt b4 (.cells (guE g).toArray 93 (0,0))::prB b a c st::prW a c st::h=h') ?_ ?_;refine jE ?_;refine wc ?_ ?_<;>intro c11
 have e11:a1j g.cond=G3 g.cond++[⟨5,0,[38],0⟩]:=by unfold a1j;rw[if_neg (by simpa using c11)]
 have hln:(G3 g.cond++[(⟨5,0,[38],0⟩:Tok)]).length=(G3 g.cond).length+1:=qh;have htl:=M8 g.cond;refine kA2 ?_;refine xJ (E1 Et) (K8 hg g.cond _ (hO.cond.mono Sb)) λa14 c14=>?_;refine xf (E1 Ek) (H5 _ _ _) ?_;refine xY B3 Eb λb16=>?_
 refine xD B3 (Ev.tmp rfl) (Ev.tmp rfl) (show(G3 g.cond).length+1=(G3 g.cond++[(⟨5,0,[38],0⟩:Tok)]).length from hln.symm) (D9 (enc:=B1) _ (⟨5,0,[38],0⟩)) λa17 c17=>?_;refine kA1 ?_;exact WL.nil (mN [(6,.slice a17 (G3 g.cond++[(⟨5,0,[38],0⟩:Tok)]).length c17)] (.row (.slice a17 (G3 g.cond++[(⟨5,0,[38],0⟩:Tok)]).length c17) 116 4 (G3 g.cond++[(⟨5,0,[38],0⟩:Tok)]).length (fl B1 (G3 g.cond++[(⟨5,0,[38],0⟩:Tok)]))::.pt b4 (.cells (guE g).toArray 93 (0,0))::prB b a c st::prW a c st::h) ⟨a17,c17,G3 g.cond++[(⟨5,0,[38],0⟩:Tok)],e11.symm,rfl,rfl⟩);have e11:a1j g.cond=[]:=by unfold a1j;rw[if_pos (by simpa using c11)]
 exact WC.skip (mN [(6,.slice none ([]).length 0)] (.row (.slice none ([]).length 0) 116 4 ([]).length (fl B1 ([]))::.pt b4 (.cells (guE g).toArray 93 (0,0))::prB b a c st::prW a c st::h) ⟨none,0,[],e11.symm,rfl,rfl⟩);rintro _ _ ⟨a6,c6,L,hL,rfl,rfl⟩;refine A9 rfl ?_;subst hL;refine kA2 ?_;refine xJ (E3 Et Ek Ef) (a3P 213 G3 [59] _ _ _ g.tg.l _ (hO.tg.rd.mono Vl Sb) (by omega) (λx _=>qr (M8 x) (by decide)) (λx hx h2 hh=>K8 hg x h2 ((hO.tg.ok x hx).mono (qX Sb hh)))) λa20 c20=>?_;refine Z1 ?_;refine kP2 [0,2,4,6,7,22] ?_;refine D6 KKh [0,2,4] rfl (λF' h'=>∃a9:Oa,∃c9:Nat,(True)/\F'=[]/\prB b a9 c9 (D5 st (d,H9 g.k g.name g.cond g.ch g.tg.l g.vl.l g.time))::prW a9 c9 (D5 st (d,H9 g.k g.name g.cond g.ch g.tg.l g.vl.l g.time))::.pt b4 (.cells (guE g).toArray 93 (0,0))::h=h') ?_ ?_;refine y3 ?_ ?_<;>intro c23
 have e9:=H9.eq_1 g.k g.name g.cond g.ch g.tg.l g.vl.l g.time;rw[if_pos c23]at e9;refine kA4 ?_;refine xJ (E1 Et) (K8 hg g.cond _ (hO.cond.mono Sb)) λa29 c29=>?_
 refine xY N0 Eb λb30=>?_;refine kR a29 λp29 q29 r29=>?_
 refine pP (prB b a c st) (prW a c st) ?_;refine xg (E3 Et Et Et) (G9 hg hp b a c st d _ 1 _ [⟨a29,c29,G3 g.cond⟩] (H9 g.k g.name g.cond g.ch g.tg.l g.vl.l g.time) _ (Rd.ofPt rfl (by decide) Me) (B7 (iR r29 p29 q29) I0) (by decide) (B7 (qr (M8 _) (by decide)) I0) (by rw[e9];simp) (hT) hn) ?_;rintro _ _ ⟨a31,c31,rfl⟩;exact WL.nil (mN [] (prB b a31 c31 (D5 st (d,H9 g.k g.name g.cond g.ch g.tg.l g.vl.l g.time))::prW a31 c31 (D5 st (d,H9 g.k g.name g.cond g.ch g.tg.l g.vl.l g.time))::.pt b4 (.cells (guE g).toArray 93 (0,0))::h) ⟨a31,c31,by trivial,rfl,rfl⟩);refine y3 ?_ ?_<;>intro c32
 have e9:=H9.eq_1 g.k g.name g.cond g.ch g.tg.l g.vl.l g.time;rw[if_neg c23,if_pos c32]at e9;refine kA3 ?_;refine xY M3 Eb λb37=>?_
 refine xJ (E1 Et) (D1 hg _ 1 _ [[83,75,73,80]] _ Rr (by decide) (by decide)) λa38 c38=>?_;refine xY N0 Eb λb39=>?_
 refine kR a6 λp6 q6 r6=>?_;refine kR a38 λp38 q38 r38=>?_
 refine pP (prB b a c st) (prW a c st) ?_;refine xg (E3 Et Et Et) (G9 hg hp b a c st d _ 2 _ [⟨a6,c6,a1j g.cond⟩,⟨a38,c38,[A6 [83,75,73,80]]⟩] (H9 g.k g.name g.cond g.ch g.tg.l g.vl.l g.time) _ (Rd.ofPt rfl (by decide) Me) (B7 (iR r6 p6 q6) (B7 (iR r38 p38 q38) I0)) (by decide) (B7 (b2D _) (B7 (by simp) I0)) (by rw[e9];simp) (hT) hn) ?_;rintro _ _ ⟨a40,c40,rfl⟩;exact WL.nil (mN [] (prB b a40 c40 (D5 st (d,H9 g.k g.name g.cond g.ch g.tg.l g.vl.l g.time))::prW a40 c40 (D5 st (d,H9 g.k g.name g.cond g.ch g.tg.l g.vl.l g.time))::.pt b4 (.cells (guE g).toArray 93 (0,0))::h) ⟨a40,c40,by trivial,rfl,rfl⟩);refine y3 ?_ ?_<;>intro c41
 have e9:=H9.eq_1 g.k g.name g.cond g.ch g.tg.l g.vl.l g.time;rw[if_neg c23,if_neg c32,if_pos c41]at e9;refine kA5 ?_;refine xJ (E1 Et) (K8 hg g.ch _ (hO.ch.mono Sb)) λa48 c48=>?_
 refine xY M3 Eb λb49=>?_;refine xJ (E1 Et) (D1 hg _ 1 _ [[63]] _ Rr (by decide) (by decide)) λa50 c50=>?_
 refine kA1 ?_;refine xY N0 Eb λb52=>?_;refine kR a6 λp6 q6 r6=>?_
 refine kR a48 λp48 q48 r48=>?_;refine kR a50 λp50 q50 r50=>?_
 refine kR a20 λp20 q20 r20=>?_;refine pP (prB b a c st) (prW a c st) ?_;refine xg (E3 Et Et Et) (G9 hg hp b a c st d _ 4 _ [⟨a6,c6,a1j g.cond⟩,⟨a48,c48,G3 g.ch⟩,⟨a50,c50,[A6 [63]]⟩,⟨a20,c20,E7 [59] G3 g.tg.l⟩] (H9 g.k g.name g.cond g.ch g.tg.l g.vl.l g.time) _ (Rd.ofPt rfl (by decide) Me) (B7 (iR r6 p6 q6) (B7 (iR r48 p48 q48) (B7 (iR r50 p50 q50) (B7 (iR r20 p20 q20) I0)))) (by decide) (B7 (b2D _) (B7 (qr (M8 _) (by decide)) (B7 (by simp) (B7 (qr (a7V [59] g.tg.l (by omega)) (by decide)) I0)))) (by rw[e9];simp) (hT) hn) ?_;rintro _ _ ⟨a53,c53,rfl⟩;exact WL.nil (mN [] (prB b a53 c53 (D5 st (d,H9 g.k g.name g.cond g.ch g.tg.l g.vl.l g.time))::prW a53 c53 (D5 st (d,H9 g.k g.name g.cond g.ch g.tg.l g.vl.l g.time))::.pt b4 (.cells (guE g).toArray 93 (0,0))::h) ⟨a53,c53,by trivial,rfl,rfl⟩);refine y3 ?_ ?_<;>intro c54
 have e9:=H9.eq_1 g.k g.name g.cond g.ch g.tg.l g.vl.l g.time;rw[if_neg c23,if_neg c32,if_neg c41,if_pos c54]at e9;refine jE ?_;refine a0X [5,6,7,4096] (.op 0 (.op 1 (.op 2 (.op 3 (.op 4 (.op 8 (.op 9 (.op 5 (.op 6 (.op 7 .nil)))))))))) [10,11,12] _ [] C9 (λ_ _ _ h=>a2h h) [0,1,2] (by kernel_rfl) ?_;refine kA7 ?_;refine H2 rfl rfl Ef (E1 Et) (λfr=>K8 hg g.ch _ (hO.ch.mono Sb)) Lb λa61 c61=>?_
 refine sB rfl M3 λb62=>?_;refine H2 rfl rfl Ef (E1 (Ev.tmp rfl)) (λfr=>D1 hg _ 2 _ [[63],[65,70,84,69,82]] _ (Rd.fr Rr fr) (by decide) (by decide)) Lb λa63 c63=>?_
 refine nS ?_;refine xJ (E1 Et) (K8 hg g.time _ (hO.time.mono Sb)) λa66 c66=>?_;refine xY N0 Eb λb67=>?_
 refine kR a6 λp6 q6 r6=>?_;refine kR a61 λp61 q61 r61=>?_
 refine kR a63 λp63 q63 r63=>?_;refine kR a66 λp66 q66 r66=>?_
 refine pP (prB b a c st) (prW a c st) ?_;refine xg (E3 Et Et Et) (G9 hg hp b a c st d _ 4 _ [⟨a6,c6,a1j g.cond⟩,⟨a61,c61,G3 g.ch⟩,⟨a63,c63,[A6 [63],A6 [65,70,84,69,82]]⟩,⟨a66,c66,G3 g.time⟩] (H9 g.k g.name g.cond g.ch g.tg.l g.vl.l g.time) _ (Rd.ofPt rfl (by decide) Me) (B7 (iR r6 p6 q6) (B7 (iR r61 p61 q61) (B7 (iR r63 p63 q63) (B7 (iR r66 p66 q66) I0)))) (by decide) (B7 (b2D _) (B7 (qr (M8 _) (by decide)) (B7 (by simp) (B7 (qr (M8 _) (by decide)) I0)))) (by rw[e9];simp) (hT) hn) ?_;rintro _ _ ⟨a68,c68,rfl⟩;exact WL.nil (mN [] (prB b a68 c68 (D5 st (d,H9 g.k g.name g.cond g.ch g.tg.l g.vl.l g.time))::prW a68 c68 (D5 st (d,H9 g.k g.name g.cond g.ch g.tg.l g.vl.l g.time))::.pt b4 (.cells (guE g).toArray 93 (0,0))::h) ⟨a68,c68,by trivial,rfl,rfl⟩);refine y3 ?_ ?_<;>intro c69
 have e9:=H9.eq_1 g.k g.name g.cond g.ch g.tg.l g.vl.l g.time;rw[if_neg c23,if_neg c32,if_neg c41,if_neg c54,if_pos c69]at e9;refine kA4 ?_;refine xJ (E3 Et Ek Ef) (a3P 213 G3 [44] _ _ _ g.vl.l _ (hO.vl.rd.mono Vl Sb) (by omega) (λx _=>qr (M8 x) (by decide)) (λx hx h2 hh=>K8 hg x h2 ((hO.vl.ok x hx).mono (qX Sb hh)))) λa75 c75=>?_
 refine xY N0 Eb λb76=>?_;refine kR a75 λp75 q75 r75=>?_
 refine pP (prB b a c st) (prW a c st) ?_;refine xg (E3 Et Et Et) (G9 hg hp b a c st d _ 1 _ [⟨a75,c75,E7 [44] G3 g.vl.l⟩] (H9 g.k g.name g.cond g.ch g.tg.l g.vl.l g.time) _ (Rd.ofPt rfl (by decide) Me) (B7 (iR r75 p75 q75) I0) (by decide) (B7 (a1d [44] g.vl.l (by omega)) I0) (by rw[e9];simp) (hT) hn) ?_;rintro _ _ ⟨a77,c77,rfl⟩;exact WL.nil (mN [] (prB b a77 c77 (D5 st (d,H9 g.k g.name g.cond g.ch g.tg.l g.vl.l g.time))::prW a77 c77 (D5 st (d,H9 g.k g.name g.cond g.ch g.tg.l g.vl.l g.time))::.pt b4 (.cells (guE g).toArray 93 (0,0))::h) ⟨a77,c77,by trivial,rfl,rfl⟩);refine y3 ?_ ?_<;>intro c78
 have e9:=H9.eq_1 g.k g.name g.cond g.ch g.tg.l g.vl.l g.time;rw[if_neg c23,if_neg c32,if_neg c41,if_neg c54,if_neg c69,if_pos c78]at e9;refine kA2 ?_;refine xY M3 Eb λb82=>?_
 refine xJ (E1 Et) (D1 hg _ 1 _ [[69,76,83,69]] _ Rr (by decide) (by decide)) λa83 c83=>?_;refine xY N0 Eb λb84=>?_
 refine kR a83 λp83 q83 r83=>?_;refine pP (prB b a c st) (prW a c st) ?_;refine xg (E3 Et Et Et) (G9 hg hp b a c st d _ 1 _ [⟨a83,c83,[A6 [69,76,83,69]]⟩] (H9 g.k g.name g.cond g.ch g.tg.l g.vl.l g.time) _ (Rd.ofPt rfl (by decide) Me) (B7 (iR r83 p83 q83) I0) (by decide) (B7 (by simp) I0) (by rw[e9];simp) (hT) hn) ?_;rintro _ _ ⟨a85,c85,rfl⟩;exact WL.nil (mN [] (prB b a85 c85 (D5 st (d,H9 g.k g.name g.cond g.ch g.tg.l g.vl.l g.time))::prW a85 c85 (D5 st (d,H9 g.k g.name g.cond g.ch g.tg.l g.vl.l g.time))::.pt b4 (.cells (guE g).toArray 93 (0,0))::h) ⟨a85,c85,by trivial,rfl,rfl⟩);refine y3 ?_ ?_<;>intro c86
 have e9:=H9.eq_1 g.k g.name g.cond g.ch g.tg.l g.vl.l g.time;rw[if_neg c23,if_neg c32,if_neg c41,if_neg c54,if_neg c69,if_neg c78]at e9;refine kA4 ?_;refine xJ (E1 Et) (a2W g.name _ _) λa92 c92=>?_
 refine kA1 ?_;refine kR a20 λp20 q20 r20=>?_;refine xJ (E2 Ek Et) (b4k hg [59] (by decide) _ _ _ (E7 [59] G3 g.tg.l) _ (iR r20 p20 q20) (qr (a7V [59] g.tg.l (by omega)) (by decide))) λa94 c94=>?_
 refine xY N0 Eb λb95=>?_;refine kR a92 λp92 q92 r92=>?_
 refine kR a94 λp94 q94 r94=>?_;refine pP (prB b a c st) (prW a c st) ?_;refine xg (E3 Et Et Et) (G9 hg hp b a c st d _ 2 _ [⟨a92,c92,[R2 g.name]⟩,⟨a94,c94,a3i [59] (E7 [59] G3 g.tg.l)⟩] (H9 g.k g.name g.cond g.ch g.tg.l g.vl.l g.time) _ (Rd.ofPt rfl (by decide) Me) (B7 (iR r92 p92 q92) (B7 (iR r94 p94 q94) I0)) (by decide) (B7 (by simp) (B7 (b8b [59] (a7V [59] g.tg.l (by omega))) I0)) (by rw[e9];simp) (hT) hn) ?_;rintro _ _ ⟨a96,c96,rfl⟩;exact WL.nil (mN [] (prB b a96 c96 (D5 st (d,H9 g.k g.name g.cond g.ch g.tg.l g.vl.l g.time))::prW a96 c96 (D5 st (d,H9 g.k g.name g.cond g.ch g.tg.l g.vl.l g.time))::.pt b4 (.cells (guE g).toArray 93 (0,0))::h) ⟨a96,c96,by trivial,rfl,rfl⟩);omega;rintro _ _ ⟨a9,c9,hJ,rfl,rfl⟩;refine A9 rfl ?_;refine kA3 ?_;refine xG (D7 U0.und U0.size U0.posz (Ev.tmp rfl) Ek Rr rfl (q:=0) (by omega)) ?_;refine kA3 ?_
 refine xg (E3 Et Et Et) (hy3 b a9 c9 (D5 st (d,H9 g.k g.name g.cond g.ch g.tg.l g.vl.l g.time)) (d+1) _ (hy1.mono Sb) hy2 (by omega) (W8 hn)) ?_;rintro _ _ ⟨a104,c104,rfl⟩;rw[<-a1s,<-hlg];refine WL.nil (w0 (prB b a104 c104 (B8 st (a0G g d))::prW a104 c104 (B8 st (a0G g d))::h) ?_);exact⟨a104,c104,rfl⟩
theorem a9p{t:Ty}:TkL (M7 t):=by
 unfold M7 Go.Ty.tokens;split
 ·rename_i hm
  have hw:=b7w hm;have hd:=Go.Ty.may_dim hm;have h1:TkL (Go.Ty.dimT t):=by unfold Go.Ty.dimT;refine Q1 (a2I (a0p (p:=0) (by decide)) (a2I (λx hx=>?_) (a0p (p:=0) (by decide)))) a1G;rw[qy]at hx;subst hx;exact⟨(show -2147483648<=t.dim/\t.dim<=2147483647 by omega),qi _⟩
  have h2:TkL (Go.Ty.chanT t):=Q1 (a2I (a0p (p:=0) (by decide)) (a0p (p:=0) (by decide))) a1G;have h3:TkL [Go.Ty.lastT t]:=by
   unfold Go.Ty.lastT;split
   ·refine a0p (p:=0) ?_
    have:∀k,(Go.Ty.wordS k).1.length<=10:=λk=>by
     unfold Go.Ty.wordS Go.Ty.prims Go.Ty.wordIn Go.Ty.wordIn Go.Ty.wordIn Go.Ty.wordIn;repeat' split
     all_goals decide
    exact qr (this _) (by decide)
   ·split
    ·exact a0p (p:=0) hw.p
    ·exact a0p (p:=0) (by decide)
  exact G8 (G8 h1 h2) h3
 ·exact a1G
theorem c7y{f:Fo}(h:FoW f):TkL (U2 f):=G8 (G8 (Q1 (Y2 (by decide)) a1G) a9p) (b1T h.n)
theorem a7Z{l:List B}(h:∀x∈l,x.length<=Big):TkL (K2 l):=b5b (by decide) λx hx=>b1T (h x hx)
theorem c3y{l:List Int}:TkL (E7 [59] a1I l):=b5b (by decide) λ_ _=>a9p
theorem a3T(l:List B)(h:l.length<=9):(K2 l).length<=30000:=by
 have h1:=a3F [44] (λs=>[R2 s]) 1 l λx _=>qz _
 unfold K2;omega
theorem b3a(k:Int):(a1I k).length<=10:=a3H _
theorem b0n(sep:B)(l:List Int)(h:l.length<=9):(E7 sep a1I l).length<=25000:=by
 have h1:=a3F sep a1I 10 l λx _=>b3a x
 omega
theorem b1Q(f:Fo):(U2 f).length<=20:=by unfold U2;have:=a3H f.ty;rw[qh,qh];split<;>simp only[qO,zQ]<;>omega
theorem c1i(sep:B)(l:List Fo)(h:l.length<=9):(E7 sep U2 l).length<=30000:=by
 have h1:=a3F sep U2 20 l λx _=>b1Q x
 omega
theorem c1S{s:Sp}(h:spP s=true):(1<=s.k/\s.k<=5)/\s.names.l.length<=8/\(s.k=5->s.bl.length=1/\s.fs.l.length<=8)/\(s.k=4->mayPr s.cs s.vs.l=true):=by
 unfold spP at h;split at h
 ·rename_i hk
  simp only[qa]at h;obtain⟨⟨h1,h2⟩,-⟩:=h;have h3:=(Y4 h2).2.2;refine⟨hk,by split at h3<;>omega,λh5=>?_,λh4=>?_⟩
  ·unfold a1l at h1
   rw[if_neg (by omega),if_neg (by omega),if_neg (by omega),if_neg (by omega)]at h1;simp only[qa,qU]at h1;have:=(Y4 h1.2).2.2;exact⟨by omega,by omega⟩
  ·unfold a1l at h1
   rw[if_neg (by omega),if_neg (by omega),if_neg (by omega),if_pos h4]at h1;exact h1
 ·cases h
theorem b9q{cs:Bool}{l:List Vr}(h:mayPr cs l=true):1<=l.length/\l.length<=16:=by
 unfold Go.Ty.mayPr at h;cases cs with
 |false=>simp only[zf,if_true,qa,qU]at h;omega
 |true=>
  simp only[zX,qp,if_false]at h;split at h
  ·cases h
  ·rename_i q
   simp only[qv,qw]at q;omega
theorem b1i:∀{l pre:List Vr},Go.Ty.mayIn pre l=true->∀v∈l,v.tag.length<=Big
 | [],_,_,v,hv=>by cases hv
 |w::r,pre,h,v,hv=>by
  unfold Go.Ty.mayIn at h;split at h
  ·cases h
  ·rename_i q
   cases hv with
   |head=>unfold Go.Ty.badV at q;simp only[qv,qK,not_or,Bool.not_eq_false]at q;have q1:=q.1.1;unfold Go.Lx.name at q1;simp only[qa,qw]at q1;have q2:=q1.1.1.1.2;unfold Big;omega
   |tail _ hv=>exact b1i h v hv
theorem b9j{cs:Bool}{l:List Vr}(h:mayPr cs l=true):∀v∈l,v.tag.length<=Big:=by
 unfold Go.Ty.mayPr at h;cases cs with
 |false=>
  simp only[zf,if_true,qa,qU]at h;intro v hv;match l,h.1.1,h.1.2,hv with
  | [w],_,h2,hv=>
   have:v=w:=by simpa using hv
   subst this;have h3:v.tag=[]:=h2;rw[h3];exact qi _
 |true=>
  simp only[zX,qp,if_false]at h;split at h
  ·cases h
  ·exact b1i h
theorem c0b(s:Sp)(d:Int):M0 s d=if s.k=1 then[(d,(M7 s.ty++K2 s.names.l)++[A6 [58]])]
 else if s.k=2 then[(d,(((([A6 [86,65,76]]++M7 s.ty)++K2 s.names.l)++[A6 [73,83]])++G3 s.e)++[A6 [58]])]
 else if s.k=3 then[(d,(((M7 s.ty++K2 s.names.l)++[A6 [73,83]])++G3 s.e)++[A6 [58]])]
 else if s.k=5 then(d,((([A6 [80,82,79,67]]++K2 s.names.l)++[A6 [40]])++E7 [44] U2 s.fs.l)++[A6 [41]])::(a2A s.bl (d+1)++[(d,[A6 [58]])])
 else if s.cs=false then[(d,((([A6 [80,82,79,84,79,67,79,76]]++K2 s.names.l)++[A6 [73,83]])++E7 [59] a1I (hdV s.vs.l).items)++[A6 [58]])]
 else(d,[A6 [80,82,79,84,79,67,79,76]]++K2 s.names.l)::(d+1,[A6 [67,65,83,69]])::(s.vs.l.map (λv=>((d+2,L0 v):Ln))++[(d,[A6 [58]])]):=by cases s;rfl
theorem c8k{l:List Vr}(h:1<=l.length):l[0]?=some (hdV l):=by cases l with|nil=>simp at h|cons v l=>rfl
theorem b6R(st:Ps)(l:List Ln)(x:Ln):D5 (B8 st l) x=B8 st (l++[x]):=by rw[a0M];rfl
theorem c2n{m:View}(hg:Glob m)(hp:Pow m)(s:Sp)(b:Nat)(a:Oa)(c:Nat)(st:Ps)(d:Int)(h:Lr)(hO:SOk m h s)(hu:spP s=true)(hS:∀x∈s.bl,POk m h x/\Vld x/\PRC m x/\d+1+2*(W9 x:Int)<=100000)(hd:0<=d/\d<=100000)(hn:st.1.length<=2049) :
 CT prog 143 [ptV b,spV s,.int .i64 d] (prB b a c st::prW a c st::h) m (λ_ _ h'=>PrR b h (B8 st (M0 s d)) h'):=by
 obtain⟨hk,hnl,h5,h4⟩:=c1S hu;have hty:s.ty.proto.length<=9223372036854775807:=qr hO.ty.p (by decide);have hls:=c0b s d;have hfw:=hO.fw;refine cB [0,2,4,6,8,13,14,26,45,62,92,97,132,133,134,135] func143 λ_=>?_;refine xX λb4=>?_
 refine ZZ [0,2] ?_;refine xJ (E3 Et Ek Ef) (b9c 211 (λs=>[R2 s]) [44] _ _ _ s.names.l _ (hO.nr.mono Vl Sb) (by omega) (λ_ _=>(by decide:1<=3000)) (λx _ h2 _=>a2W x h2 m)) λa11 c11=>?_;refine ZZ [1,2,2,0] ?_;refine wE ?_ ?_<;>intro c14
 obtain⟨T1,hT1⟩:∃T,T=(M7 s.ty++K2 s.names.l)++[A6 [58]]:=⟨_,rfl⟩;rw[if_pos c14,<-hT1]at hls;refine kA4 ?_;refine xJ (E1 Et) (a2o hg s.ty _ hty) λa20 c20=>?_
 refine kA1 ?_;refine xY M3 Eb λb22=>?_;refine xJ (E1 Et) (D1 hg _ 1 _ [[58]] _ Rr (by decide) (by decide)) λa23 c23=>?_
 refine xY N0 Eb λb24=>?_;refine kR a20 λp20 q20 r20=>?_
 refine kR a11 λp11 q11 r11=>?_;refine kR a23 λp23 q23 r23=>?_
 refine pP (prB b a c st) (prW a c st) ?_;refine xg (E3 Et Et Et) (G9 hg hp b a c st d _ 3 _ [⟨a20,c20,M7 s.ty⟩,⟨a11,c11,K2 s.names.l⟩,⟨a23,c23,[A6 [58]]⟩] (T1) _ (Rd.ofPt rfl (by decide) Me) (B7 (iR r20 p20 q20) (B7 (iR r11 p11 q11) (B7 (iR r23 p23 q23) I0))) (by decide) (B7 (qr (a3H _) (by decide)) (B7 (a3T s.names.l (by omega)) (B7 (by simp) I0))) (by rw[hT1];simp) (by rw[hT1];exact G8 (G8 a9p (a7Z hO.nw)) (Y2 (by decide))) hn) ?_;rintro _ _ ⟨a25,c25,rfl⟩;rw[show D5 st (d,T1)=B8 st (M0 s d) by rw[hls];rfl];refine WL.nil (w0 (prB b a25 c25 (B8 st (M0 s d))::prW a25 c25 (B8 st (M0 s d))::h) ?_);exact⟨a25,c25,rfl⟩;refine y3 ?_ ?_<;>intro c26
 obtain⟨T2,hT2⟩:∃T,T=(((([A6 [86,65,76]]++M7 s.ty)++K2 s.names.l)++[A6 [73,83]])++G3 s.e)++[A6 [58]]:=⟨_,rfl⟩;rw[if_neg c14,if_pos c26,<-hT2]at hls;refine jE ?_;refine a0X [2,3,6,8,9,12,13,4096] (.op 0 (.op 1 (.op 4 (.op 5 (.op 7 (.op 10 (.op 11 (.op 2 (.op 3 (.op 6 (.op 8 (.op 9 (.op 12 (.op 13 .nil)))))))))))))) [14,15,16] _ [] C9 (λ_ _ _ h=>a2h h) [0,1,7] (by kernel_rfl) ?_;refine kA7 ?_;refine sB rfl M3 λb30=>?_
 refine H2 rfl rfl Ef (E1 (Ev.tmp rfl)) (λfr=>D1 hg _ 1 _ [[86,65,76]] _ (Rd.fr Rr fr) (by decide) (by decide)) Lb λa31 c31=>?_;refine H2 rfl rfl Ef (E1 Et) (λfr=>a2o hg s.ty _ hty) Lb λa34 c34=>?_
 refine sB rfl M3 λb36=>?_;refine H2 rfl rfl Ef (E1 (Ev.tmp rfl)) (λfr=>D1 hg _ 1 _ [[73,83]] _ (Rd.fr Rr fr) (by decide) (by decide)) Lb λa37 c37=>?_
 refine H2 rfl rfl Ef (E1 Et) (λfr=>K8 hg s.e _ (hO.e.mono Sb)) Lb λa40 c40=>?_;refine sB rfl M3 λb41=>?_
 refine nS ?_;refine xJ (E1 Et) (D1 hg _ 1 _ [[58]] _ Rr (by decide) (by decide)) λa42 c42=>?_;refine xY N0 Eb λb43=>?_
 refine kR a31 λp31 q31 r31=>?_;refine kR a34 λp34 q34 r34=>?_
 refine kR a11 λp11 q11 r11=>?_;refine kR a37 λp37 q37 r37=>?_
 refine kR a40 λp40 q40 r40=>?_;refine kR a42 λp42 q42 r42=>?_
 refine pP (prB b a c st) (prW a c st) ?_;refine xg (E3 Et Et Et) (G9 hg hp b a c st d _ 6 _ [⟨a31,c31,[A6 [86,65,76]]⟩,⟨a34,c34,M7 s.ty⟩,⟨a11,c11,K2 s.names.l⟩,⟨a37,c37,[A6 [73,83]]⟩,⟨a40,c40,G3 s.e⟩,⟨a42,c42,[A6 [58]]⟩] (T2) _ (Rd.ofPt rfl (by decide) Me) (B7 (iR r31 p31 q31) (B7 (iR r34 p34 q34) (B7 (iR r11 p11 q11) (B7 (iR r37 p37 q37) (B7 (iR r40 p40 q40) (B7 (iR r42 p42 q42) I0)))))) (by decide) (B7 (by simp) (B7 (qr (a3H _) (by decide)) (B7 (a3T s.names.l (by omega)) (B7 (by simp) (B7 (qr (M8 _) (by decide)) (B7 (by simp) I0)))))) (by rw[hT2];simp) (by rw[hT2];exact G8 (G8 (G8 (G8 (G8 (Y2 (by decide)) a9p) (a7Z hO.nw)) (Y2 (by decide))) (a3h hO.e)) (Y2 (by decide))) hn) ?_;rintro _ _ ⟨a44,c44,rfl⟩;rw[show D5 st (d,T2)=B8 st (M0 s d) by rw[hls];rfl];refine WL.nil (w0 (prB b a44 c44 (B8 st (M0 s d))::prW a44 c44 (B8 st (M0 s d))::h) ?_);exact⟨a44,c44,rfl⟩
 refine y3 ?_ ?_<;>intro c45
 obtain⟨T3,hT3⟩:∃T,T=(((M7 s.ty++K2 s.names.l)++[A6 [73,83]])++G3 s.e)++[A6 [58]]:=⟨_,rfl⟩;rw[if_neg c14,if_neg c26,if_pos c45,<-hT3]at hls;refine jE ?_;refine a0X [4,6,7,10,11,4096] (.op 0 (.op 1 (.op 2 (.op 3 (.op 5 (.op 8 (.op 9 (.op 4 (.op 6 (.op 7 (.op 10 (.op 11 .nil)))))))))))) [12,13,14] _ [] C9 (λ_ _ _ h=>a2h h) [0,1,5] (by kernel_rfl) ?_;refine kA7 ?_;refine H2 rfl rfl Ef (E1 Et) (λfr=>a2o hg s.ty _ hty) Lb λa51 c51=>?_
 refine sB rfl M3 λb53=>?_;refine H2 rfl rfl Ef (E1 (Ev.tmp rfl)) (λfr=>D1 hg _ 1 _ [[73,83]] _ (Rd.fr Rr fr) (by decide) (by decide)) Lb λa54 c54=>?_
 refine H2 rfl rfl Ef (E1 Et) (λfr=>K8 hg s.e _ (hO.e.mono Sb)) Lb λa57 c57=>?_;refine sB rfl M3 λb58=>?_
 refine nS ?_;refine xJ (E1 Et) (D1 hg _ 1 _ [[58]] _ Rr (by decide) (by decide)) λa59 c59=>?_;refine xY N0 Eb λb60=>?_
 refine kR a51 λp51 q51 r51=>?_;refine kR a11 λp11 q11 r11=>?_
 refine kR a54 λp54 q54 r54=>?_;refine kR a57 λp57 q57 r57=>?_
 refine kR a59 λp59 q59 r59=>?_;refine pP (prB b a c st) (prW a c st) ?_;refine xg (E3 Et Et Et) (G9 hg hp b a c st d _ 5 _ [⟨a51,c51,M7 s.ty⟩,⟨a11,c11,K2 s.names.l⟩,⟨a54,c54,[A6 [73,83]]⟩,⟨a57,c57,G3 s.e⟩,⟨a59,c59,[A6 [58]]⟩] (T3) _ (Rd.ofPt rfl (by decide) Me) (B7 (iR r51 p51 q51) (B7 (iR r11 p11 q11) (B7 (iR r54 p54 q54) (B7 (iR r57 p57 q57) (B7 (iR r59 p59 q59) I0))))) (by decide) (B7 (qr (a3H _) (by decide)) (B7 (a3T s.names.l (by omega)) (B7 (by simp) (B7 (qr (M8 _) (by decide)) (B7 (by simp) I0))))) (by rw[hT3];simp) (by rw[hT3];exact G8 (G8 (G8 (G8 a9p (a7Z hO.nw)) (Y2 (by decide))) (a3h hO.e)) (Y2 (by decide))) hn) ?_;rintro _ _ ⟨a61,c61,rfl⟩;rw[show D5 st (d,T3)=B8 st (M0 s d) by rw[hls];rfl];refine WL.nil (w0 (prB b a61 c61 (B8 st (M0 s d))::prW a61 c61 (B8 st (M0 s d))::h) ?_);exact⟨a61,c61,rfl⟩;refine y3 ?_ ?_<;>intro c62
 obtain⟨T5,hT5⟩:∃T,T=((([A6 [80,82,79,67]]++K2 s.names.l)++[A6 [40]])++E7 [44] U2 s.fs.l)++[A6 [41]]:=⟨_,rfl⟩;rw[if_neg c14,if_neg c26,if_neg c45,if_pos c62,<-hT5]at hls;obtain⟨hbl,hfl⟩:=h5 c62;obtain⟨y,hy⟩:=A8 (l:=s.bl) (k:=0) (by omega);obtain⟨hy1,hy2,hy3,hy4⟩:=hS y (qe hy);have hrb:=hO.b;have hcy:=a7h y;have hbe:s.bl=[y]:=by
  cases hb:s.bl with
  |nil=>rw[hb]at hy;cases hy
  |cons z r=>
   rw[hb]at hy hbl;cases hy;cases r with
   |nil=>rfl
   |cons u v=>simp at hbl
 refine jE ?_;refine a0X [2,3,5,6,9,10,4096] (.op 0 (.op 1 (.op 4 (.op 7 (.op 8 (.op 2 (.op 3 (.op 5 (.op 6 (.op 9 (.op 10 .nil))))))))))) [11,12,13] _ [] C9 (λ_ _ _ h=>a2h h) [0,1,4] (by kernel_rfl) ?_;refine kA5 ?_;refine sB rfl M3 λb66=>?_;refine H2 rfl rfl Ef (E1 (Ev.tmp rfl)) (λfr=>D1 hg _ 1 _ [[80,82,79,67]] _ (Rd.fr Rr fr) (by decide) (by decide)) Lb λa67 c67=>?_
 refine sB rfl M3 λb69=>?_;refine H2 rfl rfl Ef (E1 (Ev.tmp rfl)) (λfr=>D1 hg _ 1 _ [[40]] _ (Rd.fr Rr fr) (by decide) (by decide)) Lb λa70 c70=>?_
 refine H2 rfl rfl Ef (E3 Et Ek Ef) (λfr=>b9o 215 U2 [44] _ _ _ s.fs.l _ (hO.fr.mono Vl Sb) (by omega) (λx _=>qr (b1Q x) (by decide)) (λx hx h2 _=>b7c hg x h2 (hO.fw x hx))) Lb λa73 c73=>?_;refine sB rfl M3 λb74=>?_
 refine nS ?_;refine xJ (E1 Et) (D1 hg _ 1 _ [[41]] _ Rr (by decide) (by decide)) λa75 c75=>?_;refine xY N0 Eb λb76=>?_
 refine kR a67 λp67 q67 r67=>?_;refine kR a11 λp11 q11 r11=>?_
 refine kR a70 λp70 q70 r70=>?_;refine kR a73 λp73 q73 r73=>?_
 refine kR a75 λp75 q75 r75=>?_;refine pP (prB b a c st) (prW a c st) ?_;refine xg (E3 Et Et Et) (G9 hg hp b a c st d _ 5 _ [⟨a67,c67,[A6 [80,82,79,67]]⟩,⟨a11,c11,K2 s.names.l⟩,⟨a70,c70,[A6 [40]]⟩,⟨a73,c73,E7 [44] U2 s.fs.l⟩,⟨a75,c75,[A6 [41]]⟩] (T5) _ (Rd.ofPt rfl (by decide) Me) (B7 (iR r67 p67 q67) (B7 (iR r11 p11 q11) (B7 (iR r70 p70 q70) (B7 (iR r73 p73 q73) (B7 (iR r75 p75 q75) I0))))) (by decide) (B7 (by simp) (B7 (a3T s.names.l (by omega)) (B7 (by simp) (B7 (c1i [44] s.fs.l (by omega)) (B7 (by simp) I0))))) (by rw[hT5];simp) (by rw[hT5];exact G8 (G8 (G8 (G8 (Y2 (by decide)) (a7Z hO.nw)) (Y2 (by decide))) (b5b (by decide) λx hx=>c7y (hO.fw x hx))) (Y2 (by decide))) hn) ?_;rintro _ _ ⟨a77,c77,rfl⟩;refine ZZ [0,3] ?_;refine xG (D7 U0.und U0.size U0.posz (Ev.tmp rfl) Ek Rr rfl (q:=0) (by omega)) ?_;refine kA3 ?_;refine pP (prB b a77 c77 (D5 st (d,T5))) (prW a77 c77 (D5 st (d,T5))) ?_
 refine xg (E3 Et Et Et) (hy3 b a77 c77 (D5 st (d,T5)) (d+1) _ (hy1.mono Sb) hy2 (by omega) (W8 hn)) ?_;rintro _ _ ⟨a85,c85,rfl⟩;refine ZZ [0,2] ?_;refine xY M3 Eb λb88=>?_;refine xJ (E1 Et) (D1 hg _ 1 _ [[58]] _ Rr (by decide) (by decide)) λa89 c89=>?_
 refine xY N0 Eb λb90=>?_;refine kR a89 λp89 q89 r89=>?_
 refine pP (prB b a85 c85 (B8 (D5 st (d,T5)) (J7 y (d+1)))) (prW a85 c85 (B8 (D5 st (d,T5)) (J7 y (d+1)))) ?_;refine xg (E3 Et Et Et) (G9 hg hp b a85 c85 (B8 (D5 st (d,T5)) (J7 y (d+1))) d _ 1 _ [⟨a89,c89,[A6 [58]]⟩] ([A6 [58]]) _ (Rd.ofPt rfl (by decide) Me) (B7 (iR r89 p89 q89) I0) (by decide) (B7 (by simp) I0) (by simp) ((Y2 (by decide))) (a0O _ (W8 hn))) ?_;rintro _ _ ⟨a91,c91,rfl⟩;rw[show D5 (B8 (D5 st (d,T5)) (J7 y (d+1))) (d,[A6 [58]])=B8 st (M0 s d) by rw[hls,a1s,a0M,hbe];rfl];refine WL.nil (w0 (prB b a91 c91 (B8 st (M0 s d))::prW a91 c91 (B8 st (M0 s d))::h) ?_);exact⟨a91,c91,rfl⟩;refine y3 ?_ ?_<;>intro c92
 have hm:=h4 c92;obtain⟨hv1,hv2⟩:=b9q hm;have hv3:=Go.Ty.mayPr_items hm;have hvg:=b9j hm;have hg0:=c8k hv1;have hgm:=qe hg0;have hvr:=hO.v.rd;have hvi:=(hO.v.ok _ hgm).rd;have hvn:=hO.vw _ hgm;have hv3h:=hv3 _ hgm;rw[if_neg c14,if_neg c26,if_neg c45,if_neg c62]at hls;refine Z4 ?_;refine wc ?_ ?_<;>intro c97
 have d97:s.cs=false:=by simpa using c97
 obtain⟨T4,hT4⟩:∃T,T=((([A6 [80,82,79,84,79,67,79,76]]++K2 s.names.l)++[A6 [73,83]])++E7 [59] a1I (hdV s.vs.l).items)++[A6 [58]]:=⟨_,rfl⟩;rw[if_pos d97,<-hT4]at hls;refine jE ?_;refine a0X [2,3,5,6,13,14,4096] (.op 0 (.op 1 (.op 4 (.op 7 (.op 8 (.op 9 (.op 10 (.op 11 (.op 12 (.op 2 (.op 3 (.op 5 (.op 6 (.op 13 (.op 14 .nil))))))))))))))) [15,16,17] _ [] C9 (λ_ _ _ h=>a2h h) [0,1,4] (by kernel_rfl) ?_;refine kA6 ?_;refine yG rfl (D7 a0j.und a0j.size a0j.posz (Ev.tmp rfl) Ek Rr rfl (q:=0) (by omega)) ?_;refine kA2 ?_;refine sB rfl M3 λb100=>?_
 refine H2 rfl rfl Ef (E1 (Ev.tmp rfl)) (λfr=>D1 hg _ 1 _ [[80,82,79,84,79,67,79,76]] _ (Rd.fr Rr fr) (by decide) (by decide)) Lb λa101 c101=>?_;refine sB rfl M3 λb103=>?_
 refine H2 rfl rfl Ef (E1 (Ev.tmp rfl)) (λfr=>D1 hg _ 1 _ [[73,83]] _ (Rd.fr Rr fr) (by decide) (by decide)) Lb λa104 c104=>?_;refine H2 rfl rfl Ef (E3 Et Ek Ef) (λfr=>b1Y 217 a1I [59] _ _ _ (hdV s.vs.l).items _ (hvi.mono Vl Sb) (by omega) (λx _=>qr (b3a x) (by decide)) (λx _ h2 _=>b3B hg x h2)) Lb λa111 c111=>?_
 refine sB rfl M3 λb112=>?_;refine nS ?_;refine xJ (E1 Et) (D1 hg _ 1 _ [[58]] _ Rr (by decide) (by decide)) λa113 c113=>?_
 refine xY N0 Eb λb114=>?_;refine kR a101 λp101 q101 r101=>?_
 refine kR a11 λp11 q11 r11=>?_;refine kR a104 λp104 q104 r104=>?_
 refine kR a111 λp111 q111 r111=>?_;refine kR a113 λp113 q113 r113=>?_
 refine pP (prB b a c st) (prW a c st) ?_;refine xg (E3 Et Et Et) (G9 hg hp b a c st d _ 5 _ [⟨a101,c101,[A6 [80,82,79,84,79,67,79,76]]⟩,⟨a11,c11,K2 s.names.l⟩,⟨a104,c104,[A6 [73,83]]⟩,⟨a111,c111,E7 [59] a1I (hdV s.vs.l).items⟩,⟨a113,c113,[A6 [58]]⟩] (T4) _ (Rd.ofPt rfl (by decide) Me) (B7 (iR r101 p101 q101) (B7 (iR r11 p11 q11) (B7 (iR r104 p104 q104) (B7 (iR r111 p111 q111) (B7 (iR r113 p113 q113) I0))))) (by decide) (B7 (by simp) (B7 (a3T s.names.l (by omega)) (B7 (by simp) (B7 (qr (b0n [59] (hdV s.vs.l).items (by omega)) (by decide)) (B7 (by simp) I0))))) (by rw[hT4];simp) (by rw[hT4];exact G8 (G8 (G8 (G8 (Y2 (by decide)) (a7Z hO.nw)) (Y2 (by decide))) c3y) (Y2 (by decide))) hn) ?_;rintro _ _ ⟨a115,c115,rfl⟩;rw[show D5 st (d,T4)=B8 st (M0 s d) by rw[hls];rfl];refine Z0 ?_
 refine WC.ret (a6p (h':=prB b a115 c115 (B8 st (M0 s d))::prW a115 c115 (B8 st (M0 s d))::h) (.inl rfl) rfl  Vl Sb ?_);exact⟨a115,c115,rfl⟩;have d97:¬(s.cs=false):=by simpa using c97
 obtain⟨T6,hT6⟩:∃T,T=[A6 [80,82,79,84,79,67,79,76]]++K2 s.names.l:=⟨_,rfl⟩;rw[if_neg d97,<-hT6]at hls;refine ZZ [0,2] ?_;refine xY M3 Eb λb118=>?_
 refine xJ (E1 Et) (D1 hg _ 1 _ [[80,82,79,84,79,67,79,76]] _ Rr (by decide) (by decide)) λa119 c119=>?_;refine kA1 ?_;refine xY N0 Eb λb121=>?_
 refine kR a119 λp119 q119 r119=>?_;refine kR a11 λp11 q11 r11=>?_
 refine pP (prB b a c st) (prW a c st) ?_;refine xg (E3 Et Et Et) (G9 hg hp b a c st d _ 2 _ [⟨a119,c119,[A6 [80,82,79,84,79,67,79,76]]⟩,⟨a11,c11,K2 s.names.l⟩] (T6) _ (Rd.ofPt rfl (by decide) Me) (B7 (iR r119 p119 q119) (B7 (iR r11 p11 q11) I0)) (by decide) (B7 (by simp) (B7 (a3T s.names.l (by omega)) I0)) (by rw[hT6];simp) (by rw[hT6];exact G8 (Y2 (by decide)) (a7Z hO.nw)) hn) ?_;rintro _ _ ⟨a122,c122,rfl⟩;refine ZZ [0,3] ?_;refine xY M3 Eb λb126=>?_;refine xJ (E1 Et) (D1 hg _ 1 _ [[67,65,83,69]] _ Rr (by decide) (by decide)) λa127 c127=>?_
 refine xY N0 Eb λb128=>?_;refine kR a127 λp127 q127 r127=>?_
 refine pP (prB b a122 c122 (D5 st (d,T6))) (prW a122 c122 (D5 st (d,T6))) ?_;refine xg (E3 Et Et Et) (G9 hg hp b a122 c122 (D5 st (d,T6)) (d+1) _ 1 _ [⟨a127,c127,[A6 [67,65,83,69]]⟩] ([A6 [67,65,83,69]]) _ (Rd.ofPt rfl (by decide) Me) (B7 (iR r127 p127 q127) I0) (by decide) (B7 (by simp) I0) (by simp) ((Y2 (by decide))) (W8 hn)) ?_;rintro _ _ ⟨a129,c129,rfl⟩;refine ZZ [0,5,0] ?_
 refine lI [0,2,132,133] (λμ F' h'=>∃a9:Oa,∃c9:Nat,∃j:Nat,(j<=s.vs.l.length)/\s.vs.l.length-j=μ/\F'=[(134,.int .i64 j)]/\prB b a9 c9 (B8 (D5 (D5 st (d,T6)) (d+1,[A6 [67,65,83,69]])) ((s.vs.l.take j).map λv=>((d+2,L0 v):Ln)))::prW a9 c9 (B8 (D5 (D5 st (d,T6)) (d+1,[A6 [67,65,83,69]])) ((s.vs.l.take j).map λv=>((d+2,L0 v):Ln)))::h=h') (s.vs.l.length-0) [(134,.int .i64 0)] (prB b a129 c129 (B8 (D5 (D5 st (d,T6)) (d+1,[A6 [67,65,83,69]])) ((s.vs.l.take 0).map λv=>((d+2,L0 v):Ln)))::prW a129 c129 (B8 (D5 (D5 st (d,T6)) (d+1,[A6 [67,65,83,69]])) ((s.vs.l.take 0).map λv=>((d+2,L0 v):Ln)))::h) ⟨a129,c129,0,qi _,rfl,rfl,rfl⟩ ?_;rintro _ _ _ ⟨a9,c9,j,hj,rfl,rfl,rfl⟩;refine A9 rfl ?_;refine y4 ?_ ?_<;>intro c135
 obtain⟨v,hv⟩:=A8 (l:=s.vs.l) (k:=j) (by omega);have hvm:=qe hv;have hvi:=(hO.v.ok _ hvm).rd;have hvn:=hO.vw _ hvm;have hv3v:=hv3 _ hvm;have hst:D5 (B8 (D5 (D5 st (d,T6)) (d+1,[A6 [67,65,83,69]])) ((s.vs.l.take j).map λv=>((d+2,L0 v):Ln))) (d+2,L0 v)=(B8 (D5 (D5 st (d,T6)) (d+1,[A6 [67,65,83,69]])) ((s.vs.l.take (j+1)).map λv=>((d+2,L0 v):Ln))):=by rw[a3u hv,qZ,zj,<-b6R]
 have hvt:L0 v=[R2 v.tag]++a3i [59] (E7 [59] a1I v.items):=rfl;refine ZZ [0,2] ?_;refine xW λb8=>?_;refine Z1 ?_;refine a0X [5,8,9,10,4096] (.op 0 (.op 1 (.op 2 (.op 3 (.op 4 (.op 6 (.op 7 (.op 5 (.op 8 (.op 9 (.op 10 .nil))))))))))) [11] _ [] C9 (λ_ _ _ h=>a2h h) [] (by kernel_rfl) ?_;refine kA2 ?_;refine yG rfl (K3 Et Ek (by omega)) ?_;refine kA4 ?_;refine H2 rfl rfl Ef (E1 Et) (λfr=>a2W v.tag _ _) Lb λa143 c143=>?_
 refine H2 rfl rfl Ef (E3 Et Ek Ef) (λfr=>b1Y 217 a1I [59] _ _ _ v.items _ (hvi.mono Vl Sb) (by omega) (λx _=>qr (b3a x) (by decide)) (λx _ h2 _=>b3B hg x h2)) Lb λa146 c146=>?_;refine H2 rfl rfl Ef (E2 Ek Et) (λfr=>CT.knowRow call218 (a:=a146) (qE _ Me) (λp9 q9 r9=>b4k hg [59] (by decide) _ _ _ (E7 [59] a1I v.items) _ (Rd.ofRow r9 p9 q9 (qE _ Me)) (qr (b0n [59] v.items (by omega)) (by decide)))) Lb λa147 c147=>?_
 refine sB rfl N0 λb148=>?_;refine nS ?_;refine kR a143 λp143 q143 r143=>?_
 refine kR a147 λp147 q147 r147=>?_;refine pP (prB b a9 c9 (B8 (D5 (D5 st (d,T6)) (d+1,[A6 [67,65,83,69]])) ((s.vs.l.take j).map λv=>((d+2,L0 v):Ln)))) (prW a9 c9 (B8 (D5 (D5 st (d,T6)) (d+1,[A6 [67,65,83,69]])) ((s.vs.l.take j).map λv=>((d+2,L0 v):Ln)))) ?_;refine xg (E3 Et Et Et) (G9 hg hp b a9 c9 (B8 (D5 (D5 st (d,T6)) (d+1,[A6 [67,65,83,69]])) ((s.vs.l.take j).map λv=>((d+2,L0 v):Ln))) (d+2) _ 2 _ [⟨a143,c143,[R2 v.tag]⟩,⟨a147,c147,a3i [59] (E7 [59] a1I v.items)⟩] (L0 v) _ (Rd.ofPt rfl (by decide) Me) (B7 (iR r143 p143 q143) (B7 (iR r147 p147 q147) I0)) (by decide) (B7 (by simp) (B7 (b8b [59] (b0n [59] v.items (by omega))) I0)) (by rw[hvt];simp) (by rw[hvt];exact G8 (b1T (hvg v hvm)) (c7f (by decide) c3y)) (a0O _ (W8 (W8 hn)))) ?_;rintro _ _ ⟨a149,c149,rfl⟩;rw[hst];refine ZZ [0,2] ?_
 exact WL.nil (lN (s.vs.l.length-(j+1)) [(134,.int .i64 (j+1))] (prB b a149 c149 (B8 (D5 (D5 st (d,T6)) (d+1,[A6 [67,65,83,69]])) ((s.vs.l.take (j+1)).map λv=>((d+2,L0 v):Ln)))::prW a149 c149 (B8 (D5 (D5 st (d,T6)) (d+1,[A6 [67,65,83,69]])) ((s.vs.l.take (j+1)).map λv=>((d+2,L0 v):Ln)))::h) ⟨a149,c149,j+1,by omega,rfl,rfl,rfl⟩);rw[qC (by omega)];refine ZZ [0,2] ?_;refine xY M3 Eb λb153=>?_;refine xJ (E1 Et) (D1 hg _ 1 _ [[58]] _ Rr (by decide) (by decide)) λa154 c154=>?_
 refine xY N0 Eb λb155=>?_;refine kR a154 λp154 q154 r154=>?_
 refine pP (prB b a9 c9 (B8 (D5 (D5 st (d,T6)) (d+1,[A6 [67,65,83,69]])) (s.vs.l.map λv=>((d+2,L0 v):Ln)))) (prW a9 c9 (B8 (D5 (D5 st (d,T6)) (d+1,[A6 [67,65,83,69]])) (s.vs.l.map λv=>((d+2,L0 v):Ln)))) ?_;refine xg (E3 Et Et Et) (G9 hg hp b a9 c9 (B8 (D5 (D5 st (d,T6)) (d+1,[A6 [67,65,83,69]])) (s.vs.l.map λv=>((d+2,L0 v):Ln))) d _ 1 _ [⟨a154,c154,[A6 [58]]⟩] ([A6 [58]]) _ (Rd.ofPt rfl (by decide) Me) (B7 (iR r154 p154 q154) I0) (by decide) (B7 (by simp) I0) (by simp) ((Y2 (by decide))) (a0O _ (W8 (W8 hn)))) ?_;rintro _ _ ⟨a156,c156,rfl⟩;rw[show D5 (B8 (D5 (D5 st (d,T6)) (d+1,[A6 [67,65,83,69]])) (s.vs.l.map λv=>((d+2,L0 v):Ln))) (d,[A6 [58]])=B8 st (M0 s d) by rw[hls,a1s,a1s,a0M];rfl];refine WL.nil (w0 (prB b a156 c156 (B8 st (M0 s d))::prW a156 c156 (B8 st (M0 s d))::h) ?_);exact⟨a156,c156,rfl⟩;omega
theorem a6C(k:Int):(C4 k).1.t1<=9/\(C4 k).1.e1<=9/\((C4 k).2=true->1<=k/\k<=18):=by
 by_cases h:1<=k/\k<=18
 ·refine⟨?_,?_,λ_=>h⟩ <;>
  (obtain h|h|h|h|h|h|h|h|h|h|h|h|h|h|h|h|h|h:k=1\/k=2\/k=3\/k=4\/k=5\/k=6\/k=7\/k=8\/k=9\/k=10\/k=11\/k=12\/k=13\/k=14\/k=15\/k=16\/k=17\/k=18:=by omega)<;>(rw[h];decide)
 ·have e:C4 k=(us0,false):=by
   unfold C4;repeat rw[if_neg (by omega)]
  rw[e];exact⟨by decide,by decide,nofun⟩
theorem c3x{p:Pr}(h:W2 p=true)(hk:p.k=11):p.pn.l.length=p.ll.length:=by
 unfold W2 at h;split at h
 ·cases h
 ·have key:a0k p (C4 p.k).1=true:=by
   split at h
   ·rw[hk]at h;cases h
   ·exact h
  rw[hk]at key;unfold a0k at key;simp only[qa]at key;have:=(Y4 key.1.2).2;have e:((C4 11).1).procs=true:=rfl;rw[e]at this;simp only[if_true]at this;omega
def c7p(k:Int)(n:Int)(x:Pr)(d:Int):List Ln:=if k=11 then(d+1,[A6 [80,82,79,67,69,83,83,79,82],⟨3,0,[],IntKind.i32.wrap n⟩])::J7 x (d+2)else J7 x (d+1)
theorem a8p{k:Int}{x:Pr}{d:Int}:∀{ns:List Int}{l:List Pr}{j:Nat},l[j]?=some x->G5 k ns (l.take (j+1)) d=G5 k ns (l.take j) d++c7p k ((ns.drop j).headD 0) x d
 |ns,[],j,h=>by cases h
 |ns,y::l,0,h=>by
  cases h;show(if k=11 then _ else _)++G5 k ns.tail [] d=[]++c7p k (ns.headD 0) x d;rw[show G5 k ns.tail [] d=[] by cases ns.tail<;>rfl,zF,zO];rfl
 |ns,y::l,j+1,h=>by
  have ih:=a8p (k:=k) (d:=d) (ns:=ns.tail) (l:=l) (j:=j) (by simpa using h);show(if k=11 then _ else _)++G5 k ns.tail (l.take (j+1)) d=((if k=11 then _ else _)++G5 k ns.tail (l.take j) d)++_;rw[ih,qj];cases ns<;>simp
theorem a7v{d:Int}{g:Gu}:∀{l:List Gu}{j:Nat},l[j]?=some g->L1 (l.take (j+1)) d=L1 (l.take j) d++a0G g d
 | [],j,h=>by cases h
 |y::l,0,h=>by
  cases h;exact zF _
 |y::l,j+1,h=>by
  have ih:=a7v (d:=d) (l:=l) (j:=j) (by simpa using h);show a0G y d++L1 (l.take (j+1)) d=(a0G y d++L1 (l.take j) d)++_;rw[ih,qj]
theorem b9I(p:Pr)(d:Int):J7 p d=if p.k=18 then M0 p.sp d++a2A p.ll d else(d,F6 p.k p.name p.ch p.tg.l p.ex.l p.rep)::(G5 p.k p.pn.l p.ll d++L1 p.gl (d+1)):=by cases p;rfl
theorem c4E{l:List Int}{j:Nat}{y:Int}(h:l[j]?=some y):(l.drop j).headD 0=y:=by have h1:=(qd.1 h);rw[qq h1.1];exact h1.2
theorem c8s(v:Int):-2147483648<=IntKind.i32.wrap v/\IntKind.i32.wrap v<=2147483647:=by unfold IntKind.wrap;simp[IntKind.bits,IntKind.signed];omega
theorem c8q(y:Int):TkL [A6 [80,82,79,67,69,83,83,79,82],⟨3,0,[],IntKind.i32.wrap y⟩]:=a2I (Y2 (by decide)) (λx hx=>by
 rw[qy]at hx;subst hx;exact⟨c8s y,qi _⟩)
theorem c3e{m:View}(hg:Glob m)(hp:Pow m)(p:Pr):PRC m p:=by
 refine Pr.ind (q:=λp=>PRC m p) (λp ih b a c st d h hP hv hd hn=>?_) p;have hV:=hv.own;have hO:=hP.own;have hkk:=(a6C p.k).2.2 hV.kd;have hls:=b9I p d;have hrl:=hO.l;have hrn:=hO.pn;have hrg:=hO.g;have hlx:=qr hrl.le hrl.mx;have hgx:=qr hrg.le hrg.mx;have hpl:W2 p=true:=by cases hv with|mk q _=>exact q
 refine cB [0,2,4,6,7,9,12,30,31,32,33,39,67,68,69,70] func76 λ_=>?_;refine xX λb4=>?_
 refine ZZ [0,3,0] ?_;refine wE ?_ ?_<;>intro c12
 have hrp:p.rep.name=[]:=by
  by_cases e:p.rep.name=[]
  ·exact e
  ·have:=hV.rp e;rw[c12]at this;cases this
 have hpn:=hV.pn hrp;rw[c12]at hpn;have hl1:p.ll.length=1:=by have e1:(C4 18).1.p0=1:=rfl;have e2:(C4 18).1.p1=1:=rfl;rw[e1,e2]at hpn;omega
 obtain⟨y,hy⟩:=A8 (l:=p.ll) (k:=0) (by omega);have hin:In y p:=.l (qe hy);have hle:p.ll=[y]:=by
  cases hb:p.ll with
  |nil=>rw[hb]at hy;cases hy
  |cons z r=>
   rw[hb]at hy hl1;cases hy;cases r with
   |nil=>rfl
   |cons u v=>simp at hl1
 have hlt:=hin.lt;rw[if_pos c12]at hls;refine kA4 ?_;refine pP (prB b a c st) (prW a c st) ?_;refine xg (E3 Et Et Et) (c2n hg hp p.sp b a c st d _ (hO.sp.mono Sb) (hV.sp (by rw[c12];rfl)) (λx hx=>⟨(hP.sub (.s hx)).mono Sb,hv.sub (.s hx),ih x (.s hx),by have:=(In.s hx).lt;omega⟩) (by omega) hn) ?_;rintro _ _ ⟨a17,c17,rfl⟩;refine ZZ [0,3] ?_;refine xG (D7 U0.und U0.size U0.posz (Ev.tmp rfl) Ek Rr rfl (q:=0) (by omega)) ?_;refine kA2 ?_;refine pP (prB b a17 c17 (B8 st (M0 p.sp d))) (prW a17 c17 (B8 st (M0 p.sp d))) ?_;refine xg (E3 Et Et Et) (ih y hin b a17 c17 (B8 st (M0 p.sp d)) d _ ((hP.sub hin).mono Sb) (hv.sub hin) (by omega) (a0O _ hn)) ?_;rintro _ _ ⟨a24,c24,rfl⟩;rw[show B8 (B8 st (M0 p.sp d)) (J7 y d)=B8 st (J7 p d) by rw[hls,a0M,hle];rfl];refine Z0 ?_;refine WC.ret (a6p (h':=prB b a24 c24 (B8 st (J7 p d))::prW a24 c24 (B8 st (J7 p d))::h) (.inl rfl) rfl  Vl Sb ?_)
 exact⟨a24,c24,rfl⟩;rw[if_neg c12]at hls;have hTg:p.tg.l.length<=9:=by have h1:=hV.tn.2;have h2:=(a6C p.k).1;omega
 have hEx:p.ex.l.length<=9:=by have h1:=hV.en.2;have h2:=(a6C p.k).2.1;omega
 refine ZZ [0,3] ?_;refine pP (prB b a c st) (prW a c st) ?_;refine xg (E3 Et Et Et) (c1s hg hp p b a c st d _ (hO.mono Sb) hTg hEx (by omega) (b8Q hO) hn) ?_;rintro _ _ ⟨a28,c28,rfl⟩;refine ZZ [0,4,0] ?_
 refine lI [0,2,4,30,31] (λμ F' h'=>∃a9:Oa,∃c9:Nat,∃j:Nat,(j<=p.ll.length)/\p.ll.length-j=μ/\F'=[(32,.int .i64 j)]/\prB b a9 c9 (B8 (D5 st (d,F6 p.k p.name p.ch p.tg.l p.ex.l p.rep)) (G5 p.k p.pn.l (p.ll.take j) d))::prW a9 c9 (B8 (D5 st (d,F6 p.k p.name p.ch p.tg.l p.ex.l p.rep)) (G5 p.k p.pn.l (p.ll.take j) d))::.pt b4 (.cells (prE p).toArray 46 (0,0))::h=h') (p.ll.length-0) [(32,.int .i64 0)] (prB b a28 c28 (B8 (D5 st (d,F6 p.k p.name p.ch p.tg.l p.ex.l p.rep)) (G5 p.k p.pn.l (p.ll.take 0) d))::prW a28 c28 (B8 (D5 st (d,F6 p.k p.name p.ch p.tg.l p.ex.l p.rep)) (G5 p.k p.pn.l (p.ll.take 0) d))::.pt b4 (.cells (prE p).toArray 46 (0,0))::h) ⟨a28,c28,0,qi _,rfl,rfl,rfl⟩ ?_;rintro _ _ _ ⟨a9,c9,j,hj,rfl,rfl,rfl⟩;refine A9 rfl ?_;refine y4 ?_ ?_<;>intro c33
 obtain⟨x,hx⟩:=A8 (l:=p.ll) (k:=j) (by omega);have hin:In x p:=.l (qe hx);have hlt:=hin.lt;have htk:=a8p (k:=p.k) (d:=d) (ns:=p.pn.l) hx;unfold c7p at htk;have hnj:(B8 (D5 st (d,F6 p.k p.name p.ch p.tg.l p.ex.l p.rep)) (G5 p.k p.pn.l (p.ll.take j) d)).1.length<=2049:=a0O _ (W8 hn);refine ZZ [0,3] ?_;refine xW λb7=>?_;refine ZZ [2,3,0] ?_;refine wE ?_ ?_<;>intro c39
 have hpk:=c3x hpl c39;obtain⟨y,hy⟩:=A8 (l:=p.pn.l) (k:=j) (by omega);rw[if_pos c39,c4E hy]at htk;refine jE ?_;refine a0X [3,4,12,13,4096] (.op 0 (.op 1 (.op 2 (.op 5 (.op 6 (.op 7 (.op 8 (.op 9 (.op 10 (.op 11 (.op 3 (.op 4 (.op 12 (.op 13 .nil)))))))))))))) [14] _ [] C9 (λ_ _ _ h=>a2h h) [] (by kernel_rfl) ?_;refine kA2 ?_;refine yG rfl (K3 Et Ek (by omega)) ?_;refine kA5 ?_;refine yG rfl (PO.conv uu3 a0R Et) ?_;refine yG rfl (PO.build C7 rfl rfl rfl Eb (by exact rfl)) ?_;refine sB rfl M3 λb43=>?_
 refine H2 rfl rfl Ef (E1 (Ev.tmp rfl)) (λfr=>D1 hg _ 1 _ [[80,82,79,67,69,83,83,79,82]] _ (Rd.fr Rr fr) (by decide) (by decide)) Lb λa44 c44=>?_;refine sB rfl B3 λb52=>?_
 refine sB rfl N0 λb53=>?_;refine nS ?_;refine kR a44 λp44 q44 r44=>?_
 refine pP (prB b a9 c9 (B8 (D5 st (d,F6 p.k p.name p.ch p.tg.l p.ex.l p.rep)) (G5 p.k p.pn.l (p.ll.take j) d))) (prW a9 c9 (B8 (D5 st (d,F6 p.k p.name p.ch p.tg.l p.ex.l p.rep)) (G5 p.k p.pn.l (p.ll.take j) d))) ?_;refine xg (E3 Et Et Et) (G9 hg hp b a9 c9 (B8 (D5 st (d,F6 p.k p.name p.ch p.tg.l p.ex.l p.rep)) (G5 p.k p.pn.l (p.ll.take j) d)) (d+1) _ 2 _ [⟨a44,c44,[A6 [80,82,79,67,69,83,83,79,82]]⟩,⟨some ⟨b52,0,none⟩,1,[⟨3,0,[],IntKind.i32.wrap y⟩]⟩] [A6 [80,82,79,67,69,83,83,79,82],⟨3,0,[],IntKind.i32.wrap y⟩] _ (Rd.ofPt rfl (by decide) Me) (B7 (iR r44 p44 q44) (B7 (Rd.ofPt rfl (show 1<=9223372036854775807 by decide) Me) I0)) (by decide) (B7 (by simp) (B7 (by simp) I0)) rfl (c8q y) hnj) ?_;rintro _ _ ⟨a54,c54,rfl⟩;refine ZZ [0,4] ?_
 refine pP (prB b a54 c54 (D5 (B8 (D5 st (d,F6 p.k p.name p.ch p.tg.l p.ex.l p.rep)) (G5 p.k p.pn.l (p.ll.take j) d)) (d+1,[A6 [80,82,79,67,69,83,83,79,82],⟨3,0,[],IntKind.i32.wrap y⟩]))) (prW a54 c54 (D5 (B8 (D5 st (d,F6 p.k p.name p.ch p.tg.l p.ex.l p.rep)) (G5 p.k p.pn.l (p.ll.take j) d)) (d+1,[A6 [80,82,79,67,69,83,83,79,82],⟨3,0,[],IntKind.i32.wrap y⟩]))) ?_;refine xg (E3 Et Et Et) (ih x hin b a54 c54 (D5 (B8 (D5 st (d,F6 p.k p.name p.ch p.tg.l p.ex.l p.rep)) (G5 p.k p.pn.l (p.ll.take j) d)) (d+1,[A6 [80,82,79,67,69,83,83,79,82],⟨3,0,[],IntKind.i32.wrap y⟩])) (d+2) _ ((hP.sub hin).mono Sb) (hv.sub hin) (by omega) (W8 hnj)) ?_;rintro _ _ ⟨a59,c59,rfl⟩
 rw[show B8 (D5 (B8 (D5 st (d,F6 p.k p.name p.ch p.tg.l p.ex.l p.rep)) (G5 p.k p.pn.l (p.ll.take j) d)) (d+1,[A6 [80,82,79,67,69,83,83,79,82],⟨3,0,[],IntKind.i32.wrap y⟩])) (J7 x (d+2))=(B8 (D5 st (d,F6 p.k p.name p.ch p.tg.l p.ex.l p.rep)) (G5 p.k p.pn.l (p.ll.take (j+1)) d)) by rw[htk,a0M,a1s]];refine ZZ [0,0,2] ?_;exact WL.nil (lN (p.ll.length-(j+1)) [(32,.int .i64 (j+1))] (prB b a59 c59 (B8 (D5 st (d,F6 p.k p.name p.ch p.tg.l p.ex.l p.rep)) (G5 p.k p.pn.l (p.ll.take (j+1)) d))::prW a59 c59 (B8 (D5 st (d,F6 p.k p.name p.ch p.tg.l p.ex.l p.rep)) (G5 p.k p.pn.l (p.ll.take (j+1)) d))::.pt b4 (.cells (prE p).toArray 46 (0,0))::h) ⟨a59,c59,j+1,by omega,rfl,rfl,rfl⟩);rw[if_neg c39]at htk;refine ZZ [0,4] ?_
 refine pP (prB b a9 c9 (B8 (D5 st (d,F6 p.k p.name p.ch p.tg.l p.ex.l p.rep)) (G5 p.k p.pn.l (p.ll.take j) d))) (prW a9 c9 (B8 (D5 st (d,F6 p.k p.name p.ch p.tg.l p.ex.l p.rep)) (G5 p.k p.pn.l (p.ll.take j) d))) ?_;refine xg (E3 Et Et Et) (ih x hin b a9 c9 (B8 (D5 st (d,F6 p.k p.name p.ch p.tg.l p.ex.l p.rep)) (G5 p.k p.pn.l (p.ll.take j) d)) (d+1) _ ((hP.sub hin).mono Sb) (hv.sub hin) (by omega) hnj) ?_;rintro _ _ ⟨a64,c64,rfl⟩;rw[show B8 (B8 (D5 st (d,F6 p.k p.name p.ch p.tg.l p.ex.l p.rep)) (G5 p.k p.pn.l (p.ll.take j) d)) (J7 x (d+1))=(B8 (D5 st (d,F6 p.k p.name p.ch p.tg.l p.ex.l p.rep)) (G5 p.k p.pn.l (p.ll.take (j+1)) d)) by rw[htk,a0M]];refine ZZ [0,2] ?_
 exact WL.nil (lN (p.ll.length-(j+1)) [(32,.int .i64 (j+1))] (prB b a64 c64 (B8 (D5 st (d,F6 p.k p.name p.ch p.tg.l p.ex.l p.rep)) (G5 p.k p.pn.l (p.ll.take (j+1)) d))::prW a64 c64 (B8 (D5 st (d,F6 p.k p.name p.ch p.tg.l p.ex.l p.rep)) (G5 p.k p.pn.l (p.ll.take (j+1)) d))::.pt b4 (.cells (prE p).toArray 46 (0,0))::h) ⟨a64,c64,j+1,by omega,rfl,rfl,rfl⟩);rw[qC (by omega)];refine ZZ [0,4,0] ?_
 refine lI [0,2,67,68] (λμ F' h'=>∃a9:Oa,∃c9:Nat,∃j:Nat,(j<=p.gl.length)/\p.gl.length-j=μ/\F'=[(69,.int .i64 j)]/\prB b a9 c9 (B8 (B8 (D5 st (d,F6 p.k p.name p.ch p.tg.l p.ex.l p.rep)) (G5 p.k p.pn.l p.ll d)) (L1 (p.gl.take j) (d+1)))::prW a9 c9 (B8 (B8 (D5 st (d,F6 p.k p.name p.ch p.tg.l p.ex.l p.rep)) (G5 p.k p.pn.l p.ll d)) (L1 (p.gl.take j) (d+1)))::.pt b4 (.cells (prE p).toArray 46 (0,0))::h=h') (p.gl.length-0) [(69,.int .i64 0)] (prB b a9 c9 (B8 (B8 (D5 st (d,F6 p.k p.name p.ch p.tg.l p.ex.l p.rep)) (G5 p.k p.pn.l p.ll d)) (L1 (p.gl.take 0) (d+1)))::prW a9 c9 (B8 (B8 (D5 st (d,F6 p.k p.name p.ch p.tg.l p.ex.l p.rep)) (G5 p.k p.pn.l p.ll d)) (L1 (p.gl.take 0) (d+1)))::.pt b4 (.cells (prE p).toArray 46 (0,0))::h) ⟨a9,c9,0,qi _,rfl,rfl,rfl⟩ ?_;rintro _ _ _ ⟨a9,c9,j,hj,rfl,rfl,rfl⟩;refine A9 rfl ?_;refine y4 ?_ ?_<;>intro c70
 obtain⟨g,hg1⟩:=A8 (l:=p.gl) (k:=j) (by omega);have hgm:=qe hg1;have hnj:(B8 (B8 (D5 st (d,F6 p.k p.name p.ch p.tg.l p.ex.l p.rep)) (G5 p.k p.pn.l p.ll d)) (L1 (p.gl.take j) (d+1))).1.length<=2049:=a0O _ (a0O _ (W8 hn));refine ZZ [0,2] ?_;refine xW λb9=>?_;refine ZZ [1,4] ?_;refine pP (prB b a9 c9 (B8 (B8 (D5 st (d,F6 p.k p.name p.ch p.tg.l p.ex.l p.rep)) (G5 p.k p.pn.l p.ll d)) (L1 (p.gl.take j) (d+1)))) (prW a9 c9 (B8 (B8 (D5 st (d,F6 p.k p.name p.ch p.tg.l p.ex.l p.rep)) (G5 p.k p.pn.l p.ll d)) (L1 (p.gl.take j) (d+1)))) ?_;refine xg (E3 Et Et Et) (b8J hg hp g b a9 c9 (B8 (B8 (D5 st (d,F6 p.k p.name p.ch p.tg.l p.ex.l p.rep)) (G5 p.k p.pn.l p.ll d)) (L1 (p.gl.take j) (d+1))) (d+1) _ ((hO.gs g hgm).mono Sb) (hV.gs g hgm).1 (λx hx=>⟨(hP.sub (.g hgm hx)).mono Sb,hv.sub (.g hgm hx),ih x (.g hgm hx),by have:=(In.g hgm hx).lt;omega⟩) (by have:=a7h p;omega) hnj) ?_;rintro _ _ ⟨a77,c77,rfl⟩
 rw[show B8 (B8 (B8 (D5 st (d,F6 p.k p.name p.ch p.tg.l p.ex.l p.rep)) (G5 p.k p.pn.l p.ll d)) (L1 (p.gl.take j) (d+1))) (a0G g (d+1))=(B8 (B8 (D5 st (d,F6 p.k p.name p.ch p.tg.l p.ex.l p.rep)) (G5 p.k p.pn.l p.ll d)) (L1 (p.gl.take (j+1)) (d+1))) by rw[a7v hg1,a0M]];refine ZZ [0,2] ?_;exact WL.nil (lN (p.gl.length-(j+1)) [(69,.int .i64 (j+1))] (prB b a77 c77 (B8 (B8 (D5 st (d,F6 p.k p.name p.ch p.tg.l p.ex.l p.rep)) (G5 p.k p.pn.l p.ll d)) (L1 (p.gl.take (j+1)) (d+1)))::prW a77 c77 (B8 (B8 (D5 st (d,F6 p.k p.name p.ch p.tg.l p.ex.l p.rep)) (G5 p.k p.pn.l p.ll d)) (L1 (p.gl.take (j+1)) (d+1)))::.pt b4 (.cells (prE p).toArray 46 (0,0))::h) ⟨a77,c77,j+1,by omega,rfl,rfl,rfl⟩);rw[qC (by omega),show B8 (B8 (D5 st (d,F6 p.k p.name p.ch p.tg.l p.ex.l p.rep)) (G5 p.k p.pn.l p.ll d)) (L1 p.gl (d+1))=B8 st (J7 p d) by rw[hls,a1s,a0M]]
 refine WC.exit (a6p (h':=prB b a9 c9 (B8 st (J7 p d))::prW a9 c9 (B8 st (J7 p d))::h) (.inr rfl) rfl  Vl Sb ?_);exact⟨a9,c9,rfl⟩
end
section
open Go.Eng Go.Pc Go.Sx Go
open Go.Xp hiding B E8
open Go.Ty (Ty Vr Tok eqT tyV E9 B1 A7 I6 zeroK H3 E5 encV D8)
open Go.Lx (encB C0 textO)
open Go.Ly (Rw K7 C6)
theorem c2o(l:Lt):(textO l).1.length<=256:=by
 unfold Go.Lx.textO;split
 ·exact qi _
 ·split
  ·exact qi _
  ·rename_i h
   simp only[qw]at h;show(Go.Lx.textL none l).length<=256;omega
theorem b6D{st:Ps}{x:Ln}(h:∀y∈st.1,y.text.length<=256):∀y∈(D5 st x).1,y.text.length<=256:=by
 unfold D5;split
 ·exact h
 ·intro y hy
  rcases qY.1 hy with q|q
  ·exact h y q
  ·rw[qy]at q
   subst q;exact c2o _
theorem a8v:∀(l:List Ln){st:Ps},(∀y∈st.1,y.text.length<=256)->∀y∈(B8 st l).1,y.text.length<=256
 | [],_,h=>h
 |x::l,_,h=>a8v l (b6D (x:=x) h)
abbrev d0h(m:View)(p:Pr)(h:Lr)(v:Value)(h':Lr):Prop:=
 ∃a c bl,v=.tuple #[.slice a (Y5 p).1.length c,.int .i64 (Y5 p).2]/\Rd m bl a (Y5 p).1.length c 3 (fl K7 (Y5 p).1)/\h'=bl++h/\((Y5 p).2=0->bl=[.row (.slice a (Y5 p).1.length c) 52 3 (Y5 p).1.length (fl K7 (Y5 p).1)])
theorem c2O{m:View}(hg:Glob m)(hp:Pow m)(p:Pr)(h:Lr)(hO:POk m h p) :
 CT prog 38 [prV p] h m (λv _ h'=>d0h m p h v h'):=by
 have hq:Y5 p=if mayP p then(if(B8 ([],false) (J7 p 0)).2||!Go.Ly.mayP (B8 ([],false) (J7 p 0)).1 then([],3)else((B8 ([],false) (J7 p 0)).1,0))else([],2):=rfl
 have hsh:=a8v (J7 p 0) (st:=([],false)) nofun;obtain⟨ST,hST⟩:∃S,S=B8 ([],false) (J7 p 0):=⟨_,rfl⟩;rw[<-hST]at hq hsh;refine cB [1,2,3,4,7,24] func38 λ_=>?_
 refine xX λb1=>?_;refine ZZ [2,1] ?_;refine xf (E1 Et) (b2F hg p (hO.mono Sb)) ?_;refine y1 ?_ ?_<;>intro c7
 have d7:mayP p=false:=by simpa using c7
 rw[if_neg (E6 d7)]at hq;refine Z2 ?_;refine w2 h ?_;exact⟨none,0,[],by rw[hq];rfl,by rw[hq];exact Rd.nilF K7 3 _ _,rfl,by rw[hq];intro e;cases e⟩;have d7:mayP p=true:=by simpa using c7
 rw[if_pos d7]at hq;obtain⟨hv,hc⟩:=c0v d7;refine ZZ [0,1] ?_;refine xX λb9=>?_
 refine ZZ [1,2] ?_;refine WL.addNil 52 3 ?_;refine pP (prB b9 none 0 ([],false)) (prW none 0 ([],false)) ?_;refine xg (E3 Et Et Ek) (c3e hg hp p b9 none 0 ([],false) 0 _ (hO.mono Sb) hv ⟨by omega,by omega⟩ (qi _)) ?_;rintro _ _ ⟨a12,c12,rfl⟩;rw[<-hST];refine kR a12 λp12 q12 r12=>?_;refine ZZ [0,6] ?_;refine zG (λhc=>PO.nilCheck (Eg hc)) ?_;refine kA2 ?_;refine A3 (GU.f rfl rfl) (λhc=>⟨Ef,(E1 (Eg hc)),Ly7.may_ct hg a12 _ c12 ST.1 _ (iR r12 p12 q12) (λx hx=>by have:=hsh x hx;omega)⟩) Lb ?_;refine y2 ?_ ?_<;>intro c24
 rw[if_pos (by simpa using c24)]at hq;refine Z2 ?_;refine w2 h ?_;exact⟨none,0,[],by rw[hq];rfl,by rw[hq];exact Rd.nilF K7 3 _ _,rfl,by rw[hq];intro e;cases e⟩;rw[if_neg (by simpa using c24)]at hq;refine ZZ [0,6,0] ?_;refine w2 (prW a12 c12 ST::h) ?_;exact⟨a12,c12,[prW a12 c12 ST],by rw[hq],by rw[hq];exact Rd.ofRow r12 p12 q12 (qy.2 rfl),rfl,λ_=>by rw[hq]⟩
end
section
open Go.Eng Go.Xp Go
open Go.Lx (encB C0)
theorem c0m(k:Int)(h:Lr)(m:View):CT prog 310 [.int .u8 k] h m (A5 h (.bool (((k==1)||(k==2))||(k==3)))):=by
 refine cB [0,2] func310 λ_=>?_;refine ZZ [1,11,0] ?_;refine wT h ?_;exact⟨rfl,rfl⟩
theorem c7K{m:View}(e:Ex)(hw:Wf e)(h:Lr):CT prog 276 [exV e] h m (A5 h (.bool (a3b e))):=by
 obtain⟨⟨hk,ho,ht⟩,hn,hs⟩:=hw.spec;have hs2:e.s.length<=9223372036854775807:=by omega
 refine cB [1,2,3,4,5,10,11,16,29,42,51,59,72,85] func276 λ_=>?_;refine xX λb1=>?_
 refine ZZ [1,3] ?_;refine xW λb3=>?_;refine ZZ [1,1,1,0] ?_;refine kP2 [1,3,4,5,10] ?_;refine D6 KKh [1,3] rfl (λF' h'=>∃f':Bool,∃n':Int,∃o':Int,∃t':Int,∃v':Int,∃s':B,(a3b e=a5t e f' n' o' t' v' s')/\F'=[(4,.int .i64 n'),(5,.bool f')]/\.pt b3 (.cells [.int .u8 e.k,.int .u8 o',.int .u8 t',.int .i32 v',str s',.slice none 0 0].toArray 29 (0,0))::.pt b1 (.cells (exE e).toArray 29 (0,0))::h=h') ?_ ?_;refine y3 ?_ ?_<;>intro c11
 refine kA4 ?_;exact WL.nil (mN [(4,.int .i64 0),(5,.bool true)] (.pt b3 (.cells [.int .u8 e.k,.int .u8 0,.int .u8 0,.int .i32 (e.n),str ([]),.slice none 0 0].toArray 29 (0,0))::.pt b1 (.cells (exE e).toArray 29 (0,0))::h) ⟨true,0,0,0,e.n,[],c4H c11,rfl,rfl⟩);refine y3 ?_ ?_<;>intro c16
 refine ZZ [4,9] ?_;exact WL.nil (mN [(4,.int .i64 0),(5,.bool ((decide (e.n>=0)&&decide (e.n<=255))))] (.pt b3 (.cells [.int .u8 e.k,.int .u8 0,.int .u8 0,.int .i32 (e.n),str ([]),.slice none 0 0].toArray 29 (0,0))::.pt b1 (.cells (exE e).toArray 29 (0,0))::h) ⟨(decide (e.n>=0)&&decide (e.n<=255)),0,0,0,e.n,[],c1u hn c16,rfl,rfl⟩);refine y3 ?_ ?_<;>intro c29
 have q3:=c1v hn c29;refine ZZ [4,9] ?_;exact WL.nil (mN [(4,.int .i64 0),(5,.bool (((e.n==0)||(e.n==1))))] (.pt b3 (.cells [.int .u8 e.k,.int .u8 0,.int .u8 0,.int .i32 (e.n),str ([]),.slice none 0 0].toArray 29 (0,0))::.pt b1 (.cells (exE e).toArray 29 (0,0))::h) ⟨((e.n==0)||(e.n==1)),0,0,0,e.n,[],q3,rfl,rfl⟩);skip
 refine y2 ?_ ?_<;>intro c42
 have hk4:e.k=4:=b5P c42;refine y0 ?_ ?_<;>intro c42
 have q4:=b5D (.inl hk4);refine ZZ [4,2] ?_;refine xf (E1 Et) (a1f _ _ _ (by assumption)) ?_;refine kA1 ?_;exact WL.nil (mN [(4,.int .i64 0),(5,.bool ((Go.Lx.nameR e.s)))] (.pt b3 (.cells [.int .u8 e.k,.int .u8 0,.int .u8 0,.int .i32 0,str (e.s),.slice none 0 0].toArray 29 (0,0))::.pt b1 (.cells (exE e).toArray 29 (0,0))::h) ⟨(Go.Lx.nameR e.s),0,0,0,0,e.s,q4,rfl,rfl⟩);exact absurd hk4 (b2u c42);have n4:e.k≠4:=b2u c42;refine y2 ?_ ?_<;>intro c42
 have q4:=b5D (.inr (b5P c42));refine ZZ [4,2] ?_;refine xf (E1 Et) (a1f _ _ _ (by assumption)) ?_;refine kA1 ?_;exact WL.nil (mN [(4,.int .i64 0),(5,.bool ((Go.Lx.nameR e.s)))] (.pt b3 (.cells [.int .u8 e.k,.int .u8 0,.int .u8 0,.int .i32 0,str (e.s),.slice none 0 0].toArray 29 (0,0))::.pt b1 (.cells (exE e).toArray 29 (0,0))::h) ⟨(Go.Lx.nameR e.s),0,0,0,0,e.s,q4,rfl,rfl⟩);have n9:e.k≠9:=b2u c42;refine y3 ?_ ?_<;>intro c51
 refine ZZ [4,2] ?_;refine xf (E1 Et) (a1f _ _ _ (by assumption)) ?_;refine ZZ [1,1] ?_;exact WL.nil (mN [(4,.int .i64 1),(5,.bool ((Go.Lx.nameR e.s)))] (.pt b3 (.cells [.int .u8 e.k,.int .u8 0,.int .u8 0,.int .i32 0,str (e.s),.slice none 0 0].toArray 29 (0,0))::.pt b1 (.cells (exE e).toArray 29 (0,0))::h) ⟨(Go.Lx.nameR e.s),1,0,0,0,e.s,b8U c51,rfl,rfl⟩);refine y3 ?_ ?_<;>intro c59
 refine ZZ [4,9,1] ?_;exact WL.nil (mN [(4,.int .i64 1),(5,.bool ((decide (e.o>=23)&&decide (e.o<=26))))] (.pt b3 (.cells [.int .u8 e.k,.int .u8 (e.o),.int .u8 0,.int .i32 0,str ([]),.slice none 0 0].toArray 29 (0,0))::.pt b1 (.cells (exE e).toArray 29 (0,0))::h) ⟨(decide (e.o>=23)&&decide (e.o<=26)),1,e.o,0,0,[],c4q ho c59,rfl,rfl⟩);refine y3 ?_ ?_<;>intro c72
 refine ZZ [4,9,1] ?_;exact WL.nil (mN [(4,.int .i64 2),(5,.bool ((decide (e.o>=1)&&decide (e.o<=22))))] (.pt b3 (.cells [.int .u8 e.k,.int .u8 (e.o),.int .u8 0,.int .i32 0,str ([]),.slice none 0 0].toArray 29 (0,0))::.pt b1 (.cells (exE e).toArray 29 (0,0))::h) ⟨(decide (e.o>=1)&&decide (e.o<=22)),2,e.o,0,0,[],c4o c72,rfl,rfl⟩);refine y3 ?_ ?_<;>intro c85
 have q8:=c1U c85;refine ZZ [4,2] ?_;refine xf (E1 Et) (c0m _ _ _) ?_;refine ZZ [1,1] ?_;exact WL.nil (mN [(4,.int .i64 1),(5,.bool ((((e.t==1)||(e.t==2))||(e.t==3))))] (.pt b3 (.cells [.int .u8 e.k,.int .u8 0,.int .u8 (e.t),.int .i32 0,str ([]),.slice none 0 0].toArray 29 (0,0))::.pt b1 (.cells (exE e).toArray 29 (0,0))::h) ⟨(((e.t==1)||(e.t==2))||(e.t==3)),1,0,e.t,0,[],q8,rfl,rfl⟩);refine Z1 ?_;refine wT h ?_;exact⟨by rw[c3B c11 c16 c29 n4 n9 c51 c59 c72 c85],rfl⟩;rintro _ _ ⟨f',n',o',t',v',s',hJ,rfl,rfl⟩;refine A9 rfl ?_;refine b0g ?_;refine b0g ?_;refine b8A ?_;refine zG (λhc=>H0 (Eg hc) (Eg hc)) ?_;refine Z2 ?_;refine wT h ?_;exact⟨by rw[hJ];rfl,rfl⟩
theorem c4M(e:Ex):∀(h:Lr)(m:View)(a b:Int),TOk m h e->Wf e->(0<=a/\a<=32)->(0<=b/\b<=1000000) ->
 CT prog 200 [exV e,.int .i64 a,.int .i64 b] h m (A5 h (.int .i64 ((J4 (a+1) b e).getD (-1)))):=by
 refine Ex.ind (p:=λe=>∀(h:Lr)(m:View)(a b:Int),TOk m h e->Wf e->(0<=a/\a<=32)->(0<=b/\b<=1000000) ->
  CT prog 200 [exV e,.int .i64 a,.int .i64 b] h m (A5 h (.int .i64 ((J4 (a+1) b e).getD (-1))))) (λe ih h m a b hT hW ha hb=>?_) e
 have hr:=hT.rd;have hmx:=hr.mx;have hkx:=hr.le;have he:=a2p (a+1) b e;have hh:=b8E (e:=e) ha hb.1;refine cB [1,2,3,6,7,18,25,38] func200 λ_=>?_;refine xX λb3=>?_
 refine ZZ [1,7] ?_;refine zG (λ_=>pA P7) ?_;refine A3 (GU.f rfl rfl) (λhc=>⟨Ef,(E1 (Eg hc)),c7K _ (by assumption) _⟩) Lb ?_;refine y2 ?_ ?_<;>intro c18
 rw[hh.trans c18,if_pos rfl]at he;refine Z1 ?_;refine wT h ?_;exact⟨by rw[he];rfl,rfl⟩;have hno:=a8O (hh.trans c18);rw[hh.trans c18,if_neg (by decide)]at he;refine ZZ [0,1] ?_;refine xG (P3 Et Ek (by omega)) ?_;refine ZZ [1,1,0] ?_;refine lI [1,3] (λμ F' h'=>∃k:Nat,∃z:Int,((k<=e.l.length/\0<=z/\z<=b)/\J4 (a+1) b e=a0D (a+1+1) z (e.l.drop k))/\e.l.length-k=μ/\F'=[(2,.int .i64 z),(7,.int .i64 k)]/\.pt b3 (.cells (exE e).toArray 29 (0,0))::h=h') (e.l.length-0) [(2,.int .i64 (b-1)),(7,.int .i64 0)] (.pt b3 (.cells (exE e).toArray 29 (0,0))::h) ⟨0,b-1,⟨⟨by omega,by omega,by omega⟩,he⟩,rfl,rfl,rfl⟩ ?_;rintro _ _ _ ⟨k,z,⟨⟨hk,hz0,hz1⟩,hJ⟩,rfl,rfl,rfl⟩;refine A9 rfl ?_;have hrk:Rd m (.pt b3 (.cells (exE e).toArray 29 (0,0))::h) e.a e.l.length e.c 6 (fl exE e.l):=hr.mono Vl Sb;refine Z5 ?_;refine wD ?_ ?_<;>intro c25
 obtain⟨x,hx⟩:=A8 (l:=e.l) (k:=k) (by omega);have hxm:=qe hx;rw[b1N hx]at hJ;refine ZZ [0,8] ?_;refine xf (E3 Et Et Et) (ih x hxm _ _ (a+1) z ((hT.part hxm).mono Sb) (hW.part hxm) (by omega) (by omega)) ?_;refine WL.val (v':=.int .i64 ((J4 (a+1+1) z x).getD (-1))) rfl ?_;refine ZZ [1,2,0] ?_;refine wD ?_ ?_<;>intro c38
 have hn:J4 (a+1+1) z x=none:=by
  cases hq:J4 (a+1+1) z x with
  |none=>rfl
  |some q=>have:=a3J _ _ _ _ hz0 hq;rw[hq]at c38;simp at c38;omega
 rw[hn]at hJ;refine Z1 ?_;refine wT h ?_;exact⟨by rw[hJ];rfl,rfl⟩;obtain⟨q,hq⟩:∃q,J4 (a+1+1) z x=some q:=by
  cases hq:J4 (a+1+1) z x with
  |none=>rw[hq]at c38;simp at c38
  |some q=>exact⟨q,rfl⟩
 have hrg:=a3J _ _ _ _ hz0 hq;rw[hq]at hJ;refine ZZ [0,3] ?_;exact WL.nil (lN (e.l.length-(k+1)) [(2,.int .i64 (((J4 (a+1+1) z x).getD (-1)))),(7,.int .i64 (k+1))] (.pt b3 (.cells (exE e).toArray 29 (0,0))::h) ⟨k+1,((J4 (a+1+1) z x).getD (-1)),⟨⟨by omega,by rw[hq];exact hrg.1,by rw[hq];show q<=b;omega⟩,by rw[hJ,hq];rfl⟩,rfl,rfl,rfl⟩);rw[qb (by omega)]at hJ;replace hJ:J4 (a+1) b e=some z:=hJ;refine ZZ [0,2,0] ?_;refine wT h ?_;exact⟨by rw[hJ];rfl,rfl⟩
theorem mayR_ct{m:View}(e:Ex)(h:Lr)(hT:TOk m h e)(hW:Wf e):CT prog 128 [exV e] h m (A5 h (.bool (K0 e))):=by
 have hq:decide ((J4 (0+1) 256 e).getD (-1)>=0)=K0 e:=by
  unfold K0;rw[show(0+1:Int)=1 from rfl];cases hv:J4 1 256 e with
  |none=>rfl
  |some q=>have:=a3J _ _ _ _ (by omega) hv;simpa using this.1
 refine cB [1,2] func128 λ_=>?_;refine xX λb1=>?_
 refine ZZ [1,1] ?_;refine xf (E3 Et Ek Ek) (c4M e _ _ 0 256 (hT.mono Sb) hW (by omega) (by omega)) ?_;refine Z2 ?_;refine wT h ?_;exact⟨by rw[<-hq],rfl⟩
theorem c2g(h:Lr)(m:View):CT prog 325 [] h m (λv _ h'=>∃b,v=.slice (some ⟨b,0,none⟩) 26 26/\h'=.pt b (.cells (fl encB (a1b.drop 1)).toArray 9 (0,0))::h):=by
 refine cB [0] func325 λ_=>?_;refine Z1 ?_;refine xY M3 Eb λb1=>?_
 refine Z1 ?_;refine wT (.pt b1 (.cells (fl encB (a1b.drop 1)).toArray 9 (0,0))::h) ?_;exact⟨_,rfl,rfl⟩
theorem b91(o:Int)(ho:0<=o/\o<=255)(h:Lr)(m:View):CT prog 320 [.int .u8 o] h m (A5 h (.tuple #[str (a0g o).1,.bool (a0g o).2])):=by
 have hq:((decide (o<1))||(decide (o>26)))=((o==0)||decide (o>=27)):=by rw[qH];simp;omega
 refine cB [0,2,3,9] func320 λ_=>?_;refine ZZ [2,6,0] ?_;refine wc ?_ ?_<;>intro c9
 have d9:=hq.symm.trans c9;refine Z2 ?_;refine w2 h ?_;exact⟨by unfold a0g;rw[if_pos d9],rfl⟩;have d9:=hq.symm.trans c9;have ho2:o<27/\1<=o:=by simp at d9;omega
 obtain⟨p,hp⟩:∃p:Nat,o=p+1:=⟨(o-1).toNat,by omega⟩;subst hp;have hv:(a1b.drop 1)[p]?=some (a1b.getD (p+1) []):=by
  have:p<26:=by omega
  rw[zL,ql,Nat.add_comm 1 p,qk (show p+1<a1b.length by show p+1<27;omega)];rfl
 refine Z0 ?_;refine xg E0 (c2g _ _) ?_;rintro _ _ ⟨b10,rfl,rfl⟩;have hrd:Rd m (.pt b10 (.cells (fl encB (a1b.drop 1)).toArray 9 (0,0))::h) (some ⟨b10,0,none⟩) 26 26 1 (fl encB (a1b.drop 1)):=Rd.ofPt rfl (by decide) (qm _);refine kA2 ?_;refine WL.val (v':=.int .u8 (p:Nat)) (congrArg (Value.int .u8) (by unfold IntKind.wrap;simp[IntKind.bits,IntKind.signed];omega)) ?_;refine Z4 ?_;refine w2 h ?_;exact⟨by unfold a0g;rw[d9];rfl,rfl⟩
end
section
open Go.Eng Go.Pc Go
open Go.Xp hiding B E8
open Go.Ty (Ty Vr eqT tyV E9 PrOk VOk prL encV D8 H3 E5)
open Go.Lx (encB C0)
theorem c7v{α:Type}{l:List α}{i:Nat}{x:α}(h:l[i]?=some x)(q:α->Bool):(l.drop i).any q=(q x||(l.drop (i+1)).any q):=by obtain⟨hi,rfl⟩:=qd.1 h;rw[qq hi,List.any_cons]
theorem c3b{α:Type}{l:List α}{lo hi:Int}{q:α->Bool}(h:(decide ((l.length:Int)<lo)||decide ((l.length:Int)>hi))=true):O2 l lo hi q=false:=by
 unfold O2 a9L;simp only[qv,qw]at h;by_cases h1:(l.length:Int)>=lo
 ·have h2:¬(l.length:Int)<=hi:=by omega
  simp[h2]
 ·simp[h1]
theorem b9x{α:Type}{l:List α}{lo hi:Int}{q:α->Bool}(h:(decide ((l.length:Int)<lo)||decide ((l.length:Int)>hi))=false):O2 l lo hi q=!(l.any λx=>!q x):=by
 unfold O2 a9L;simp only[qA,decide_eq_false_iff_not]at h;have h1:(l.length:Int)>=lo:=by omega
 have h2:(l.length:Int)<=hi:=by omega
 simp[h1,h2]
theorem b3y{m:View}{h:Lr}(e:Ex)(hE:EOk m h e):CT prog 124 [exV e] h m (A5 h (.bool (L5 e))):=by
 have hT:=hE.t;have hW:=hE.w;refine cB [1,2] func124 λ_=>?_;refine xX λb1=>?_
 refine ZZ [1,9] ?_;refine zG (λ_=>pA P7) ?_;refine A3 (GU.t rfl rfl) (λhc=>⟨Ef,(E1 (Eg hc)),mayR_ct e _ (hT.mono Sb) hW⟩) Lb ?_;refine Z2 ?_;refine wT h ?_;exact⟨rfl,rfl⟩
theorem a7g(a:Oa)(k c:Nat)(l:List B)(lo hi:Int)(h:Lr)(m:View)(hL:Rd m h a k c 1 (fl encB l))(hok:∀x∈l,x.length<=Big) :
 CT prog 126 [.slice a k c,.int .i64 lo,.int .i64 hi] h m (A5 h (.bool (O2 l lo hi Go.Lx.name))):=by
 have hl:=hL.lenF C0 (by decide);subst hl;have hmx:=hL.mx;have hle:=hL.le;refine cB [0,1,2,6,7,17,21,29] func126 λ_=>?_;refine ZZ [1,10,0] ?_;refine wc ?_ ?_<;>intro c17
 refine Z1 ?_;refine wT h ?_;exact⟨by rw[c3b c17],rfl⟩;have d17:=b9x (q:=Go.Lx.name) c17;refine ZZ [0,1,0] ?_;refine lI [0] (λμ F' h'=>∃i:Nat,(i<=l.length/\O2 l lo hi Go.Lx.name=!((l.drop i).any λx=>!Go.Lx.name x))/\l.length-i=μ/\F'=[(7,.int .i64 i)]/\h=h') (l.length-0) [(7,.int .i64 0)] h ⟨0,⟨by omega,d17⟩,rfl,rfl,rfl⟩ ?_;rintro _ _ _ ⟨i,⟨hk,hJ⟩,rfl,rfl,rfl⟩;refine A9 rfl ?_;refine Z4 ?_;refine wD ?_ ?_<;>intro c21
 obtain⟨x,hx⟩:=A8 (l:=l) (k:=i) (by omega);rw[c7v hx]at hJ;have hxo:=hok x (qe hx);refine ZZ [0,4] ?_;refine xf (E1 Et) (CT.val (a1f x _ _ (qr hxo (by decide))) (congrArg Value.bool (Go.Lx.name_eq x).symm)) ?_;refine y1 ?_ ?_<;>intro c29
 have d29:(!Go.Lx.name x)=true:=c29;rw[d29]at hJ;refine Z1 ?_;refine wT h ?_;exact⟨by rw[hJ];rfl,rfl⟩;have d29:(!Go.Lx.name x)=false:=c29;rw[d29]at hJ;refine ZZ [0,3] ?_;exact WL.nil (lN (l.length-(i+1)) [(7,.int .i64 (i+1))] h ⟨i+1,⟨by omega,by simpa using hJ⟩,rfl,rfl,rfl⟩);rw[qb (by omega)]at hJ;refine ZZ [0,1,0] ?_;refine wT h ?_;exact⟨by rw[hJ];rfl,rfl⟩
theorem c0T{t:Ty}(h:Go.Ty.mayR t=true):decide (t.kind<=3)=Go.Ty.prim t.kind:=by
 cases hp:Go.Ty.prim t.kind with
 |true=>unfold Go.Ty.prim at hp;simp only[qv,qU]at hp;simp only[qw];omega
 |false=>
  unfold Go.Ty.mayR at h;rw[hp]at h;by_cases hf:Go.Ty.far t=true
  ·rw[if_pos hf]at h;cases h
  rw[if_neg hf,if_neg (by decide)]at h;by_cases h4:(t.kind==4)=true
  ·rw[qU]at h4
   rw[h4];rfl
  ·rw[if_neg h4]at h
   have:=(Go.Ty.eqT_iff t Go.Ty.timer).1 h;rw[this];rfl
theorem c2Q(t:Ty):N4 t=(Go.Ty.mayR t&&Go.Ty.prim t.kind&&(t.dim==0)):=by
 unfold N4;rw[Go.Ty.may_eq];cases hm:Go.Ty.mayR t with
 |false=>rfl
 |true=>rw[c0T hm,qG,qG];exact Bool.and_comm _ _
theorem a7K(t:Ty)(h:Lr)(m:View)(hs:t.proto.length<=9223372036854775807):CT prog 127 [tyV t] h m (A5 h (.bool (N4 t))):=by
 refine cB [1,2] func127 λ_=>?_;refine xX λb1=>?_
 refine ZZ [1,1] ?_;refine xf (E1 Et) (Ty9.mayR_ct t _ _ hs) ?_;refine kA3 ?_;refine A3 (GU.t rfl rfl) (λhc=>⟨Ef,(E1 (Eg hc)),Ty9.prim_ct t.kind _ _⟩) Lb ?_;refine Z7 ?_;refine wT h ?_;exact⟨by rw[c2Q],rfl⟩
theorem c1j{m:View}{h:Lr}(f:Fo)(hw:FoW f):CT prog 121 [foV f] h m (A5 h (.bool (foP f))):=by
 have hn2:f.name.length<=9223372036854775807:=qr hw.n (by decide);have hp2:f.ty.proto.length<=9223372036854775807:=qr hw.t.p (by decide);refine cB [1,2] func121 λ_=>?_;refine xX λb1=>?_
 refine ZZ [1,2] ?_;refine xf (E1 Et) (a1f f.name _ _ hn2) ?_;refine kA3 ?_;refine A3 (GU.t rfl rfl) (λhc=>⟨Ef,(E1 (Eg hc)),Ty9.mayR_ct f.ty _ _ hp2⟩) Lb ?_;refine kA8 ?_;refine A3 (a4M rfl rfl) (λhc=>⟨Ef,(E1 (Eg hc)),a7K f.ty _ _ hp2⟩) Lb ?_;refine zG (λhc=>a2T hc rfl rfl) ?_;refine Z2 ?_;refine wT h ?_;exact⟨by unfold foP;rw[Go.Lx.name_eq,Go.Ty.may_eq],rfl⟩
end
section
open Go.Eng Go.Pc Go
open Go.Xp hiding B E8
open Go.Ty (Ty Vr eqT tyV E9 PrOk VOk encV D8 H3 E5 eqI a3a a2S)
open Go.Lx (encB C0)
def eqB(x y:B):Bool:=x==y
theorem c7F{x y:B}(h:(!(x==y))=true):eqB x y=false:=by simpa [eqB]using h
theorem c7w{x y:B}(h:(!(x==y))=false):eqB x y=true:=by simpa [eqB]using h
theorem b5Z(s1 s2:Oa)(n1 c1 n2 c2:Nat)(xs ys:List _)(h:Lr)(m:View)(h1:Rd m h s1 n1 c1 1 (fl encB xs))(h2:Rd m h s2 n2 c2 1 (fl encB ys)) :
 CT prog 35 [.slice s1 n1 c1,.slice s2 n2 c2] h m (A5 h (.bool (eqL eqB xs ys))):=by
 have l1:=h1.lenF C0 (by decide);have l2:=h2.lenF C0 (by decide);have m1:=h1.mx;have m2:=h2.mx;have k1:=h1.le;have k2:=h2.le;refine cB [0,1,4,5,10,14,25] func35 λ_=>?_;refine ZZ [1,5,0] ?_;refine wN ?_ ?_<;>intro c10
 refine Z1 ?_;refine wT h ?_;exact⟨by rw[U5 _ _ _ (by omega)],rfl⟩;refine ZZ [0,1,0] ?_;refine lI [0,1] (λμ F' h'=>∃k:Nat,(k<=n1/\eqL eqB xs ys=eqL eqB (xs.drop k) (ys.drop k))/\n1-k=μ/\F'=[(5,.int .i64 k)]/\h=h') (n1-0) [(5,.int .i64 0)] h ⟨0,⟨by omega,by simp⟩,rfl,rfl,rfl⟩ ?_;rintro _ _ _ ⟨k,⟨hk,hJ⟩,rfl,rfl,rfl⟩;refine A9 rfl ?_;refine Z4 ?_;refine wD ?_ ?_<;>intro c14
 obtain⟨x,hx⟩:=A8 (l:=xs) (k:=k) (by omega);obtain⟨y,hy⟩:=A8 (l:=ys) (k:=k) (by omega);rw[Q9 _ hx hy]at hJ;refine Z0 ?_;refine dS [] (.op 0 (.op 1 (.op 2 (.op 3 (.op 4 (.op 5 (.op 6 (.op 7 .nil)))))))) [8] C9 ?_;refine kA8 ?_;refine nS ?_;refine xG (P2 Et Et) ?_;refine y0 ?_ ?_<;>intro c25
 refine Z1 ?_;refine wT h ?_;exact⟨by rw[hJ,c7F c25];rfl,rfl⟩;rw[c7w c25,qG]at hJ;refine ZZ [0,3] ?_;exact WL.nil (lN (n1-(k+1)) [(5,.int .i64 (k+1))] h ⟨k+1,⟨by omega,hJ⟩,rfl,rfl,rfl⟩);refine ZZ [0,1,0] ?_;refine wT h ?_;exact⟨by rw[hJ,qb (by omega),qb (by omega)];rfl,rfl⟩
theorem b0x(s1 s2:Oa)(n1 c1 n2 c2:Nat)(xs ys:List _)(h:Lr)(m:View)(h1:Rd m h s1 n1 c1 1 (fl H3 xs))(h2:Rd m h s2 n2 c2 1 (fl H3 ys)) :
 CT prog 73 [.slice s1 n1 c1,.slice s2 n2 c2] h m (A5 h (.bool (eqL eqI xs ys))):=by
 have l1:=h1.lenF E5 (by decide);have l2:=h2.lenF E5 (by decide);have m1:=h1.mx;have m2:=h2.mx;have k1:=h1.le;have k2:=h2.le;refine cB [0,1,4,5,10,14,25] func73 λ_=>?_;refine ZZ [1,5,0] ?_;refine wN ?_ ?_<;>intro c10
 refine Z1 ?_;refine wT h ?_;exact⟨by rw[U5 _ _ _ (by omega)],rfl⟩;refine ZZ [0,1,0] ?_;refine lI [0,1] (λμ F' h'=>∃k:Nat,(k<=n1/\eqL eqI xs ys=eqL eqI (xs.drop k) (ys.drop k))/\n1-k=μ/\F'=[(5,.int .i64 k)]/\h=h') (n1-0) [(5,.int .i64 0)] h ⟨0,⟨by omega,by simp⟩,rfl,rfl,rfl⟩ ?_;rintro _ _ _ ⟨k,⟨hk,hJ⟩,rfl,rfl,rfl⟩;refine A9 rfl ?_;refine Z4 ?_;refine wD ?_ ?_<;>intro c14
 obtain⟨x,hx⟩:=A8 (l:=xs) (k:=k) (by omega);obtain⟨y,hy⟩:=A8 (l:=ys) (k:=k) (by omega);rw[Q9 _ hx hy]at hJ;refine Z0 ?_;refine dS [] (.op 0 (.op 1 (.op 2 (.op 3 (.op 4 (.op 5 (.op 6 (.op 7 .nil)))))))) [8] C9 ?_;refine kA8 ?_;refine nS ?_;refine y1 ?_ ?_<;>intro c25
 refine Z1 ?_;refine wT h ?_;exact⟨by rw[hJ,a2S c25];rfl,rfl⟩;rw[a3a c25,qG]at hJ;refine ZZ [0,3] ?_;exact WL.nil (lN (n1-(k+1)) [(5,.int .i64 (k+1))] h ⟨k+1,⟨by omega,hJ⟩,rfl,rfl,rfl⟩);refine ZZ [0,1,0] ?_;refine wT h ?_;exact⟨by rw[hJ,qb (by omega),qb (by omega)];rfl,rfl⟩
structure GK(m:View)(h:Lr)(g:Gu):Prop where
 o:GOk m h g
 b:∀x∈g.bl,POk m h x
theorem GK.mono{m:View}{h h':Lr}{g:Gu}(q:GK m h g)(r:h.Sublist h'):GK m h' g:=⟨q.o.mono r,λx hx=>(q.b x hx).mono r⟩
theorem a3m(xs:List Ex)(ys:List Ex)(s1 s2:Oa)(n1 c1 n2 c2:Nat)(h:Lr)(m:View)(h1:Rd m h s1 n1 c1 6 (fl exE xs))(h2:Rd m h s2 n2 c2 6 (fl exE ys))(o1:∀x∈xs,TOk m h x)(o2:∀x∈ys,TOk m h x) :
 CT prog 15 [.slice s1 n1 c1,.slice s2 n2 c2] h m (A5 h (.bool (eqL F5 xs ys))):=by
 have l1:=h1.lenF a5T (by decide);have l2:=h2.lenF a5T (by decide);have m1:=h1.mx;have m2:=h2.mx;have k1:=h1.le;have k2:=h2.le;refine cB [0,1,4,5,10,14,26] func15 λ_=>?_;refine ZZ [1,5,0] ?_;refine wN ?_ ?_<;>intro c10
 refine Z1 ?_;refine wT h ?_;exact⟨by rw[U5 _ _ _ (by omega)],rfl⟩;refine ZZ [0,1,0] ?_;refine lI [0,1] (λμ F' h'=>∃k:Nat,(k<=n1/\eqL F5 xs ys=eqL F5 (xs.drop k) (ys.drop k))/\n1-k=μ/\F'=[(5,.int .i64 k)]/\h=h') (n1-0) [(5,.int .i64 0)] h ⟨0,⟨by omega,by simp⟩,rfl,rfl,rfl⟩ ?_;rintro _ _ _ ⟨k,⟨hk,hJ⟩,rfl,rfl,rfl⟩;refine A9 rfl ?_;refine Z4 ?_;refine wD ?_ ?_<;>intro c14
 obtain⟨x,hx⟩:=A8 (l:=xs) (k:=k) (by omega);obtain⟨y,hy⟩:=A8 (l:=ys) (k:=k) (by omega);rw[Q9 _ hx hy]at hJ;have hxm:=qe hx;have hxo:=o1 x hxm;have hyo:=o2 y (qe hy);refine Z0 ?_;refine dS [] (.op 0 (.op 1 (.op 2 (.op 3 (.op 4 (.op 5 (.op 6 (.op 7 .nil)))))))) [8,9] C9 ?_;refine kA8 ?_;refine nS ?_;refine xf (E2 Et Et) (a1W x y _ _ (hxo.mono Sb) (hyo.mono Sb)) ?_;refine y1 ?_ ?_<;>intro c26
 have d26:F5 x y=false:=by simpa using c26
 rw[d26]at hJ;refine Z1 ?_;refine wT h ?_;exact⟨by rw[hJ];rfl,rfl⟩;have d26:F5 x y=true:=by simpa using c26
 rw[d26,qG]at hJ;refine ZZ [0,3] ?_;exact WL.nil (lN (n1-(k+1)) [(5,.int .i64 (k+1))] h ⟨k+1,⟨by omega,hJ⟩,rfl,rfl,rfl⟩);refine ZZ [0,1,0] ?_;refine wT h ?_;exact⟨by rw[hJ,qb (by omega),qb (by omega)];rfl,rfl⟩
theorem a5E(xs:List Pr)(ih:∀x∈xs,∀(y:Pr)(h:Lr)(m:View),POk m h x->POk m h y->CT prog 7 [prV x,prV y] h m (A5 h (.bool (K4 x y))))(ys:List Pr)(s1 s2:Oa)(n1 c1 n2 c2:Nat)(h:Lr)(m:View)(h1:Rd m h s1 n1 c1 42 (fl prE xs))(h2:Rd m h s2 n2 c2 42 (fl prE ys))(o1:∀x∈xs,POk m h x)(o2:∀x∈ys,POk m h x) :
 CT prog 17 [.slice s1 n1 c1,.slice s2 n2 c2] h m (A5 h (.bool (eqL K4 xs ys))):=by
 have l1:=h1.lenF a1E (by decide);have l2:=h2.lenF a1E (by decide);have m1:=h1.mx;have m2:=h2.mx;have k1:=h1.le;have k2:=h2.le;refine cB [0,1,4,5,10,14,26] func17 λ_=>?_;refine ZZ [1,5,0] ?_;refine wN ?_ ?_<;>intro c10
 refine Z1 ?_;refine wT h ?_;exact⟨by rw[U5 _ _ _ (by omega)],rfl⟩;refine ZZ [0,1,0] ?_;refine lI [0,1] (λμ F' h'=>∃k:Nat,(k<=n1/\eqL K4 xs ys=eqL K4 (xs.drop k) (ys.drop k))/\n1-k=μ/\F'=[(5,.int .i64 k)]/\h=h') (n1-0) [(5,.int .i64 0)] h ⟨0,⟨by omega,by simp⟩,rfl,rfl,rfl⟩ ?_;rintro _ _ _ ⟨k,⟨hk,hJ⟩,rfl,rfl,rfl⟩;refine A9 rfl ?_;refine Z4 ?_;refine wD ?_ ?_<;>intro c14
 obtain⟨x,hx⟩:=A8 (l:=xs) (k:=k) (by omega);obtain⟨y,hy⟩:=A8 (l:=ys) (k:=k) (by omega);rw[Q9 _ hx hy]at hJ;have hxm:=qe hx;have hxo:=o1 x hxm;have hyo:=o2 y (qe hy);refine Z0 ?_;refine dS [] (.op 0 (.op 1 (.op 2 (.op 3 (.op 4 (.op 5 (.op 6 (.op 7 .nil)))))))) [8,9] C9 ?_;refine kA8 ?_;refine nS ?_;refine xf (E2 Et Et) (ih x hxm y _ _ (hxo.mono Sb) (hyo.mono Sb)) ?_;refine y1 ?_ ?_<;>intro c26
 have d26:K4 x y=false:=by simpa using c26
 rw[d26]at hJ;refine Z1 ?_;refine wT h ?_;exact⟨by rw[hJ];rfl,rfl⟩;have d26:K4 x y=true:=by simpa using c26
 rw[d26,qG]at hJ;refine ZZ [0,3] ?_;exact WL.nil (lN (n1-(k+1)) [(5,.int .i64 (k+1))] h ⟨k+1,⟨by omega,hJ⟩,rfl,rfl,rfl⟩);refine ZZ [0,1,0] ?_;refine wT h ?_;exact⟨by rw[hJ,qb (by omega),qb (by omega)];rfl,rfl⟩
theorem c1q(x y:Int):eqI x y=true↔x=y:=by simp[eqI]
theorem c3K(xs ys:List Int):eqL eqI xs ys=(xs==ys):=by rw[qH,b2v c1q];simp
theorem c2J{m:View}{h:Lr}{v:Vr}(q:VOk m h v):Rd m h v.a v.n v.c 1 (fl H3 v.items):=q.rd
theorem b0V(u1 u2:Bool)(s1 s2:Oa)(n1 c1 n2 c2:Nat)(xs ys:List Vr)(h:Lr)(m:View)(p1:PrOk m h s1 n1 c1 xs)(p2:PrOk m h s2 n2 c2 ys) :
 CT prog 36 [.agg #[.bool u1,.slice s1 n1 c1],.agg #[.bool u2,.slice s2 n2 c2]] h m (A5 h (.bool (a1u u1 xs u2 ys))):=by
 have h1:=p1.rd;have h2:=p2.rd;have l1:=h1.lenF D8 (by decide);have l2:=h2.lenF D8 (by decide);have m1:=h1.mx;have m2:=h2.mx;have k1:=h1.le;have k2:=h2.le;have e0:a1u u1 xs u2 ys=((u1==u2)&&eqL N7 xs ys):=rfl;refine cB [2,3,4,5,19,24,55] func36 λ_=>?_;refine xX λb2=>?_
 refine xX λb3=>?_;refine ZZ [1,4] ?_;refine xG (c5x uu4 Et Et) ?_;refine Z9 ?_;refine wc ?_ ?_<;>intro c19
 have d19:a1u u1 xs u2 ys=false:=by
  rw[e0];rcases Bool.or_eq_true_iff.1 c19 with c|c
  ·have:(u1==u2)=false:=by simpa using c
   rw[this];rfl
  ·rw[U5 N7 xs ys (by simp at c;omega),zB]
 refine Z1 ?_;refine wT h ?_;exact⟨by rw[d19],rfl⟩;have d19:(u1==u2)=true/\n1=n2:=by have:=qA.1 c19;exact⟨by simpa using this.1,by have:=this.2;simp at this;omega⟩
 rw[d19.1,qG]at e0;refine ZZ [0,1,0] ?_;refine lI [2,3] (λμ F' h'=>∃k:Nat,(k<=n1/\a1u u1 xs u2 ys=eqL N7 (xs.drop k) (ys.drop k))/\n1-k=μ/\F'=[(5,.int .i64 k)]/\.pt b3 (.cells [.bool u2,.slice s2 n2 c2].toArray 41 (0,0))::.pt b2 (.cells [.bool u1,.slice s1 n1 c1].toArray 41 (0,0))::h=h') (n1-0) [(5,.int .i64 0)] (.pt b3 (.cells [.bool u2,.slice s2 n2 c2].toArray 41 (0,0))::.pt b2 (.cells [.bool u1,.slice s1 n1 c1].toArray 41 (0,0))::h) ⟨0,⟨by omega,by rw[e0];simp⟩,rfl,rfl,rfl⟩ ?_;rintro _ _ _ ⟨k,⟨hk,hJ⟩,rfl,rfl,rfl⟩;refine A9 rfl ?_;refine Z5 ?_;refine wD ?_ ?_<;>intro c24
 obtain⟨x,hx⟩:=A8 (l:=xs) (k:=k) (by omega);obtain⟨y,hy⟩:=A8 (l:=ys) (k:=k) (by omega);rw[Q9 _ hx hy]at hJ;have hxo:=c2J (p1.ok x (qe hx));have hyo:=c2J (p2.ok y (qe hy));have hi:=c3K x.items y.items;refine Z0 ?_;refine dS [] (.op 0 (.op 1 (.op 2 (.op 3 (.op 4 (.op 5 (.op 6 (.op 7 (.op 8 (.op 9 (.op 10 (.op 11 (.op 12 (.op 13 (.op 14 (.op 15 (.op 16 (.op 17 (.op 18 (.op 19 (.op 20 (.op 21 (.op 22 (.op 23 (.op 24 (.op 25 .nil)))))))))))))))))))))))))) [26,27,28] C9 ?_;refine b0g ?_;refine yG rfl (P2 Et Et) ?_;refine kA1 ?_;refine B2 rfl rfl (GU.f rfl rfl) (λhc=>PO.fieldAddr b4R rfl (qf rfl) Et) Lb ?_;refine B2 rfl rfl (GU.f rfl rfl) (λhc=>C8 c8c rfl (Eg hc) Me rfl) Lb ?_;refine B2 rfl rfl (GU.f rfl rfl) (λhc=>PO.move Et) Lb ?_
 refine B2 rfl rfl (GU.f rfl rfl) (λhc=>D7 a0j.und a0j.size a0j.posz (Eg hc) (Eg hc) (h1.mono Vl Sb) rfl (by omega)) Lb ?_;refine B2 rfl rfl (GU.f rfl rfl) (λhc=>D0 a8f rfl (qf rfl) D8 (qu _) (h1.mono Vl Sb) (by assumption) (Eg hc)) Lb ?_;refine B2 rfl rfl (GU.f rfl rfl) (λhc=>D2 b1F rfl D8 (h1.mono Vl Sb) (Eg hc) (by assumption) rfl) Lb ?_;refine B2 rfl rfl (GU.f rfl rfl) (λhc=>PO.fieldAddr b4R rfl (qf rfl) Et) Lb ?_;refine B2 rfl rfl (GU.f rfl rfl) (λhc=>C8 c8c rfl (Eg hc) Me rfl) Lb ?_;refine B2 rfl rfl (GU.f rfl rfl) (λhc=>PO.move Et) Lb ?_;refine B2 rfl rfl (GU.f rfl rfl) (λhc=>D7 a0j.und a0j.size a0j.posz (Eg hc) (Eg hc) (h2.mono Vl Sb) rfl (by omega)) Lb ?_;refine B2 rfl rfl (GU.f rfl rfl) (λhc=>D0 a8f rfl (qf rfl) D8 (qu _) (h2.mono Vl Sb) (by assumption) (Eg hc)) Lb ?_
 refine B2 rfl rfl (GU.f rfl rfl) (λhc=>D2 b1F rfl D8 (h2.mono Vl Sb) (Eg hc) (by assumption) rfl) Lb ?_;refine nS ?_;refine A3 (GU.f rfl rfl) (λhc=>⟨Ef,(E2 (Eg hc) (Eg hc)),b0x _ _ _ _ _ _ x.items y.items _ _ (hxo.mono Vl Sb) (hyo.mono Vl Sb)⟩) Lb ?_;refine y2 ?_ ?_<;>intro c55
 replace c55:((!(x.tag==y.tag))||!(eqL eqI x.items y.items))=true:=c55;have d55:N7 x y=false:=by unfold N7;rw[<-hi];cases hq:(x.tag==y.tag)<;>cases hr:eqL eqI x.items y.items<;>simp_all
 rw[d55]at hJ;refine Z1 ?_;refine wT h ?_;exact⟨by rw[hJ];rfl,rfl⟩;replace c55:((!(x.tag==y.tag))||!(eqL eqI x.items y.items))=false:=c55;have d55:N7 x y=true:=by unfold N7;rw[<-hi];cases hq:(x.tag==y.tag)<;>cases hr:eqL eqI x.items y.items<;>simp_all
 rw[d55,qG]at hJ;refine ZZ [0,3] ?_;exact WL.nil (lN (n1-(k+1)) [(5,.int .i64 (k+1))] (.pt b3 (.cells [.bool u2,.slice s2 n2 c2].toArray 41 (0,0))::.pt b2 (.cells [.bool u1,.slice s1 n1 c1].toArray 41 (0,0))::h) ⟨k+1,⟨by omega,hJ⟩,rfl,rfl,rfl⟩);refine ZZ [0,1,0] ?_;refine wT h ?_;exact⟨by rw[hJ,qb (by omega),qb (by omega)];rfl,rfl⟩
theorem b1b(x:Gu)(ih:∀z∈x.bl,∀(y:Pr)(h:Lr)(m:View),POk m h z->POk m h y->CT prog 7 [prV z,prV y] h m (A5 h (.bool (K4 z y))))(y:Gu)(h:Lr)(m:View)(hx:GK m h x)(hy:GK m h y) :
 CT prog 34 [guV x,guV y] h m (A5 h (.bool (a0t x y))):=by
 have v0:=View.le.refl m;refine cB [2,3,4] func34 λ_=>?_;refine xX λb2=>?_
 refine xX λb3=>?_;refine ZZ [1,10] ?_;refine zG (λhc=>H0 (Eg hc) (Eg hc)) ?_;refine kA6 ?_;refine A3 (GU.t rfl rfl) (λhc=>⟨Ef,(E2 (Eg hc) (Eg hc)),a1W x.cond y.cond _ _ (hx.o.cond.t.mono Sb) (hy.o.cond.t.mono Sb)⟩) Lb ?_;refine kA6 ?_;refine A3 (GU.t rfl rfl) (λhc=>⟨Ef,(E2 (Eg hc) (Eg hc)),a1W x.ch y.ch _ _ (hx.o.ch.t.mono Sb) (hy.o.ch.t.mono Sb)⟩) Lb ?_;refine kA6 ?_;refine A3 (GU.t rfl rfl) (λhc=>⟨Ef,(E2 (Eg hc) (Eg hc)),a1W x.time y.time _ _ (hx.o.time.t.mono Sb) (hy.o.time.t.mono Sb)⟩) Lb ?_;refine kA6 ?_;refine A3 (GU.t rfl rfl) (λhc=>⟨Ef,(E2 (Eg hc) (Eg hc)),a3m x.tg.l y.tg.l _ _ _ _ _ _ _ _ (hx.o.tg.rd.mono v0 Sb) (hy.o.tg.rd.mono v0 Sb) (λz hz=>(hx.o.tg.ok z hz).t.mono Sb) (λz hz=>(hy.o.tg.ok z hz).t.mono Sb)⟩) Lb ?_;refine kA6 ?_
 refine A3 (GU.t rfl rfl) (λhc=>⟨Ef,(E2 (Eg hc) (Eg hc)),a3m x.vl.l y.vl.l _ _ _ _ _ _ _ _ (hx.o.vl.rd.mono v0 Sb) (hy.o.vl.rd.mono v0 Sb) (λz hz=>(hx.o.vl.ok z hz).t.mono Sb) (λz hz=>(hy.o.vl.ok z hz).t.mono Sb)⟩) Lb ?_;refine kA6 ?_;refine A3 (GU.t rfl rfl) (λhc=>⟨Ef,(E2 (Eg hc) (Eg hc)),a5E x.bl ih y.bl _ _ _ _ _ _ _ _ (hx.o.b.mono v0 Sb) (hy.o.b.mono v0 Sb) (λz hz=>(hx.b z hz).mono Sb) (λz hz=>(hy.b z hz).mono Sb)⟩) Lb ?_;refine Z2 ?_;refine wT h ?_;exact⟨by rw[a7q],rfl⟩
theorem b0f(xs:List Gu)(ih:∀x∈xs,∀z∈x.bl,∀(y:Pr)(h:Lr)(m:View),POk m h z->POk m h y->CT prog 7 [prV z,prV y] h m (A5 h (.bool (K4 z y))))(ys:List Gu)(s1 s2:Oa)(n1 c1 n2 c2:Nat)(h:Lr)(m:View)(h1:Rd m h s1 n1 c1 23 (fl guE xs))(h2:Rd m h s2 n2 c2 23 (fl guE ys))(o1:∀x∈xs,GK m h x)(o2:∀x∈ys,GK m h x) :
 CT prog 16 [.slice s1 n1 c1,.slice s2 n2 c2] h m (A5 h (.bool (eqL a0t xs ys))):=by
 have l1:=h1.lenF a6T (by decide);have l2:=h2.lenF a6T (by decide);have m1:=h1.mx;have m2:=h2.mx;have k1:=h1.le;have k2:=h2.le;refine cB [0,1,4,5,10,14,26] func16 λ_=>?_;refine ZZ [1,5,0] ?_;refine wN ?_ ?_<;>intro c10
 refine Z1 ?_;refine wT h ?_;exact⟨by rw[U5 _ _ _ (by omega)],rfl⟩;refine ZZ [0,1,0] ?_;refine lI [0,1] (λμ F' h'=>∃k:Nat,(k<=n1/\eqL a0t xs ys=eqL a0t (xs.drop k) (ys.drop k))/\n1-k=μ/\F'=[(5,.int .i64 k)]/\h=h') (n1-0) [(5,.int .i64 0)] h ⟨0,⟨by omega,by simp⟩,rfl,rfl,rfl⟩ ?_;rintro _ _ _ ⟨k,⟨hk,hJ⟩,rfl,rfl,rfl⟩;refine A9 rfl ?_;refine Z4 ?_;refine wD ?_ ?_<;>intro c14
 obtain⟨x,hx⟩:=A8 (l:=xs) (k:=k) (by omega);obtain⟨y,hy⟩:=A8 (l:=ys) (k:=k) (by omega);rw[Q9 _ hx hy]at hJ;have hxm:=qe hx;have hxo:=o1 x hxm;have hyo:=o2 y (qe hy);refine Z0 ?_;refine dS [] (.op 0 (.op 1 (.op 2 (.op 3 (.op 4 (.op 5 (.op 6 (.op 7 .nil)))))))) [8,9] C9 ?_;refine kA8 ?_;refine nS ?_;refine xf (E2 Et Et) (b1b x (ih x hxm) y _ _ (hxo.mono Sb) (hyo.mono Sb)) ?_;refine y1 ?_ ?_<;>intro c26
 have d26:a0t x y=false:=by simpa using c26
 rw[d26]at hJ;refine Z1 ?_;refine wT h ?_;exact⟨by rw[hJ];rfl,rfl⟩;have d26:a0t x y=true:=by simpa using c26
 rw[d26,qG]at hJ;refine ZZ [0,3] ?_;exact WL.nil (lN (n1-(k+1)) [(5,.int .i64 (k+1))] h ⟨k+1,⟨by omega,hJ⟩,rfl,rfl,rfl⟩);refine ZZ [0,1,0] ?_;refine wT h ?_;exact⟨by rw[hJ,qb (by omega),qb (by omega)];rfl,rfl⟩
structure SK(m:View)(h:Lr)(s:Sp):Prop where
 o:SOk m h s
 b:∀x∈s.bl,POk m h x
theorem SK.mono{m:View}{h h':Lr}{s:Sp}(q:SK m h s)(r:h.Sublist h'):SK m h' s:=⟨q.o.mono r,λx hx=>(q.b x hx).mono r⟩
theorem c0R{x y:Fo}(h:(!(a0h x y))=true):a0h x y=false:=by simpa using h
theorem c0r{x y:Fo}(h:(!(a0h x y))=false):a0h x y=true:=by simpa using h
theorem a7m(x:Sp)(ih:∀z∈x.bl,∀(y:Pr)(h:Lr)(m:View),POk m h z->POk m h y->CT prog 7 [prV z,prV y] h m (A5 h (.bool (K4 z y))))(y:Sp)(h:Lr)(m:View)(hx:SK m h x)(hy:SK m h y) :
 CT prog 18 [spV x,spV y] h m (A5 h (.bool (a0s x y))):=by
 have v0:=View.le.refl m;have f1:=hx.o.fr;have f2:=hy.o.fr;have m1:=f1.mx;have m2:=f2.mx;have k1:=f1.le;have k2:=f2.le;refine cB [2,3,4,5,26,31,44] func18 λ_=>?_;refine xX λb2=>?_
 refine xX λb3=>?_;refine ZZ [1,10] ?_;refine C2 (GU.f rfl rfl) (λhc=>a3j a7s (by kernel_rfl) (by kernel_rfl) (Eg hc) (Eg hc) rfl) Lb ?_;refine Z10 ?_;refine wc ?_ ?_<;>intro c26
 have d26:a0s x y=false:=b8S c26;refine Z1 ?_;refine wT h ?_;exact⟨by rw[d26],rfl⟩;have d26:=b6P (x:=x) (y:=y) c26;obtain⟨hlen,e0⟩:=d26;refine ZZ [0,1,0] ?_;refine lI [2,3] (λμ F' h'=>∃k:Nat,(k<=x.fs.l.length/\eqL a0h x.fs.l y.fs.l=eqL a0h (x.fs.l.drop k) (y.fs.l.drop k))/\x.fs.l.length-k=μ/\F'=[(5,.int .i64 k)]/\.pt b3 (.cells (spE y).toArray 44 (0,0))::.pt b2 (.cells (spE x).toArray 44 (0,0))::h=h') (x.fs.l.length-0) [(5,.int .i64 0)] (.pt b3 (.cells (spE y).toArray 44 (0,0))::.pt b2 (.cells (spE x).toArray 44 (0,0))::h) ⟨0,⟨by omega,by simp⟩,rfl,rfl,rfl⟩ ?_;rintro _ _ _ ⟨k,⟨hk,hJ⟩,rfl,rfl,rfl⟩;refine A9 rfl ?_;refine Z5 ?_;refine wD ?_ ?_<;>intro c31
 obtain⟨u,hu⟩:=A8 (l:=x.fs.l) (k:=k) (by omega);obtain⟨v,hv⟩:=A8 (l:=y.fs.l) (k:=k) (by omega);rw[Q9 _ hu hv]at hJ;refine Z0 ?_;refine dS [] (.op 0 (.op 1 (.op 2 (.op 3 (.op 4 (.op 5 (.op 6 (.op 7 (.op 8 (.op 9 .nil)))))))))) [10] C9 ?_;refine b8A ?_;refine nS ?_;refine xG (b4f (o:=37) b9m (by kernel_rfl) (by kernel_rfl) Et Et (by kernel_rfl) rfl) ?_;refine y0 ?_ ?_<;>intro c44
 rw[c0R (x:=u) (y:=v) c44]at hJ;refine Z1 ?_;refine wT h ?_;exact⟨by rw[e0,hJ];rfl,rfl⟩;rw[c0r (x:=u) (y:=v) c44,qG]at hJ;refine ZZ [0,3] ?_;exact WL.nil (lN (x.fs.l.length-(k+1)) [(5,.int .i64 (k+1))] (.pt b3 (.cells (spE y).toArray 44 (0,0))::.pt b2 (.cells (spE x).toArray 44 (0,0))::h) ⟨k+1,⟨by omega,hJ⟩,rfl,rfl,rfl⟩);rw[qb (by omega),qb (by omega)]at hJ;refine ZZ [0,4] ?_;refine xf (E2 Et Et) (b5Z _ _ _ _ _ _ x.names.l y.names.l _ _ (hx.o.nr.mono v0 Sb) (hy.o.nr.mono v0 Sb)) ?_;refine kA5 ?_;refine A3 (GU.t rfl rfl) (λhc=>⟨Ef,(E2 (Eg hc) (Eg hc)),a1W x.e y.e _ _ (hx.o.e.t.mono Sb) (hy.o.e.t.mono Sb)⟩) Lb ?_;refine kA6 ?_;refine A3 (GU.t rfl rfl) (λhc=>⟨Ef,(E2 (Eg hc) (Eg hc)),b0V x.cs y.cs _ _ _ _ _ _ x.vs.l y.vs.l _ _ (hx.o.v.mono v0 Sb) (hy.o.v.mono v0 Sb)⟩) Lb ?_;refine kA6 ?_
 refine A3 (GU.t rfl rfl) (λhc=>⟨Ef,(E2 (Eg hc) (Eg hc)),a5E x.bl ih y.bl _ _ _ _ _ _ _ _ (hx.o.b.mono v0 Sb) (hy.o.b.mono v0 Sb) (λz hz=>(hx.b z hz).mono Sb) (λz hz=>(hy.b z hz).mono Sb)⟩) Lb ?_;refine Z2 ?_;refine wT h ?_;exact⟨by rw[e0,hJ];rfl,rfl⟩
theorem c6Y{m:View}{h:Lr}{p:Pr}(q:POk m h p):∀g∈p.gl,GK m h g:=λg hg=>⟨q.own.gs g hg,λ_ hx=>q.sub (.g hg hx)⟩
theorem c6E{m:View}{h:Lr}{p:Pr}(q:POk m h p):SK m h p.sp:=⟨q.own.sp,λ_ hx=>q.sub (.s hx)⟩
theorem a9v(p:Pr):∀(q:Pr)(h:Lr)(m:View),POk m h p->POk m h q->CT prog 7 [prV p,prV q] h m (A5 h (.bool (K4 p q))):=by
 refine Pr.ind (q:=λp=>∀(q:Pr)(h:Lr)(m:View),POk m h p->POk m h q->CT prog 7 [prV p,prV q] h m (A5 h (.bool (K4 p q)))) (λp ih q h m hp hq=>?_) p;have v0:=View.le.refl m;have e0:=a6S p q;have x1:=hp.own;have y1:=hq.own;have f1:=x1.pn;have f2:=y1.pn;have m1:=f1.mx;have m2:=f2.mx;have k1:=f1.le;have k2:=f2.le;refine cB [2,3,4,5,6,13,18,31] func7 λ_=>?_;refine xX λb2=>?_
 refine xX λb3=>?_;refine ZZ [1,7,0] ?_;refine wN ?_ ?_<;>intro c13
 rw[U5 _ p.pn.l q.pn.l (by omega),zu]at e0;refine Z1 ?_;refine wT h ?_;exact⟨by rw[e0],rfl⟩;refine ZZ [0,1,0] ?_;refine lI [2,3] (λμ F' h'=>∃k:Nat,(k<=p.pn.l.length/\eqL (λa b:Int=>a==b) p.pn.l q.pn.l=eqL (λa b:Int=>a==b) (p.pn.l.drop k) (q.pn.l.drop k))/\p.pn.l.length-k=μ/\F'=[(5,.int .i64 k)]/\.pt b3 (.cells (prE q).toArray 46 (0,0))::.pt b2 (.cells (prE p).toArray 46 (0,0))::h=h') (p.pn.l.length-0) [(5,.int .i64 0)] (.pt b3 (.cells (prE q).toArray 46 (0,0))::.pt b2 (.cells (prE p).toArray 46 (0,0))::h) ⟨0,⟨by omega,by simp⟩,rfl,rfl,rfl⟩ ?_;rintro _ _ _ ⟨k,⟨hk,hJ⟩,rfl,rfl,rfl⟩;refine A9 rfl ?_;refine Z5 ?_;refine wD ?_ ?_<;>intro c18
 obtain⟨u,hu⟩:=A8 (l:=p.pn.l) (k:=k) (by omega);obtain⟨v,hv⟩:=A8 (l:=q.pn.l) (k:=k) (by omega);rw[Q9 _ hu hv]at hJ;refine Z0 ?_;refine dS [] (.op 0 (.op 1 (.op 2 (.op 3 (.op 4 (.op 5 (.op 6 (.op 7 (.op 8 (.op 9 .nil)))))))))) [10] C9 ?_;refine b8A ?_;refine nS ?_;refine Z1 ?_;refine wN ?_ ?_<;>intro c31
 rw[show(u==v)=false by simpa using c31]at hJ;refine Z1 ?_;refine wT h ?_;exact⟨by rw[e0,hJ];rfl,rfl⟩;rw[show(u==v)=true by simpa using c31,qG]at hJ;refine ZZ [0,3] ?_;exact WL.nil (lN (p.pn.l.length-(k+1)) [(5,.int .i64 (k+1))] (.pt b3 (.cells (prE q).toArray 46 (0,0))::.pt b2 (.cells (prE p).toArray 46 (0,0))::h) ⟨k+1,⟨by omega,hJ⟩,rfl,rfl,rfl⟩);rw[qb (by omega),qb (by omega)]at hJ;refine ZZ [0,6] ?_;refine xG (H0 Et Et) ?_;refine kA7 ?_;refine A3 (GU.t rfl rfl) (λhc=>⟨Ef,(E2 (Eg hc) (Eg hc)),a1W p.rep.base q.rep.base _ _ (x1.rb.t.mono Sb) (y1.rb.t.mono Sb)⟩) Lb ?_;refine kA8 ?_;refine A3 (GU.t rfl rfl) (λhc=>⟨Ef,(E2 (Eg hc) (Eg hc)),a1W p.rep.count q.rep.count _ _ (x1.rc.t.mono Sb) (y1.rc.t.mono Sb)⟩) Lb ?_;refine ZZ [2,10] ?_;refine zG (λhc=>H0 (Eg hc) (Eg hc)) ?_;refine kA9 ?_
 refine A3 (GU.t rfl rfl) (λhc=>⟨Ef,(E2 (Eg hc) (Eg hc)),a1W p.ch q.ch _ _ (x1.ch.t.mono Sb) (y1.ch.t.mono Sb)⟩) Lb ?_;refine kA6 ?_;refine A3 (GU.t rfl rfl) (λhc=>⟨Ef,(E2 (Eg hc) (Eg hc)),a3m p.tg.l q.tg.l _ _ _ _ _ _ _ _ (x1.tg.rd.mono v0 Sb) (y1.tg.rd.mono v0 Sb) (λz hz=>(x1.tg.ok z hz).t.mono Sb) (λz hz=>(y1.tg.ok z hz).t.mono Sb)⟩) Lb ?_;refine kA6 ?_;refine A3 (GU.t rfl rfl) (λhc=>⟨Ef,(E2 (Eg hc) (Eg hc)),a3m p.ex.l q.ex.l _ _ _ _ _ _ _ _ (x1.ex.rd.mono v0 Sb) (y1.ex.rd.mono v0 Sb) (λz hz=>(x1.ex.ok z hz).t.mono Sb) (λz hz=>(y1.ex.ok z hz).t.mono Sb)⟩) Lb ?_;refine kA6 ?_;refine A3 (GU.t rfl rfl) (λhc=>⟨Ef,(E2 (Eg hc) (Eg hc)),b0f p.gl (λg hg z hz=>ih z (.g hg hz)) q.gl _ _ _ _ _ _ _ _ (x1.g.mono v0 Sb) (y1.g.mono v0 Sb) (λz hz=>(c6Y hp z hz).mono Sb) (λz hz=>(c6Y hq z hz).mono Sb)⟩) Lb ?_;refine kA6 ?_
 refine A3 (GU.t rfl rfl) (λhc=>⟨Ef,(E2 (Eg hc) (Eg hc)),a5E p.ll (λz hz=>ih z (.l hz)) q.ll _ _ _ _ _ _ _ _ (x1.l.mono v0 Sb) (y1.l.mono v0 Sb) (λz hz=>(hp.sub (.l hz)).mono Sb) (λz hz=>(hq.sub (.l hz)).mono Sb)⟩) Lb ?_;refine kA6 ?_;refine A3 (GU.t rfl rfl) (λhc=>⟨Ef,(E2 (Eg hc) (Eg hc)),a7m p.sp (λz hz=>ih z (.s hz)) q.sp _ _ ((c6E hp).mono Sb) ((c6E hq).mono Sb)⟩) Lb ?_;refine Z2 ?_;refine wT h ?_;exact⟨by rw[e0,hJ];rfl,rfl⟩
end
section
open Go.Eng Go.Pc Go.Sx Go
open Go.Xp hiding B E8
open Go.Ty (Ty Vr Tok eqT tyV E9 B1 A7 I6 zeroK H3 E5 encV D8 VOk PrOk)
open Go.Lx (encB C0 textO)
open Go.Ly (Rw K7 C6 eqR b3g b2W b3j)
theorem b8Z{m m':View}(g:Glob m)(h:m.le m'):Glob m':=
 ⟨by obtain⟨x,hx⟩:=g.max;exact⟨x,h.cell hx⟩,λj v e=>h.cell (g.prim j v e),λj v e=>h.cell (g.sOne j v e),λj v e=>h.cell (g.sSome j v e),λj v e=>h.cell (g.sAll j v e)⟩
section
variable {m m':View}{h h':Lr}
theorem c7u(V:Vw m' h' m h){e:Ex}(q:TOk m' h' e):TOk m h e:=by
 induction q with
 |mk hr _ ih=>exact .mk (V _ _ _ _ _ hr) ih
theorem a4W(V:Vw m' h' m h){e:Ex}(q:EOk m' h' e):EOk m h e:=⟨c7u V q.t,q.w⟩
theorem b3s(V:Vw m' h' m h){s:Sli Ex}(q:LOk m' h' s):LOk m h s:=⟨V _ _ _ _ _ q.rd,λx hx=>a4W V (q.ok x hx)⟩
theorem c7t(V:Vw m' h' m h){a:Oa}{k c:Nat}{l:List Vr}(q:PrOk m' h' a k c l):PrOk m h a k c l:=⟨V _ _ _ _ _ q.rd,λv hv=>⟨V _ _ _ _ _ (q.ok v hv).rd⟩,q.tag⟩
theorem c7Y(V:Vw m' h' m h){s:Sp}(q:SOk m' h' s):SOk m h s:=⟨q.k,q.ty,V _ _ _ _ _ q.nr,q.nw,a4W V q.e,c7t V q.v,q.vw,V _ _ _ _ _ q.fr,q.fw,V _ _ _ _ _ q.b⟩
theorem c8G(V:Vw m' h' m h){g:Gu}(q:GOk m' h' g):GOk m h g:=⟨q.k,q.n,a4W V q.cond,a4W V q.ch,b3s V q.tg,b3s V q.vl,a4W V q.time,V _ _ _ _ _ q.b⟩
theorem c9x(V:Vw m' h' m h){p:Pr}(q:P1 m' h' p):P1 m h p:=⟨q.k,q.n,a4W V q.ch,b3s V q.tg,b3s V q.ex,q.rn,a4W V q.rb,a4W V q.rc,V _ _ _ _ _ q.g,λx hx=>c8G V (q.gs x hx),V _ _ _ _ _ q.l,V _ _ _ _ _ q.pn,q.pw,c7Y V q.sp⟩
theorem c8y(V:Vw m' h' m h){p:Pr}(q:POk m' h' p):POk m h p:=by
 induction q with
 |mk o _ ih=>exact .mk (c9x V o) ih
end
theorem b9F{m:View}(hg:Glob m)(ra:Oa)(rc:Nat)(R:List Rw)(h:Lr)(ht:∀x∈R,x.text.length<=140737488355328) :
 CT prog 4 [.slice ra R.length rc] (.row (.slice ra R.length rc) 52 3 R.length (fl K7 R)::h) m (λv _ h'=>∃x hx bl,v=.tuple #[prV x,.int .i64 ((S3 R).2.1:Nat),.int .i64 (S3 R).2.2]/\stP x=(S3 R).1/\POk m (hx++(bl++h)) x/\Rd m hx ra R.length rc 3 (fl K7 R)/\h'=hx++(bl++h)):=
 (CT.lendRow call4 λm' hle hr=>b4V (b8Z hg hle) ra rc R h hr ht).mono (by
  rintro v m2 h2-⟨m',hx,h3,⟨x,bl,h1,h4,h5,rfl⟩,rfl,V,hr⟩;exact⟨x,hx,bl,h1,h4,c8y V (h5.mono (qg _ _)),hr,rfl⟩)
theorem a7Q{m:View}(hg:Glob m)(ra:Oa)(rc:Nat)(R:List Rw)(h:Lr)(ht:∀x∈R,x.text.length<=140737488355328) :
 CT prog 4 [.slice ra R.length rc] (.row (.slice ra R.length rc) 52 3 R.length (fl K7 R)::h) m (λv _ h'=>∃x hh,v=.tuple #[prV x,.int .i64 ((S3 R).2.1:Nat),.int .i64 (S3 R).2.2]/\stP x=(S3 R).1/\POk m (hh++h) x/\h'=hh++h):=
 (b9F hg ra rc R h ht).mono (by
  rintro v m2 h2-⟨x,hx,bl,h1,h4,h5,-,rfl⟩;exact⟨x,hx++bl,h1,h4,by rw[qj];exact h5,by rw[qj]⟩)
theorem b9z(s:B):(Lib.splitB ⟨#[47]⟩ 0 (Lib.countB ⟨s.toArray⟩ ⟨#[47]⟩) ⟨s.toArray⟩).map (·.data.toList)=N6 s:=by rw[Lib.splitB_data];rfl
theorem b6Z{m:View}(hg:Glob m)(s:B)(hs:s.length<4294967281)(h:Lr):CT prog 74 [str s,str [47]] h m
 (λv _ h'=>∃b,v=.slice (some ⟨b,0,none⟩) (N6 s).length (N6 s).length/\h'=.pt b (.cells (fl encB (N6 s)).toArray 9 (0,0))::h):=by
 obtain⟨x,hx⟩:=hg.max;refine⟨call74,λw st=>Calls.mono (Tryz.strings_Split ⟨s.toArray⟩ ⟨#[47]⟩ x w hs (st.cell hx) (by decide)) ?_⟩;rintro e w' ⟨rfl,rfl⟩;have h1:=b9z s;have h2:Lib.countB ⟨s.toArray⟩ ⟨#[47]⟩+1=(N6 s).length:=by rw[<-h1,qP,Lib.splitB_all ⟨#[47]⟩ (by decide) 0 _ ⟨s.toArray⟩ rfl]
 have h3:(Lib.splitB ⟨#[47]⟩ 0 (Lib.countB ⟨s.toArray⟩ ⟨#[47]⟩) ⟨s.toArray⟩).map Value.string=fl encB (N6 s):=by
  rw[<-h1];generalize Lib.splitB ⟨#[47]⟩ 0 (Lib.countB ⟨s.toArray⟩ ⟨#[47]⟩) ⟨s.toArray⟩=l;induction l with
  |nil=>rfl
  |cons y l ih=>rw[zo,zo,ih];rfl
 rw[h2,h3];exact⟨_,m,_,rfl,Vl,st.alloc _,w.heap.size,rfl,rfl⟩
theorem b9s(s:B)(h:Lr)(m:View):CT prog 75 [str s,str [46]] h m (A5 h (str (Lib.trimLeftB s 46))):=
 CT.ofCalls call75 λw _=>Tryz.strings_TrimLeft_one ⟨s.toArray⟩ 46 (by decide) w
theorem b2q{m:View}(hg:Glob m)(s:B)(hs:s.length<4294967281)(hl:(N6 s).length<=1000)(hp:∀x∈N6 s,x.length<=100000)(h:Lr) :
 CT prog 37 [str s] h m (λv _ h'=>b5h K7 52 3 h (a0N s) v h'):=by
 refine cB [0,2,3,4,5,6,8,9,10,11] func37 λ_=>?_;refine Z1 ?_;refine WL.addNil 52 3 ?_;refine ZZ [1,1] ?_;refine xg (E2 Et Ek) (b6Z hg s hs _) ?_;rintro _ _ ⟨b8,rfl,rfl⟩;refine Z2 ?_;refine lI [8,9] (λμ F' h'=>∃a3:Oa,∃c3:Nat,∃j:Nat,∃r:List Rw,((j<=(N6 s).length/\r.length=j)/\r=a6Q 0 ((N6 s).take j))/\(N6 s).length-j=μ/\F'=[(3,.slice a3 r.length c3),(10,.int .i64 j)]/\.pt b8 (.cells (fl encB (N6 s)).toArray 9 (0,0))::.row (.slice a3 r.length c3) 52 3 r.length (fl K7 r)::h=h') ((N6 s).length-0) [(3,.slice none ([]).length 0),(10,.int .i64 0)] (.pt b8 (.cells (fl encB (N6 s)).toArray 9 (0,0))::.row (.slice none ([]).length 0) 52 3 ([]).length (fl K7 ([]))::h) ⟨none,0,0,[],⟨⟨by omega,rfl⟩,rfl⟩,rfl,rfl,rfl⟩ ?_;rintro _ _ _ ⟨a3,c3,j,r,⟨⟨hj,hr⟩,hJ⟩,rfl,rfl,rfl⟩;refine A9 rfl ?_;refine y4 ?_ ?_<;>intro c11
 obtain⟨x,hx⟩:=A8 (l:=N6 s) (k:=j) (by omega);have hxl:=hp x (qe hx);have htl:(Lib.trimLeftB x 46).length<=x.length:=(jc _).length_le;have htk:a6Q 0 ((N6 s).take (j+1))=a6Q 0 ((N6 s).take j)++[a7l j x]:=by rw[a9o hx,qI]
 have hln:(r++[a7l j x]).length=r.length+1:=qh;have hrd:Rd m (.pt b8 (.cells (fl encB (N6 s)).toArray 9 (0,0))::.row (.slice a3 r.length c3) 52 3 r.length (fl K7 r)::h) (some ⟨b8,0,none⟩) (N6 s).length (N6 s).length 1 (fl encB (N6 s)):=Rd.ofPt (by rw[a6y C0]) (by omega) Me;refine ZZ [0,5,1] ?_;refine xf (E2 Et Ek) (b9s x _ _) ?_;refine ZZ [1,4] ?_;refine xG (G0 uu9 Et) ?_;refine kA1 ?_;refine xG (G0 uu9 Et) ?_;refine xG (P3 Et Et (by omega)) ?_;refine kA2 ?_;refine xY V1 Eb λb27=>?_;refine xD V1 (Ev.tmp rfl) (Ev.tmp rfl) (show r.length+1=(r++[a7l j x]).length by simp) (D9 (enc:=K7) _ (a7l j x)) λa28 c28=>?_
 refine ZZ [1,2] ?_;exact WL.nil (lN ((N6 s).length-(j+1)) [(3,.slice a28 (r++[a7l j x]).length c28),(10,.int .i64 (j+1))] (.pt b8 (.cells (fl encB (N6 s)).toArray 9 (0,0))::.row (.slice a28 (r++[a7l j x]).length c28) 52 3 (r++[a7l j x]).length (fl K7 (r++[a7l j x]))::h) ⟨a28,c28,j+1,r++[a7l j x],⟨⟨by omega,by omega⟩,by rw[htk,hJ]⟩,rfl,rfl,rfl⟩);rw[qC (by omega)]at hJ;subst hJ;refine ZZ [0,2,0] ?_;refine wT (.row (.slice a3 (a0N s).length c3) 52 3 (a0N s).length (fl K7 (a0N s))::h) ?_;exact⟨_,_,_,rfl,rfl,rfl⟩
theorem b6f(s1 s2:Oa)(n1 c1 n2 c2:Nat)(xs ys:List _)(h:Lr)(m:View)(h1:Rd m h s1 n1 c1 3 (fl K7 xs))(h2:Rd m h s2 n2 c2 3 (fl K7 ys)) :
 CT prog 39 [.slice s1 n1 c1,.slice s2 n2 c2] h m (A5 h (.bool (eqL eqR xs ys))):=by
 have l1:=h1.lenF C6 (by decide);have l2:=h2.lenF C6 (by decide);have m1:=h1.mx;have m2:=h2.mx;have k1:=h1.le;have k2:=h2.le;refine cB [0,1,4,5,10,12,13,14,24] func39 λ_=>?_;refine ZZ [1,5,0] ?_;refine wN ?_ ?_<;>intro c10
 refine Z1 ?_;refine wT h ?_;exact⟨by rw[U5 _ _ _ (by omega)],rfl⟩;refine ZZ [0,3,0] ?_;refine lI [0,1,12] (λμ F' h'=>∃k:Nat,(k<=n1/\eqL eqR xs ys=eqL eqR (xs.drop k) (ys.drop k))/\n1-k=μ/\F'=[(13,.int .i64 k)]/\h=h') (n1-0) [(13,.int .i64 0)] h ⟨0,⟨by omega,by simp⟩,rfl,rfl,rfl⟩ ?_;rintro _ _ _ ⟨k,⟨hk,hJ⟩,rfl,rfl,rfl⟩;refine A9 rfl ?_;refine y4 ?_ ?_<;>intro c14
 obtain⟨x,hx⟩:=A8 (l:=xs) (k:=k) (by omega);obtain⟨y,hy⟩:=A8 (l:=ys) (k:=k) (by omega);rw[Q9 _ hx hy]at hJ;refine ZZ [0,2,0] ?_;refine dS [] (.op 0 (.op 1 (.op 2 (.op 3 (.op 4 (.op 5 (.op 6 (.op 7 .nil)))))))) [8] C9 ?_;refine kA8 ?_;refine nS ?_;refine xG (a3j a8Y (by kernel_rfl) (by kernel_rfl) Et Et rfl) ?_;refine y0 ?_ ?_<;>intro c24
 refine Z1 ?_;refine wT h ?_;exact⟨by rw[hJ,b2W c24];rfl,rfl⟩;rw[b3g c24,qG]at hJ;refine ZZ [0,2] ?_;exact WL.nil (lN (n1-(k+1)) [(13,.int .i64 (k+1))] h ⟨k+1,⟨by omega,hJ⟩,rfl,rfl,rfl⟩);refine ZZ [0,1,0] ?_;refine wT h ?_;exact⟨by rw[hJ,qb (by omega),qb (by omega)];rfl,rfl⟩
structure TxtOk(s:B):Prop where
 n:s.length<4294967281
 l:(N6 s).length<=1000
 p:∀x∈N6 s,x.length<=100000
 t:∀x∈a0N s,x.text.length<=140737488355328
def a6z(s:B):Bool:=decide (s.length<1000)&&decide ((N6 s).length<=1000)&&(N6 s).all (λx=>decide (x.length<=1000))&&(a0N s).all (λx=>decide (x.text.length<=1000))
theorem a1t{s:B}(h:a6z s=true):TxtOk s:=by unfold a6z at h;simp only[qa,qw,zc]at h;obtain⟨⟨⟨h1,h2⟩,h3⟩,h4⟩:=h;exact⟨by omega,h2,λx hx=>by have:=h3 x hx;omega,λx hx=>by have:=h4 x hx;omega⟩
theorem a4e{m:View}(hg:Glob m)(hp:Pow m)(s:B)(k:Int)(hT:TxtOk s)(hM:a4r s k=true)(h:Lr) :
 CT prog 19 [str s,.int .u8 k] h m (A5 h (.bool true)):=by
 unfold a4r at hM;simp only[qa,qU]at hM;obtain⟨⟨⟨⟨hM1,hM2⟩,hM3⟩,hM4⟩,hM5⟩:=hM;refine cB [0,1,4,5,6,7,8,9] func19 λ_=>?_;refine ZZ [1,1] ?_;refine xJ (E1 Et) (b2q hg s hT.n hT.l hT.p _) λa12 c12=>?_
 refine xg (E1 Et) (a7Q hg _ _ (a0N s) _ hT.t) ?_;rintro _ _ ⟨x,hh,rfl,hst,hok,rfl⟩;rw[hM2,hM3];have hxk:x.k=k:=by rw[<-(a9C x).1,hst];exact hM1
 have hpx:Y5 x=Y5 (S3 (a0N s)).1:=by rw[<-hst,c0K]
 refine kA4 ?_;refine xW λb5=>?_;refine ZZ [3,1] ?_;refine xg (E1 Et) (c2O hg hp x _ (hok.mono Sb)) ?_;rintro _ _ ⟨a19,c19,bl2,rfl,hrd,rfl,-⟩;rw[hpx,hM4];rw[hpx]at hrd;refine WL.perm qL ?_;refine ZZ [5,4] ?_;refine wV (b':=true) (by simpa using hxk) ?_;refine kA1 ?_;refine zU ?_;refine kA1 ?_;refine zU ?_;refine kA3 ?_;refine zU ?_;refine kA1 ?_;refine zU ?_;refine kA3 ?_;refine zU ?_;refine kA1 ?_;refine zU ?_;refine kA3 ?_;refine zU ?_;refine kA1 ?_;refine zU ?_;refine kA1 ?_;refine zU ?_;refine xJ (E1 Et) (b2q hg s hT.n hT.l hT.p _) λa41 c41=>?_
 refine kR a41 λp41 q41 r41=>?_;refine zU ?_;refine xf (E2 Et Et) ((b6f _ _ _ _ _ _ (Y5 (S3 (a0N s)).1).1 (a0N s) _ _ (hrd.mono Vl (((qg _ _).cons _).cons _)) (iR r41 p41 q41)).val (congrArg Value.bool hM5)) ?_;refine Z2 ?_;refine wT h ?_;exact⟨rfl,rfl⟩
end
section
open Go.Eng Go.Pc Go
open Go.Xp hiding B E8
open Go.Ty (Ty Vr eqT tyV E9 PrOk VOk encV D8 H3 E5 eqI a3a a2S)
open Go.Lx (encB C0)
theorem c7l{P:Program}{n:Cx}{F:Fm}{h:Lr}{m:View}{ty:TypeId}{pos:String}{after:Array Edge}{dst:Option Tmp}{g:Option (Nat×Bool)}{x y:Operand}{i j:Int}{t t':TypeId}(ex:Ev n F x (.int .i64 i))(ey:Ev n F y (.int .i64 j))(_:(0:Int)<=1) :
 PO P ⟨dst,.binOp .add t x y t',ty,pos,after,g⟩ n F h m (.int .i64 (IntKind.i64.wrap (i+j))):=O4 ex ey (by simp[iop])
abbrev W64(v:Int):Int:=IntKind.i64.wrap v
theorem d01(a b:Int):W64 (W64 a+W64 b)=W64 (a+b):=by unfold W64;rw[IntKind.wrap_i64,IntKind.wrap_i64,IntKind.wrap_i64,IntKind.wrap_i64];omega
theorem a4t{x:Pr}:∀{l:List Pr}{j:Nat},l[j]?=some x->S2 (l.take (j+1))=S2 (l.take j)+W9 x
 | [],_,h=>by cases h
 |y::l,0,h=>by
  cases h;show W9 _+S2 (l.take 0)=S2 []+_;rw[zZ];unfold S2;omega
 |y::l,j+1,h=>by
  have ih:=a4t (l:=l) (j:=j) (by simpa using h);show W9 y+S2 (l.take (j+1))=(W9 y+S2 (l.take j))+_;omega
theorem b0L{g:Gu}:∀{l:List Gu}{j:Nat},l[j]?=some g->a1V (l.take (j+1))=a1V (l.take j)+S2 g.bl
 | [],_,h=>by cases h
 |y::l,0,h=>by
  cases h;show b6z _+a1V (l.take 0)=a1V []+_;rw[zZ,b2B];unfold a1V;omega
 |y::l,j+1,h=>by
  have ih:=b0L (l:=l) (j:=j) (by simpa using h);show b6z y+a1V (l.take (j+1))=(b6z y+a1V (l.take j))+_;omega
theorem b7f{v:Int}{a b:Nat}{c:Int}{x:Pr}(hv:v=W64 (c+(a:Int)))(hb:b=a+W9 x):W64 (v+W64 (W9 x))=W64 (c+(b:Int)):=by
 subst hv hb;rw[d01];congr 1
 omega
theorem c6k(p:Pr):∀(h:Lr)(m:View),POk m h p->CT prog 22 [prV p] h m (A5 h (.int .i64 (W64 (W9 p)))):=by
 refine Pr.ind (q:=λp=>∀(h:Lr)(m:View),POk m h p->CT prog 22 [prV p] h m (A5 h (.int .i64 (W64 (W9 p))))) (λp ih h m hP=>?_) p;have hO:=hP.own;have hrl:=hO.l;have hrg:=hO.g;have hrb:=hO.sp.b;have hlx:=qr hrl.le hrl.mx;have hgx:=qr hrg.le hrg.mx;have hbx:=qr hrb.le hrb.mx;have hce:=a8J p;rw[a8M]at hce;refine cB [1,2,3,5,7,9,11,13,14,15,16,26,27,28,29,38,39,40,41,45,46,47,48] func22 λ_=>?_
 refine xX λb1=>?_;refine ZZ [1,1,4,0] ?_;refine lI [1,13,14] (λμ F' h'=>∃v:Int,∃j:Nat,(j<=p.ll.length/\v=W64 (1+(S2 (p.ll.take j):Nat)))/\p.ll.length-j=μ/\F'=[(3,.int .i64 v),(15,.int .i64 j)]/\.pt b1 (.cells (prE p).toArray 46 (0,0))::h=h') (p.ll.length-0) [(3,.int .i64 1),(15,.int .i64 0)] (.pt b1 (.cells (prE p).toArray 46 (0,0))::h) ⟨1,0,⟨qi _,rfl⟩,rfl,rfl,rfl⟩ ?_;rintro _ _ _ ⟨v,j,⟨hj,hv⟩,rfl,rfl,rfl⟩;refine A9 rfl ?_;refine y4 ?_ ?_<;>intro c16
 obtain⟨x,hx⟩:=A8 (l:=p.ll) (k:=j) (by omega);have hin:In x p:=.l (qe hx);refine ZZ [0,2] ?_;refine xW λb5=>?_;refine ZZ [1,2] ?_;refine xf (E1 Et) (ih x hin _ m ((hP.sub hin).mono Sb)) ?_;refine xG (c7l Et Et (by omega)) ?_;refine ZZ [1,2] ?_;exact WL.nil (lN (p.ll.length-(j+1)) [(3,.int .i64 (W64 (v+W64 (W9 x)))),(15,.int .i64 (j+1))] (.pt b1 (.cells (prE p).toArray 46 (0,0))::h) ⟨W64 (v+W64 (W9 x)),j+1,⟨by omega,b7f hv (a4t (l:=p.ll) hx)⟩,rfl,rfl,rfl⟩);rw[qC (by omega)]at hv;refine ZZ [0,5,0] ?_;refine lI [1,26,27] (λμ F' h'=>∃v:Int,∃j:Nat,(j<=p.sp.bl.length/\v=W64 ((1+(S2 p.ll:Int))+(S2 (p.sp.bl.take j):Nat)))/\p.sp.bl.length-j=μ/\F'=[(3,.int .i64 v),(28,.int .i64 j)]/\.pt b1 (.cells (prE p).toArray 46 (0,0))::h=h') (p.sp.bl.length-0) [(3,.int .i64 v),(28,.int .i64 0)] (.pt b1 (.cells (prE p).toArray 46 (0,0))::h) ⟨v,0,⟨qi _,by rw[hv,zZ];congr 1⟩,rfl,rfl,rfl⟩ ?_;rintro _ _ _ ⟨v,j,⟨hj,hv⟩,rfl,rfl,rfl⟩;refine A9 rfl ?_
 refine y4 ?_ ?_<;>intro c29
 obtain⟨x,hx⟩:=A8 (l:=p.sp.bl) (k:=j) (by omega);have hin:In x p:=.s (qe hx);refine ZZ [0,2] ?_;refine xW λb7=>?_;refine ZZ [1,2] ?_;refine xf (E1 Et) (ih x hin _ m ((hP.sub hin).mono Sb)) ?_;refine xG (c7l Et Et (by omega)) ?_;refine ZZ [1,2] ?_;exact WL.nil (lN (p.sp.bl.length-(j+1)) [(3,.int .i64 (W64 (v+W64 (W9 x)))),(28,.int .i64 (j+1))] (.pt b1 (.cells (prE p).toArray 46 (0,0))::h) ⟨W64 (v+W64 (W9 x)),j+1,⟨by omega,b7f hv (a4t (l:=p.sp.bl) hx)⟩,rfl,rfl,rfl⟩);rw[qC (by omega)]at hv;refine ZZ [0,4,0] ?_;refine lI [38,39] (λμ F' h'=>∃v:Int,∃j:Nat,(j<=p.gl.length/\v=W64 (((1+(S2 p.ll:Int))+(S2 p.sp.bl:Nat))+(a1V (p.gl.take j):Nat)))/\p.gl.length-j=μ/\F'=[(3,.int .i64 v),(40,.int .i64 j)]/\.pt b1 (.cells (prE p).toArray 46 (0,0))::h=h') (p.gl.length-0) [(3,.int .i64 v),(40,.int .i64 0)] (.pt b1 (.cells (prE p).toArray 46 (0,0))::h) ⟨v,0,⟨qi _,by rw[hv,zZ];congr 1⟩,rfl,rfl,rfl⟩ ?_;rintro _ _ _ ⟨v,j,⟨hj,hv⟩,rfl,rfl,rfl⟩;refine A9 rfl ?_
 refine y4 ?_ ?_<;>intro c41
 obtain⟨g,hg1⟩:=A8 (l:=p.gl) (k:=j) (by omega);have hgm:=qe hg1;have hgb:=(hO.gs g hgm).b;have hgbx:=qr hgb.le hgb.mx;refine ZZ [0,2] ?_;refine xW λb9=>?_;refine ZZ [1,4,0] ?_;refine lI [38,39,40,45,46] (λμ F' h'=>∃w:Int,∃i:Nat,(i<=g.bl.length/\w=W64 ((((1+(S2 p.ll:Int))+(S2 p.sp.bl:Nat))+(a1V (p.gl.take j):Nat))+(S2 (g.bl.take i):Nat)))/\g.bl.length-i=μ/\F'=[(3,.int .i64 w),(47,.int .i64 i)]/\.pt b1 (.cells (prE p).toArray 46 (0,0))::h=h') (g.bl.length-0) [(3,.int .i64 v),(47,.int .i64 0)] (.pt b1 (.cells (prE p).toArray 46 (0,0))::h) ⟨v,0,⟨qi _,by rw[hv,zZ];congr 1⟩,rfl,rfl,rfl⟩ ?_;rintro _ _ _ ⟨w,i,⟨hi,hw⟩,rfl,rfl,rfl⟩;refine A9 rfl ?_;refine y4 ?_ ?_<;>intro c48
 obtain⟨x,hx⟩:=A8 (l:=g.bl) (k:=i) (by omega);have hin:In x p:=.g hgm (qe hx);refine ZZ [0,2] ?_;refine xW λb11=>?_;refine ZZ [1,2] ?_;refine xf (E1 Et) (ih x hin _ m ((hP.sub hin).mono Sb)) ?_;refine xG (c7l Et Et (by omega)) ?_;refine ZZ [1,2] ?_;exact WL.nil (lN (g.bl.length-(i+1)) [(3,.int .i64 (W64 (w+W64 (W9 x)))),(47,.int .i64 (i+1))] (.pt b1 (.cells (prE p).toArray 46 (0,0))::h) ⟨W64 (w+W64 (W9 x)),i+1,⟨by omega,b7f hw (a4t (l:=g.bl) hx)⟩,rfl,rfl,rfl⟩);rw[qC (l:=g.bl) (by omega)]at hw;refine ZZ [0,2] ?_;exact WL.nil (lN (p.gl.length-(j+1)) [(3,.int .i64 w),(40,.int .i64 (j+1))] (.pt b1 (.cells (prE p).toArray 46 (0,0))::h) ⟨w,j+1,⟨by omega,by rw[hw,b0L hg1];congr 1;omega⟩,rfl,rfl,rfl⟩);rw[qC (by omega)]at hv;refine ZZ [0,2,0] ?_;refine wT h ?_;exact⟨by rw[hv,hce];congr 2;omega,rfl⟩
theorem b1g(m:View)(h:Lr):EOk m h A0:=⟨.mk (Rd.nilF exE 6 m h) (λ_ hx=>(qn hx).elim),.mk (by decide) (by decide) (by decide) (by decide) (by decide) λ_ hx=>(qn hx).elim⟩
theorem c7c(m:View)(h:Lr):LOk m h A2:=⟨Rd.nilF exE 6 m h,λ_ hx=>(qn hx).elim⟩
theorem c8h{α:Type}{l:List α}{i:Nat}{x:α}(h:l[i]?=some x)(q:α->Bool):(l.drop i).all q=(q x&&(l.drop (i+1)).all q):=by obtain⟨hi,rfl⟩:=qd.1 h;rw[qq hi,List.all_cons]
theorem c6K(m:View)(h:Lr):PrOk m h none 0 0 []:=⟨Rd.nilF encV 2 m h,λ_ hx=>(qn hx).elim,λ_ hx=>(qn hx).elim⟩
theorem b83:TyW Go.Ty.zeroT:=⟨by decide,by decide,by decide,by decide⟩
structure SpF(m:View)(h:Lr)(ty:Ty)(e:Ex)(vs:Sli Vr)(fs:Sli Fo):Prop where
 t:TyW ty
 e:EOk m h e
 v:PrOk m h vs.a vs.l.length vs.c vs.l
 vw:∀x∈vs.l,x.items.length=x.n
 f:Rd m h fs.a fs.l.length fs.c 6 (fl foE fs.l)
 fw:∀x∈fs.l,FoW x
theorem a98{m:View}{h:Lr}{k:Int}{ty:Ty}{nm:Sli B}{e:Ex}{cs:Bool}{vs:Sli Vr}{fs:Sli Fo}{ba:Oa}{bc:Nat}{bl:List Pr}(hk:0<=k/\k<=255)(q:SpF m h ty e vs fs)(hn:Rd m h nm.a nm.l.length nm.c 1 (fl encB nm.l))(hw:∀x∈nm.l,x.length<=Big)
 (hb:Rd m h ba bl.length bc 42 (fl prE bl)) (hp:∀x∈bl,POk m h x):SK m h (.mk k ty nm e cs vs fs ba bc bl):=⟨⟨hk,q.t,hn,hw,q.e,q.v,q.vw,q.f,q.fw,hb⟩,hp⟩
theorem a4K{α:Type}{p:α->Prop}:∀x∈(A2:Sli α).l,p x:=λ_ hx=>(qn hx).elim
theorem c8X(m:View)(h:Lr):SK m h B4:=a98 (by decide) ⟨b83,b1g m h,c6K m h,a4K,Rd.nilF foE 6 m h,a4K⟩ (Rd.nilF encB 1 m h) a4K (Rd.nilF prE 42 m h) (λ_ hx=>(qn hx).elim)
abbrev spX(b:Nat)(s:Sp):Res:=.pt b (.cells (spE s).toArray 44 (0,0))
theorem c0o(s:Sp)(h:Lr)(m:View)(hS:SK m h s):CT prog 64 [spV s] h m (A5 h (.bool (spP s))):=by
 have hO:=hS.o;have v0:=View.le.refl m;have hp2:s.ty.proto.length<=9223372036854775807:=qr hO.ty.p (by decide);have hzk:(0:Int)<=0/\(0:Int)<=255:=by decide
 have f1:=hO.fr;have fm:=f1.mx;have fl1:=f1.le;refine cB [1,2,3,4,5,9,10,22,41,60,72,93] func64 λ_=>?_;refine xX λb1=>?_
 refine ZZ [1,1] ?_;refine xW λb3=>?_;refine ZZ [1,2,1,0] ?_;refine kP2 [1,3,4,9] ?_;refine D6 KKh [3] rfl (λF' h'=>∃fb:Bool,∃xs:Sp,(SK m h (.mk 0 xs.ty A2 xs.e xs.cs xs.vs xs.fs xs.ba xs.bc xs.bl)/\spP s=(fb&&a0s (.mk 0 xs.ty A2 xs.e xs.cs xs.vs xs.fs xs.ba xs.bc xs.bl) B4))/\F'=[(4,.bool fb)]/\spX b3 (.mk 0 xs.ty s.names xs.e xs.cs xs.vs xs.fs xs.ba xs.bc xs.bl)::spX b1 s::h=h') ?_ ?_;refine y3 ?_ ?_<;>intro c10
 refine kA2 ?_;refine xf (E1 Et) (CT.val (Ty9.mayR_ct s.ty _ _ hp2) (congrArg Value.bool (Go.Ty.may_eq s.ty).symm)) ?_;refine kA3 ?_;refine A3 (GU.t rfl rfl) (λhc=>⟨Ef,(E3 (Eg hc) Ek Ek),a7g _ _ _ s.names.l 1 8 _ _ (hO.nr.mono v0 Sb) hO.nw⟩) Lb ?_;refine ZZ [2,3] ?_
 exact WL.nil (mN [(4,.bool ((Go.Ty.may s.ty&&O2 s.names.l 1 8 Go.Lx.name)))] (spX b3 (.mk 0 (Sp.mk 0 Go.Ty.zeroT A2 s.e s.cs s.vs s.fs s.ba s.bc s.bl).ty s.names (Sp.mk 0 Go.Ty.zeroT A2 s.e s.cs s.vs s.fs s.ba s.bc s.bl).e (Sp.mk 0 Go.Ty.zeroT A2 s.e s.cs s.vs s.fs s.ba s.bc s.bl).cs (Sp.mk 0 Go.Ty.zeroT A2 s.e s.cs s.vs s.fs s.ba s.bc s.bl).vs (Sp.mk 0 Go.Ty.zeroT A2 s.e s.cs s.vs s.fs s.ba s.bc s.bl).fs (Sp.mk 0 Go.Ty.zeroT A2 s.e s.cs s.vs s.fs s.ba s.bc s.bl).ba (Sp.mk 0 Go.Ty.zeroT A2 s.e s.cs s.vs s.fs s.ba s.bc s.bl).bc (Sp.mk 0 Go.Ty.zeroT A2 s.e s.cs s.vs s.fs s.ba s.bc s.bl).bl)::spX b1 s::h) ⟨(Go.Ty.may s.ty&&O2 s.names.l 1 8 Go.Lx.name),Sp.mk 0 Go.Ty.zeroT A2 s.e s.cs s.vs s.fs s.ba s.bc s.bl,⟨a98 hzk ⟨b83,hO.e,hO.v,hO.vw,hO.fr,hO.fw⟩ (Rd.nilF encB 1 m h) a4K hO.b hS.b,d0x c10⟩,rfl,rfl⟩);refine y3 ?_ ?_<;>intro c22
 refine kA2 ?_;refine xf (E1 Et) (a7K s.ty _ _ hp2) ?_;refine kA3 ?_;refine A3 (GU.t rfl rfl) (λhc=>⟨Ef,(E3 (Eg hc) Ek Ek),a7g _ _ _ s.names.l 1 1 _ _ (hO.nr.mono v0 Sb) hO.nw⟩) Lb ?_;refine kA4 ?_;refine A3 (GU.t rfl rfl) (λhc=>⟨Ef,(E1 (Eg hc)),mayR_ct s.e _ (hO.e.t.mono Sb) hO.e.w⟩) Lb ?_;refine ZZ [2,3,3] ?_
 exact WL.nil (mN [(4,.bool (((N4 s.ty&&O2 s.names.l 1 1 Go.Lx.name)&&K0 s.e)))] (spX b3 (.mk 0 (Sp.mk 0 Go.Ty.zeroT A2 A0 s.cs s.vs s.fs s.ba s.bc s.bl).ty s.names (Sp.mk 0 Go.Ty.zeroT A2 A0 s.cs s.vs s.fs s.ba s.bc s.bl).e (Sp.mk 0 Go.Ty.zeroT A2 A0 s.cs s.vs s.fs s.ba s.bc s.bl).cs (Sp.mk 0 Go.Ty.zeroT A2 A0 s.cs s.vs s.fs s.ba s.bc s.bl).vs (Sp.mk 0 Go.Ty.zeroT A2 A0 s.cs s.vs s.fs s.ba s.bc s.bl).fs (Sp.mk 0 Go.Ty.zeroT A2 A0 s.cs s.vs s.fs s.ba s.bc s.bl).ba (Sp.mk 0 Go.Ty.zeroT A2 A0 s.cs s.vs s.fs s.ba s.bc s.bl).bc (Sp.mk 0 Go.Ty.zeroT A2 A0 s.cs s.vs s.fs s.ba s.bc s.bl).bl)::spX b1 s::h) ⟨((N4 s.ty&&O2 s.names.l 1 1 Go.Lx.name)&&K0 s.e),Sp.mk 0 Go.Ty.zeroT A2 A0 s.cs s.vs s.fs s.ba s.bc s.bl,⟨a98 hzk ⟨b83,b1g m h,hO.v,hO.vw,hO.fr,hO.fw⟩ (Rd.nilF encB 1 m h) a4K hO.b hS.b,d0y c22⟩,rfl,rfl⟩);refine y3 ?_ ?_<;>intro c41
 refine kA2 ?_;refine xf (E1 Et) (a7K s.ty _ _ hp2) ?_;refine kA3 ?_;refine A3 (GU.t rfl rfl) (λhc=>⟨Ef,(E3 (Eg hc) Ek Ek),a7g _ _ _ s.names.l 1 1 _ _ (hO.nr.mono v0 Sb) hO.nw⟩) Lb ?_;refine kA4 ?_;refine A3 (GU.t rfl rfl) (λhc=>⟨Ef,(E1 (Eg hc)),b3y s.e ⟨hO.e.t.mono Sb,hO.e.w⟩⟩) Lb ?_;refine ZZ [2,3,3] ?_
 exact WL.nil (mN [(4,.bool (((N4 s.ty&&O2 s.names.l 1 1 Go.Lx.name)&&L5 s.e)))] (spX b3 (.mk 0 (Sp.mk 0 Go.Ty.zeroT A2 A0 s.cs s.vs s.fs s.ba s.bc s.bl).ty s.names (Sp.mk 0 Go.Ty.zeroT A2 A0 s.cs s.vs s.fs s.ba s.bc s.bl).e (Sp.mk 0 Go.Ty.zeroT A2 A0 s.cs s.vs s.fs s.ba s.bc s.bl).cs (Sp.mk 0 Go.Ty.zeroT A2 A0 s.cs s.vs s.fs s.ba s.bc s.bl).vs (Sp.mk 0 Go.Ty.zeroT A2 A0 s.cs s.vs s.fs s.ba s.bc s.bl).fs (Sp.mk 0 Go.Ty.zeroT A2 A0 s.cs s.vs s.fs s.ba s.bc s.bl).ba (Sp.mk 0 Go.Ty.zeroT A2 A0 s.cs s.vs s.fs s.ba s.bc s.bl).bc (Sp.mk 0 Go.Ty.zeroT A2 A0 s.cs s.vs s.fs s.ba s.bc s.bl).bl)::spX b1 s::h) ⟨((N4 s.ty&&O2 s.names.l 1 1 Go.Lx.name)&&L5 s.e),Sp.mk 0 Go.Ty.zeroT A2 A0 s.cs s.vs s.fs s.ba s.bc s.bl,⟨a98 hzk ⟨b83,b1g m h,hO.v,hO.vw,hO.fr,hO.fw⟩ (Rd.nilF encB 1 m h) a4K hO.b hS.b,d0s c41⟩,rfl,rfl⟩);refine y3 ?_ ?_<;>intro c60
 refine kA2 ?_;refine xf (E3 Et Ek Ek) (a7g _ _ _ s.names.l 1 1 _ _ (hO.nr.mono v0 Sb) hO.nw) ?_;refine kA3 ?_;refine A3 (GU.t rfl rfl) (λhc=>⟨Ef,(E1 (Eg hc)),Ty9.mayProtoR_ct s.cs _ _ _ s.vs.l _ _ (hO.v.mono v0 Sb)⟩) Lb ?_;refine ZZ [2,3] ?_
 exact WL.nil (mN [(4,.bool ((O2 s.names.l 1 1 Go.Lx.name&&Go.Ty.mayPr s.cs s.vs.l)))] (spX b3 (.mk 0 (Sp.mk 0 s.ty A2 s.e false A2 s.fs s.ba s.bc s.bl).ty s.names (Sp.mk 0 s.ty A2 s.e false A2 s.fs s.ba s.bc s.bl).e (Sp.mk 0 s.ty A2 s.e false A2 s.fs s.ba s.bc s.bl).cs (Sp.mk 0 s.ty A2 s.e false A2 s.fs s.ba s.bc s.bl).vs (Sp.mk 0 s.ty A2 s.e false A2 s.fs s.ba s.bc s.bl).fs (Sp.mk 0 s.ty A2 s.e false A2 s.fs s.ba s.bc s.bl).ba (Sp.mk 0 s.ty A2 s.e false A2 s.fs s.ba s.bc s.bl).bc (Sp.mk 0 s.ty A2 s.e false A2 s.fs s.ba s.bc s.bl).bl)::spX b1 s::h) ⟨(O2 s.names.l 1 1 Go.Lx.name&&Go.Ty.mayPr s.cs s.vs.l),Sp.mk 0 s.ty A2 s.e false A2 s.fs s.ba s.bc s.bl,⟨a98 hzk ⟨hO.ty,hO.e,c6K m h,a4K,hO.fr,hO.fw⟩ (Rd.nilF encB 1 m h) a4K hO.b hS.b,d0e c60⟩,rfl,rfl⟩);refine y3 ?_ ?_<;>intro c72
 refine kA2 ?_;refine xf (E3 Et Ek Ek) (a7g _ _ _ s.names.l 1 1 _ _ (hO.nr.mono v0 Sb) hO.nw) ?_;refine b0g ?_;refine ZZ [1,1,0] ?_;refine lI [1,3] (λμ F' h'=>∃i:Nat,∃v:Bool,(i<=s.fs.l.length/\((((O2 s.names.l 1 1 Go.Lx.name&&decide ((s.fs.l.length:Int)<=8))&&((s.bl.length:Int)==1))&&s.fs.l.all foP)=(v&&(s.fs.l.drop i).all foP)))/\s.fs.l.length-i=μ/\F'=[(4,.bool v),(5,.int .i64 i)]/\spX b3 (.mk 0 s.ty s.names s.e s.cs s.vs s.fs s.ba s.bc s.bl)::spX b1 s::h=h') (s.fs.l.length-0) [(4,.bool (((O2 s.names.l 1 1 Go.Lx.name&&decide ((s.fs.l.length:Int)<=8))&&((s.bl.length:Int)==1)))),(5,.int .i64 0)] (spX b3 (.mk 0 s.ty s.names s.e s.cs s.vs s.fs s.ba s.bc s.bl)::spX b1 s::h) ⟨0,((O2 s.names.l 1 1 Go.Lx.name&&decide ((s.fs.l.length:Int)<=8))&&((s.bl.length:Int)==1)),⟨by omega,rfl⟩,rfl,rfl,rfl⟩ ?_;rintro _ _ _ ⟨i,v,⟨hi,hJ⟩,rfl,rfl,rfl⟩;refine A9 rfl ?_;refine Z5 ?_
 refine wD ?_ ?_<;>intro c93
 obtain⟨x,hx⟩:=A8 (l:=s.fs.l) (k:=i) (by omega);have hxw:=hO.fw x (qe hx);refine ZZ [0,5] ?_;refine C2 (GU.t rfl rfl) (λhc=>D7 b3l.und b3l.size b3l.posz (Eg hc) (Eg hc) Rr rfl (by omega)) Lb ?_;refine zG (λhc=>a2q b9m rfl rfl a4F Rr (Eg hc) (by assumption) rfl rfl (qu _)) ?_;refine A3 (GU.t rfl rfl) (λhc=>⟨Ef,(E1 (Eg hc)),c1j x hxw⟩) Lb ?_;refine ZZ [2,3] ?_;exact WL.nil (lN (s.fs.l.length-(i+1)) [(4,.bool ((v&&foP x))),(5,.int .i64 (i+1))] (spX b3 (.mk 0 s.ty s.names s.e s.cs s.vs s.fs s.ba s.bc s.bl)::spX b1 s::h) ⟨i+1,(v&&foP x),⟨by omega,by rw[hJ,c8h hx,Bool.and_assoc]⟩,rfl,rfl,rfl⟩);rw[qb (by omega),List.all_nil,za]at hJ;refine ZZ [0,2,2] ?_
 exact WL.nil (mN [(4,.bool v)] (spX b3 (.mk 0 (Sp.mk 0 s.ty A2 s.e s.cs s.vs A2 none 0 []).ty s.names (Sp.mk 0 s.ty A2 s.e s.cs s.vs A2 none 0 []).e (Sp.mk 0 s.ty A2 s.e s.cs s.vs A2 none 0 []).cs (Sp.mk 0 s.ty A2 s.e s.cs s.vs A2 none 0 []).vs (Sp.mk 0 s.ty A2 s.e s.cs s.vs A2 none 0 []).fs (Sp.mk 0 s.ty A2 s.e s.cs s.vs A2 none 0 []).ba (Sp.mk 0 s.ty A2 s.e s.cs s.vs A2 none 0 []).bc (Sp.mk 0 s.ty A2 s.e s.cs s.vs A2 none 0 []).bl)::spX b1 s::h) ⟨v,Sp.mk 0 s.ty A2 s.e s.cs s.vs A2 none 0 [],⟨a98 hzk ⟨hO.ty,hO.e,hO.v,hO.vw,Rd.nilF foE 6 m h,a4K⟩ (Rd.nilF encB 1 m h) a4K (Rd.nilF prE 42 m h) (λ_ hx=>(qn hx).elim),by rw[d0f c72,hJ];rfl⟩,rfl,rfl⟩)
 exact WC.skip (mN [(4,.bool false)] (spX b3 (.mk 0 (Sp.mk 0 s.ty A2 s.e s.cs s.vs s.fs s.ba s.bc s.bl).ty s.names (Sp.mk 0 s.ty A2 s.e s.cs s.vs s.fs s.ba s.bc s.bl).e (Sp.mk 0 s.ty A2 s.e s.cs s.vs s.fs s.ba s.bc s.bl).cs (Sp.mk 0 s.ty A2 s.e s.cs s.vs s.fs s.ba s.bc s.bl).vs (Sp.mk 0 s.ty A2 s.e s.cs s.vs s.fs s.ba s.bc s.bl).fs (Sp.mk 0 s.ty A2 s.e s.cs s.vs s.fs s.ba s.bc s.bl).ba (Sp.mk 0 s.ty A2 s.e s.cs s.vs s.fs s.ba s.bc s.bl).bc (Sp.mk 0 s.ty A2 s.e s.cs s.vs s.fs s.ba s.bc s.bl).bl)::spX b1 s::h) ⟨false,Sp.mk 0 s.ty A2 s.e s.cs s.vs s.fs s.ba s.bc s.bl,⟨a98 hzk ⟨hO.ty,hO.e,hO.v,hO.vw,hO.fr,hO.fw⟩ (Rd.nilF encB 1 m h) a4K hO.b hS.b,c9l c10 c22 c41 c60 c72 _⟩,rfl,rfl⟩);rintro _ _ ⟨fb,xs,hfb,rfl,rfl⟩;refine A9 rfl ?_;refine ZZ [2,2] ?_;refine zG (λ_=>pA a4R) ?_;refine zG (λ_=>PO.build a4R rfl rfl rfl EvP.nil rfl) ?_
 refine A3 (GU.t rfl rfl) (λhc=>⟨Ef,(E2 (Eg hc) (Eg hc)),a7m (.mk 0 xs.ty A2 xs.e xs.cs xs.vs xs.fs xs.ba xs.bc xs.bl) (λz hz y h m p1 p2=>a9v z y h m p1 p2) B4 _ _ (hfb.1.mono Sb) ((c8X m h).mono Sb)⟩) Lb ?_;refine Z2 ?_;refine wT h ?_;exact⟨by rw[hfb.2],rfl⟩
theorem c4a{m:View}{h:Lr}{nm:B}{ch:Ex}{tg ex:Sli Ex}{pn:Sli Int}{sp:Sp}(hn:nm.length<=Big)(hc:EOk m h ch)(ht:LOk m h tg)(he:LOk m h ex)(hpn:Rd m h pn.a pn.l.length pn.c 1 (fl a1x pn.l))(hpw:∀x∈pn.l,-9223372036854775808<=x/\x<=9223372036854775807)(hs:SK m h sp) :
 POk m h (d0w nm ch tg ex pn sp):=
 .mk ⟨by show 0<=(0:Int)/\(0:Int)<=255;decide,hn,hc,ht,he,qi _,b1g m h,b1g m h,Rd.nilF guE 23 m h,λ_ hx=>(qn hx).elim,Rd.nilF prE 42 m h,hpn,hpw,hs.o⟩ λx hx=>by cases hx with
  |l q=>exact(qn q).elim
  |s q=>exact hs.b x q
  |g q _=>exact(qn q).elim
theorem c7j(m:View)(h:Lr):POk m h b2U:=c4a (by decide) (b1g m h) (c7c m h) (c7c m h) (Rd.nilF a1x 1 m h) a4K (c8X m h)
end
section
open Go.Eng Go.Pc Go.Sx Go
open Go.Xp hiding B E8
open Go.Ty (Ty Vr Tok eqT tyV E9 B1 A7 I6 zeroK H3 E5 encV D8 VOk PrOk)
open Go.Lx (encB C0 textO)
open Go.Ly (Rw K7 C6 eqR b3g b2W b3j)
theorem pt0:a6z [120,44,32,121,32,58,61,32,49,44,32,118,91,105,93]=true:=by decide +kernel
theorem pm0:a4r [120,44,32,121,32,58,61,32,49,44,32,118,91,105,93] 3=true:=by decide +kernel
theorem pt1:a6z [73,78,84,32,120,58,47,83,69,81,32,105,32,61,32,48,32,70,79,82,32,52,47,46,99,32,33,32,120]=true:=by decide +kernel
theorem pm1:a4r [73,78,84,32,120,58,47,83,69,81,32,105,32,61,32,48,32,70,79,82,32,52,47,46,99,32,33,32,120] 18=true:=by decide +kernel
theorem pt2:a6z [65,76,84,47,46,110,32,62,32,48,32,38,32,99,32,63,32,120,47,46,46,83,75,73,80,47,46,116,32,63,32,65,70,84,69,82,32,110,47,46,46,83,84,79,80]=true:=by decide +kernel
theorem pm2:a4r [65,76,84,47,46,110,32,62,32,48,32,38,32,99,32,63,32,120,47,46,46,83,75,73,80,47,46,116,32,63,32,65,70,84,69,82,32,110,47,46,46,83,84,79,80] 12=true:=by decide +kernel
theorem pt3:a6z [80,82,79,84,79,67,79,76,32,112,47,46,67,65,83,69,47,46,46,112,117,116,59,32,73,78,84,47,46,46,101,110,100,47,58,47,83,75,73,80]=true:=by decide +kernel
theorem pm3:a4r [80,82,79,84,79,67,79,76,32,112,47,46,67,65,83,69,47,46,46,112,117,116,59,32,73,78,84,47,46,46,101,110,100,47,58,47,83,75,73,80] 18=true:=by decide +kernel
theorem pt4:a6z [87,72,73,76,69,32,84,82,85,69,47,46,83,75,73,80]=true:=by decide +kernel
theorem pm4:a4r [87,72,73,76,69,32,84,82,85,69,47,46,83,75,73,80] 16=true:=by decide +kernel
theorem ft0:a6z [83,69,81,47,46,120,32,58,61,32,49,47,46,46,83,75,73,80]=true:=by decide +kernel
theorem fm0:a3z [83,69,81,47,46,120,32,58,61,32,49,47,46,46,83,75,73,80] 2 110=true:=by decide +kernel
theorem ft1:a6z [83,69,81,32,105,32,61,32,48,32,70,79,82,32,51,47,46,83,75,73,80,47,46,83,75,73,80]=true:=by decide +kernel
theorem fm1:a3z [83,69,81,32,105,32,61,32,48,32,70,79,82,32,51,47,46,83,75,73,80,47,46,83,75,73,80] 2 110=true:=by decide +kernel
theorem ft2:a6z [83,75,73,80,47,83,75,73,80]=true:=by decide +kernel
theorem fm2:a3z [83,75,73,80,47,83,75,73,80] 1 110=true:=by decide +kernel
theorem ft3:a6z [40,120,41,32,58,61,32,49]=true:=by decide +kernel
theorem fm3:a3z [40,120,41,32,58,61,32,49] 0 110=true:=by decide +kernel
theorem ft4:a6z [120,32,58,61,32,49,32,43,32,50,32,43,32,51]=true:=by decide +kernel
theorem fm4:a3z [120,32,58,61,32,49,32,43,32,50,32,43,32,51] 0 110=true:=by decide +kernel
theorem ft5:a6z [83,69,81,47,46,120,32,58,61,32,36]=true:=by decide +kernel
theorem fm5:a3z [83,69,81,47,46,120,32,58,61,32,36] 1 80=true:=by decide +kernel
theorem ft6:a6z [73,78,84,32,120,58]=true:=by decide +kernel
theorem fm6:a3z [73,78,84,32,120,58] 1 110=true:=by decide +kernel
theorem ft7:a6z [80,82,73,32,80,65,82,47,46,83,75,73,80]=true:=by decide +kernel
theorem fm7:a3z [80,82,73,32,80,65,82,47,46,83,75,73,80] 2 110=true:=by decide +kernel
theorem a1P{m:View}(hg:Glob m)(s:B)(n e:Int)(hT:TxtOk s)(hM:a3z s n e=true)(h:Lr) :
 CT prog 20 [str s,.int .i64 n,.int .i64 e] h m (A5 h (.bool true)):=by
 unfold a3z at hM;simp only[qa,qU]at hM;obtain⟨⟨hM1,hM2⟩,hM3⟩:=hM;refine cB [0,1,2,6,7,8,9] func20 λ_=>?_;refine ZZ [1,1] ?_;refine xJ (E1 Et) (b2q hg s hT.n hT.l hT.p _) λa12 c12=>?_
 refine xg (E1 Et) (a7Q hg _ _ (a0N s) _ hT.t) ?_;rintro _ _ ⟨x,hh,rfl,hst,hok,rfl⟩;rw[hM2,hM3];have hsx:K4 x b2U=true:=by rw[<-a8L,hst];exact hM1
 refine kA4 ?_;refine xW λb7=>?_;refine ZZ [3,2] ?_;refine xf (E2 Et Et) ((a9v x b2U _ _ (hok.mono Sb) (c7j m _)).val (congrArg Value.bool hsx)) ?_;refine kA1 ?_;refine zU ?_;refine kA1 ?_;refine zU ?_;refine kA1 ?_;refine zU ?_;refine kA1 ?_;refine wV (b':=true) (by simp) ?_;refine kA2 ?_;refine zU ?_;refine kA1 ?_;refine zU ?_;refine kA1 ?_;refine zU ?_;refine kA1 ?_;refine wV (b':=true) (by simp) ?_;refine Z2 ?_;refine wT h ?_;exact⟨rfl,rfl⟩
def skP:Pr:=.mk 1 [] A0 A2 A2 b2o none 0 [] none 0 [] A2 B4
def unP(k:Int)(b:Nat):Pr:=.mk k [] A0 A2 A2 b2o none 0 [] (some ⟨b,0,none⟩) 1 [skP] A2 B4
theorem c6O(m:View)(h:Lr):POk m h skP:=a9X m h (k:=1) (by decide)
theorem c1y{m:View}{h:Lr}{k:Int}{b:Nat}(hk:0<=k/\k<=255)(hb:Res.pt b (.cells (prE skP).toArray 46 (0,0))∈h):POk m h (unP k b):=
 a1g hk (qi _) (B6 _ _) (B9 _ _) (B9 _ _) (P0 _ _) (T8 _ _) ⟨Rd.ofPt rfl (show 1<=9223372036854775807 by decide) hb,λx hx=>by rw[qy]at hx;subst hx;exact c6O m h⟩ (P5 _ _) (K6 _ _)
theorem c8z(b:Nat):mayP (unP 10 b)=false:=by kernel_rfl
theorem c8a:mayP skP=true:=by kernel_rfl
theorem c7S(b:Nat):W64 (W9 (unP 16 b))=2:=by kernel_rfl
theorem d0u:(S3 []).2=(0,110):=by kernel_rfl
theorem c1k{m:View}(hg:Glob m)(hp:Pow m)(h:Lr):CT prog 8 [] h m (A5 h (.bool true)):=by
 refine cB [0,1,2,4,5,6] func8 λ_=>?_;refine Z1 ?_;refine xf (E2 Ek Ek) (a4e hg hp _ _ (a1t pt0) pm0 _) ?_;refine kA1 ?_;refine zU ?_;refine xf (E2 Ek Ek) (a4e hg hp _ _ (a1t pt1) pm1 _) ?_;refine kA2 ?_;refine zU ?_;refine xf (E2 Ek Ek) (a4e hg hp _ _ (a1t pt2) pm2 _) ?_;refine kA2 ?_;refine zU ?_;refine xf (E2 Ek Ek) (a4e hg hp _ _ (a1t pt3) pm3 _) ?_;refine kA2 ?_;refine zU ?_;refine xf (E2 Ek Ek) (a4e hg hp _ _ (a1t pt4) pm4 _) ?_;refine Z2 ?_;refine xf (E3 Ek Ek Ek) (a1P hg _ _ _ (a1t ft0) fm0 _) ?_;refine kA1 ?_;refine zU ?_;refine xf (E3 Ek Ek Ek) (a1P hg _ _ _ (a1t ft1) fm1 _) ?_;refine kA2 ?_;refine zU ?_;refine xf (E3 Ek Ek Ek) (a1P hg _ _ _ (a1t ft2) fm2 _) ?_;refine kA2 ?_;refine zU ?_;refine xf (E3 Ek Ek Ek) (a1P hg _ _ _ (a1t ft3) fm3 _) ?_;refine kA2 ?_;refine zU ?_;refine xf (E3 Ek Ek Ek) (a1P hg _ _ _ (a1t ft4) fm4 _) ?_;refine kA2 ?_;refine zU ?_;refine xf (E3 Ek Ek Ek) (a1P hg _ _ _ (a1t ft5) fm5 _) ?_
 refine kA2 ?_;refine zU ?_;refine xf (E3 Ek Ek Ek) (a1P hg _ _ _ (a1t ft6) fm6 _) ?_;refine kA2 ?_;refine zU ?_;refine xf (E3 Ek Ek Ek) (a1P hg _ _ _ (a1t ft7) fm7 _) ?_;refine Z2 ?_;refine xg (E1 Ek) (b4V hg none 0 [] _ (Rd.nilF K7 3 m []) nofun) ?_;rintro _ _ ⟨x,hh,rfl,hst,hok,rfl⟩;rw[d0u];refine kA4 ?_;refine xW λb3=>?_;refine ZZ [3,1] ?_;refine xW λb6=>?_
 refine ZZ [1,2] ?_;refine zU ?_;refine kA3 ?_;refine zU ?_;refine kA1 ?_;refine zU ?_;refine kA3 ?_;refine zU ?_;refine kA1 ?_;refine zU ?_;refine kA3 ?_;refine zU ?_;refine kA1 ?_;refine zU ?_;refine xY U0 Eb λb62=>?_;refine zU ?_;refine kA1 ?_;refine zU ?_;refine xf (E1 Et) ((b2F hg (unP 10 b62) (c1y (by decide) Me)).val (congrArg Value.bool (c8z _))) ?_;refine zU ?_;refine kA3 ?_;refine zU ?_;refine kA1 ?_;refine zU ?_;refine xf (E1 Et) ((b2F hg skP (c6O m _)).val (congrArg Value.bool c8a)) ?_;refine kA2 ?_;refine zU ?_;refine kA1 ?_;refine zU ?_;refine xY U0 Eb λb73=>?_
 refine zU ?_;refine kA1 ?_;refine zU ?_;refine xf (E1 Et) ((c6k (unP 16 b73) _ m (c1y (by decide) Me)).val (congrArg (Value.int .i64) (c7S _))) ?_;refine zU ?_;refine Z3 ?_;refine wT h ?_;exact⟨rfl,rfl⟩
end
section
open Go.Eng Go.Pc Go
open Go.Xp hiding B E8
open Go.Ty (Ty Vr eqT tyV E9 PrOk VOk encV D8 H3 E5 eqI a3a a2S)
open Go.Lx (encB C0)
theorem a0u{α:Type}{q:α->α->Bool}:∀l r:List α,(∀x∈l,∀y,q x y=q y x)->eqL q l r=eqL q r l
 | [],[],_=>rfl
 | [],_::_,_=>rfl
 |_::_,[],_=>rfl
 |a::r,b::s,h=>by show(q a b&&eqL q r s)=(q b a&&eqL q s r);rw[h a (zx ..) b,a0u r s (λx hx=>h x (qt _ hx))]
theorem a02(a b:Ex):F5 a b=F5 b a:=by rw[qH,a01,a01];exact eq_comm
theorem Q6{α:Type}[BEq α][LawfulBEq α](a b:α):(a==b)=(b==a):=by rw[qH,qU,qU];exact eq_comm
theorem b3Y(a b:Ty):eqT a b=eqT b a:=by rw[qH,Go.Ty.eqT_iff,Go.Ty.eqT_iff];exact eq_comm
theorem b9g(a b:Fo):a0h a b=a0h b a:=by unfold a0h;rw[Q6 a.val,b3Y a.ty,Q6 a.name]
theorem b56(a b:Vr):N7 a b=N7 b a:=by unfold N7;rw[Q6 a.tag,Q6 a.items]
theorem a3f(l r:List Ex):eqL F5 l r=eqL F5 r l:=a0u l r λx _ y=>a02 x y
theorem b0A(p:Pr):∀q,K4 p q=K4 q p:=by
 refine Pr.ind (q:=λp=>∀q,K4 p q=K4 q p) (λp ih q=>?_) p;have hs:a0s p.sp q.sp=a0s q.sp p.sp:=by rw[a3Q,a3Q,Q6 p.sp.k,b3Y p.sp.ty,a0u p.sp.fs.l _ λx _ y=>b9g x y,a0u p.sp.names.l _ λx _ y=>Q6 x y,a02 p.sp.e,a0u p.sp.bl _ λx hx y=>ih x (.s hx) y];unfold a1u;rw[Q6 p.sp.cs,a0u p.sp.vs.l _ λx _ y=>b56 x y]
 have hg:eqL a0t p.gl q.gl=eqL a0t q.gl p.gl:=a0u p.gl _ λx hx y=>by
  rw[a7q,a7q,Q6 x.k,Q6 x.name,a02 x.cond,a02 x.ch,a02 x.time,a3f x.tg.l,a3f x.vl.l,a0u x.bl _ λz hz w=>ih z (.g hx hz) w]
 rw[a6S p q,a6S q p,hs,hg,a0u p.pn.l _ λx _ y=>Q6 x y,Q6 p.k,Q6 p.name,a02 p.ch,a3f p.tg.l,a3f p.ex.l,a0u p.ll _ λx hx y=>ih x (.l hx) y];unfold a4O;rw[Q6 p.rep.name,a02 p.rep.base,a02 p.rep.count]
theorem X1{α:Type}{q:α->α->Bool}:∀l:List α,(∀x∈l,q x x=true)->eqL q l l=true
 | [],_=>rfl
 |x::r,h=>by show(q x x&&eqL q r r)=true;rw[h x (zx ..),X1 r (λy hy=>h y (qt _ hy))];rfl
theorem Y7(e:Ex):F5 e e=true:=(a01 e e).2 rfl
theorem a3o(l:List Ex):eqL F5 l l=true:=X1 l λx _=>Y7 x
theorem b6T(p:Pr):K4 p p=true:=by
 refine Pr.ind (q:=λp=>K4 p p=true) (λp ih=>?_) p;have hs:a0s p.sp p.sp=true:=by rw[a3Q,(Go.Ty.eqT_iff _ _).2 rfl,X1 p.sp.fs.l λx _=>by unfold a0h;simp[(Go.Ty.eqT_iff _ _).2 rfl],X1 p.sp.names.l λx _=>by simp,Y7,X1 p.sp.bl λx hx=>ih x (.s hx)];unfold a1u;rw[X1 p.sp.vs.l λx _=>by unfold N7;simp];simp
 have hg:eqL a0t p.gl p.gl=true:=X1 p.gl λx hx=>by
  rw[a7q,Y7,Y7,Y7,a3o,a3o,X1 x.bl λz hz=>ih z (.g hx hz)];simp
 rw[a6S,hs,hg,X1 p.pn.l λx _=>by simp,Y7,a3o,a3o,X1 p.ll λx hx=>ih x (.l hx)];unfold a4O;rw[Y7,Y7];simp
end
end Go.Proofs.YtgcjpahhljmlmaaGreatDoor
namespace Go.Proofs.YtgcjpahhljmlmaaGreatDoor.Ly7
open Go.Proofs.Tryz
section
open Go.Eng Go.Ly Go
theorem a7k(c d:UInt8):((c.toNat:Int)==(d.toNat:Int))=(c==d):=by
 rw[qH];simp only[qU];constructor
 ·intro h
  apply UInt8.toNat_inj.1;exact_mod_cast h
 ·rintro rfl
  rfl
theorem b2T(c:UInt8):((c.toNat:Int)==45)=(c==45):=a7k c 45
theorem b3p(c:UInt8):((c.toNat:Int)==32)=(c==32):=a7k c 32
theorem c4K(c:UInt8):(decide ((c.toNat:Int)<32)||decide ((c.toNat:Int)>126))=!okB c:=by
 unfold okB;by_cases h1:(c.toNat:Int)<32
 ·simp[h1]
 ·by_cases h2:(c.toNat:Int)>126
  ·simp[h2]
  ·simp[h1,h2]
   omega
theorem c1W{s:B}{k:Nat}{c:UInt8}(hc:s[k]?=some c)(hk:s.all okB=(s.drop k).all okB):s.all okB=(okB c&&(s.drop (k+1)).all okB):=by rw[hk,P9 hc];rfl
theorem a9i(s:B)(h:Lr)(m:View)(hs:s.length<=140737488355328):CT prog 51 [str s] h m (A5 h (.bool (s.all okB))):=by
 have hd:∀k,k<s.length->s[k]?=some (s.getD k 0):=λk hi=>by rw[ql,qk hi];rfl
 refine cB [0,2,3,7,19] func51 λ_=>?_;refine ZZ [1,1,0] ?_;refine lI [0] (λμ F' h'=>∃k:Nat,(k<=s.length/\s.all okB=(s.drop k).all okB)/\s.length-k=μ/\F'=[(3,.int .i64 k)]/\h=h') (s.length-0) [(3,.int .i64 0)] h ⟨0,⟨by omega,rfl⟩,rfl,rfl,rfl⟩ ?_;rintro _ _ _ ⟨k,⟨hk,hJ⟩,rfl,rfl,rfl⟩;refine A9 rfl ?_;refine kA2 ?_;refine xG (G0 uu9 Et) ?_;refine y4 ?_ ?_<;>intro c7
 obtain⟨c,hc⟩:=A8 (l:=s) (k:=k) (by omega);have hJ:=c1W hc hJ;have hn:=c4K c;refine ZZ [0,2] ?_;refine xG (F3 uu9 Et Et rfl (by assumption)) ?_;refine kA4 ?_;refine zG (λhc=>F3 uu9 (Eg hc) (Eg hc) rfl (by assumption)) ?_;refine y2 ?_ ?_<;>intro c19
 replace hn:=hn.symm.trans c19;refine Z1 ?_;refine wT h ?_;exact⟨by rw[hJ,show okB c=false by simpa using hn];rfl,rfl⟩;replace hn:=hn.symm.trans c19;refine ZZ [0,3] ?_;exact WL.nil (lN (s.length-(k+1)) [(3,.int .i64 (k+1))] h ⟨k+1,⟨by omega,by rw[hJ,show okB c=true by simpa using hn];rfl⟩,rfl,rfl,rfl⟩);refine ZZ [0,1,0] ?_;refine wT h ?_;exact⟨by rw[hJ,qb (by omega)];rfl,rfl⟩
theorem b9t{s:B}(h0:s≠[]):a8y s=b1s.contains (s.getD (s.length-1) 0):=by unfold a8y;rw[List.getLast?_eq_getElem?,ql,qk (by have:=zR.2 h0;omega)];rfl
theorem c2T(s:B)(h:Lr)(m:View)(hs:s.length<=140737488355328):CT prog 50 [str s] h m (A5 h (.bool (a8y s))):=by
 have hd:∀k,k<s.length->s[k]?=some (s.getD k 0):=λk hi=>by rw[ql,qk hi];rfl
 refine cB [0,2,3,6,8,18] func50 λ_=>?_;refine ZZ [1,1] ?_;refine xG (G0 uu9 Et) ?_;refine Z1 ?_;refine wE ?_ ?_<;>intro c6
 refine Z1 ?_;refine wT h ?_;exact⟨by rw[qB (l:=s) (by omega)];rfl,rfl⟩;have h0:s≠[]:=λe=>c6 (by rw[e];rfl)
 have hp:0<s.length:=zR.2 h0;have hc:=b9t h0;refine ZZ [0,1,0] ?_;refine lI [0] (λμ F' h'=>∃k:Nat,(k<=14/\a8y s=(b1s.drop k).contains (s.getD (s.length-1) 0))/\14-k=μ/\F'=[(3,.int .i64 k)]/\h=h') (14-0) [(3,.int .i64 0)] h ⟨0,⟨by omega,hc⟩,rfl,rfl,rfl⟩ ?_;rintro _ _ _ ⟨k,⟨hk,hJ⟩,rfl,rfl,rfl⟩;refine A9 rfl ?_;refine Z2 ?_;refine wD ?_ ?_<;>intro c8
 obtain⟨c,hcc⟩:=A8 (l:=b1s) (k:=k) (by show k<14;omega);rw[P9 hcc,List.contains_cons]at hJ;refine Z0 ?_;refine dS [] (.op 0 (.op 1 (.op 2 (.op 3 (.op 4 (.op 5 (.op 6 .nil))))))) [7] C9 ?_;refine kA2 ?_;refine yG rfl (G0 uu9 Et) ?_;refine yG rfl (P3 Et Ek (by omega)) ?_;refine yG rfl (F3 uu9 Et Et (q:=s.length-1) (by omega) (hd _ (by omega))) ?_;refine kA1 ?_;refine yG rfl (F3 uu9 Ek Et rfl hcc) ?_;refine nS ?_;refine y1 ?_ ?_<;>intro c18
 rw[a7k]at c18;refine Z1 ?_;refine wT h ?_;exact⟨by rw[hJ,c18];rfl,rfl⟩;rw[a7k]at c18;refine ZZ [0,3] ?_;exact WL.nil (lN (14-(k+1)) [(3,.int .i64 (k+1))] h ⟨k+1,⟨by omega,by rw[hJ,c18];rfl⟩,rfl,rfl,rfl⟩);have e:k=14:=by omega
 subst e;refine ZZ [0,1,0] ?_;refine wT h ?_;exact⟨by rw[hJ];rfl,rfl⟩
theorem c3q(s:B)(h:Lr)(m:View)(hs:s.length<=140737488355328):CT prog 28 [str s] h m (A5 h (.bool (validP s))):=by
 have hd:∀k,k<s.length->s[k]?=some (s.getD k 0):=λk hi=>by rw[ql,qk hi];rfl
 rw[<-c5D];refine cB [0,2,3,28,33,46] func28 λ_=>?_;refine ZZ [1,1] ?_;refine xG (G0 uu9 Et) ?_;refine kA3 ?_;refine zG (λhc=>G0 uu9 (Eg hc)) ?_;refine kA4 ?_;refine C2 (GU.f rfl rfl) (λhc=>F3 uu9 (Eg hc) Ek (q:=0) rfl (hd 0 (by simp at hc;omega))) Lb ?_;refine kA5 ?_;refine zG (λhc=>G0 uu9 (Eg hc)) ?_;refine C2 (GU.f rfl rfl) (λhc=>P3 (Eg hc) Ek (by first|omega|(simp at hc;omega))) Lb ?_;refine C2 (GU.f rfl rfl) (λhc=>F3 uu9 (Eg hc) (Eg hc) (q:=s.length-1) (by simp at hc;omega) (hd (s.length-1) (by simp at hc;omega))) Lb ?_;refine kA4 ?_;refine A3 (GU.f rfl rfl) (λhc=>⟨Ef,(E1 (Eg hc)),c2T _ _ _ (by omega)⟩) Lb ?_;refine y1 ?_ ?_<;>intro c28
 have hb:a8U s=true:=by unfold a8U;rw[<-b3p,<-b3p];exact c28
 refine Z1 ?_;refine wT h ?_;exact⟨by unfold b1t;rw[hb];rfl,rfl⟩;have hb:a8U s=false:=by unfold a8U;rw[<-b3p,<-b3p];exact c28
 refine ZZ [0,1,0] ?_;refine lI [0] (λμ F' h'=>∃k:Nat,(k<=s.length/\a9h s=a9h (s.drop k))/\s.length-k=μ/\F'=[(3,.int .i64 k)]/\h=h') (s.length-0) [(3,.int .i64 0)] h ⟨0,⟨by omega,rfl⟩,rfl,rfl,rfl⟩ ?_;rintro _ _ _ ⟨k,⟨hk,hJ⟩,rfl,rfl,rfl⟩;refine A9 rfl ?_;refine kA3 ?_;refine xG (G0 uu9 Et) ?_;refine y4 ?_ ?_<;>intro c33
 obtain⟨c,hc⟩:=A8 (l:=s) (k:=k) (by omega);obtain⟨d,hdd⟩:=A8 (l:=s) (k:=k+1) (by omega);rw[c4g hc hdd]at hJ;refine ZZ [0,2] ?_;refine xG (F3 uu9 Et Et rfl (by assumption)) ?_;refine kA4 ?_;refine C2 (GU.t rfl rfl) (λhc=>K3 (Eg hc) Ek (by first|omega|(simp at hc;omega))) Lb ?_;refine zG (λhc=>F3 uu9 (Eg hc) (Eg hc) rfl hdd) ?_;refine y2 ?_ ?_<;>intro c46
 have hcd:(c==45&&d==45)=true:=by rw[<-b2T,<-b2T];exact c46
 refine Z1 ?_;refine wT h ?_;exact⟨by unfold b1t;rw[hJ,hcd];simp,rfl⟩;have hcd:(c==45&&d==45)=false:=by rw[<-b2T,<-b2T];exact c46
 refine ZZ [0,3] ?_;exact WL.nil (lN (s.length-(k+1)) [(3,.int .i64 (k+1))] h ⟨k+1,⟨by omega,by rw[hJ,hcd];rfl⟩,rfl,rfl,rfl⟩);rw[c3v (by omega)]at hJ;refine ZZ [0,1] ?_;refine xf (E1 Et) (a9i _ _ _ (by omega)) ?_;refine Z1 ?_;refine wT h ?_;exact⟨by unfold b1t;rw[hb,hJ];rfl,rfl⟩
theorem mayR_ct(a:Oa)(n c:Nat)(l:List Rw)(h:Lr)(m:View)(hr:Rd m h a n c 3 (fl K7 l))(hs:∀x∈l,x.text.length<=140737488355328):CT prog 11 [.slice a n c] h m (A5 h (.bool (mayP l))):=by
 have hl:=hr.lenF C6 (by decide);have hmx:=hr.mx;have hle:=hr.le;subst hl;refine cB [0,2,3,4,5,6,9,13,80] func11 λ_=>?_;refine ZZ [1,3,0] ?_;refine wD ?_ ?_<;>intro c9
 refine Z1 ?_;refine wT h ?_;exact⟨by unfold mayP;rw[if_pos c9],rfl⟩;have hm:mayP l=b0X 0 (-1) 0 l:=by unfold mayP;rw[if_neg c9]
 refine ZZ [0,1,1,0] ?_;refine lI [0] (λμ F' h'=>∃k:Nat,∃no:Int,∃dp:Int,∃size:Int,((k<=l.length/\(-1<=dp/\dp<=32)/\(0<=no/\no<=65536)/\(0<=size/\size<=k*321)/\((k=0/\no=0/\dp=-1)\/∃y,0<k/\l[k-1]?=some y/\y.no=no/\y.depth=dp))/\mayP l=b0X no dp size (l.drop k))/\l.length-k=μ/\F'=[(3,.int .i64 size),(4,.int .i64 k)]/\h=h') (l.length-0) [(3,.int .i64 0),(4,.int .i64 0)] h ⟨0,0,-1,0,⟨⟨by omega,by omega,by omega,by omega,.inl ⟨rfl,rfl,rfl⟩⟩,hm⟩,rfl,rfl,rfl⟩ ?_;rintro _ _ _ ⟨k,no,dp,size,⟨⟨hk,hdp,hno,hsz,hpr⟩,hJ⟩,rfl,rfl,rfl⟩;refine A9 rfl ?_;refine Z4 ?_;refine wD ?_ ?_<;>intro c13
 obtain⟨x,hx⟩:=A8 (l:=l) (k:=k) (by omega);have hxs:=hs x (qe hx);rw[b21 hx]at hJ;refine ZZ [0,1,1,0] ?_;refine kP2 [0,3,4,5,6,17] ?_;refine D6 KKh [0,3,4] rfl (λF' h'=>∃u:Int,∃w:Int,(u=no+1/\w=dp+1)/\F'=[(5,.int .i64 u),(6,.int .i64 w)]/\h=h') ?_ ?_;refine jE ?_;refine wD ?_ ?_<;>intro c17
 obtain⟨y,hy0,hy,hyn,hyd⟩:=hpr.resolve_left (λq=>by omega);refine kA2 ?_;refine xG (P3 Et Ek (by omega)) ?_;refine WL.val (v':=.int .i64 ((k-1:Nat):Int)) (congrArg (Value.int .i64) (by omega)) ?_;refine ZZ [5,2] ?_;refine xG (P3 Et Ek (by omega)) ?_;refine WL.val (v':=.int .i64 ((k-1:Nat):Int)) (congrArg (Value.int .i64) (by omega)) ?_;refine kA5 ?_;exact WL.nil (mN [(5,.int .i64 (y.no+1)),(6,.int .i64 (y.depth+1))] h ⟨y.no+1,y.depth+1,⟨by omega,by omega⟩,rfl,rfl⟩);obtain⟨hk0,hn0,hd0⟩:k=0/\no=0/\dp=-1:=hpr.resolve_right (λ⟨y,q,_⟩=>by omega);exact WC.skip (mN [(5,.int .i64 1),(6,.int .i64 0)] h ⟨1,0,⟨by omega,by omega⟩,rfl,rfl⟩);rintro _ _ ⟨u,w,⟨rfl,rfl⟩,rfl,rfl⟩;refine A9 rfl ?_;refine b8A ?_;refine C2 (GU.f rfl rfl) (λhc=>D7 V1.und V1.size V1.posz (Eg hc) (Eg hc) Rr rfl (by omega)) Lb ?_
 refine zG (λhc=>D0 a8Y rfl (qf rfl) C6 (qu _) Rr (by assumption) (Eg hc)) ?_;refine zG (λhc=>D2 uu3 rfl C6 Rr (Eg hc) (by assumption) rfl) ?_;refine kA5 ?_;refine C2 (GU.f rfl rfl) (λhc=>D7 V1.und V1.size V1.posz (Eg hc) (Eg hc) Rr rfl (by omega)) Lb ?_;refine zG (λhc=>D0 a8Y rfl (qf rfl) C6 (qu _) Rr (by assumption) (Eg hc)) ?_;refine zG (λhc=>D2 uu3 rfl C6 Rr (Eg hc) (by assumption) rfl) ?_;refine kA5 ?_;refine C2 (GU.f rfl rfl) (λhc=>D7 V1.und V1.size V1.posz (Eg hc) (Eg hc) Rr rfl (by omega)) Lb ?_;refine zG (λhc=>D0 a8Y rfl (qf rfl) C6 (qu _) Rr (by assumption) (Eg hc)) ?_;refine zG (λhc=>D2 uu3 rfl C6 Rr (Eg hc) (by assumption) rfl) ?_;refine kA6 ?_;refine C2 (GU.f rfl rfl) (λhc=>D7 V1.und V1.size V1.posz (Eg hc) (Eg hc) Rr rfl (by omega)) Lb ?_
 refine zG (λhc=>D0 a8Y rfl (qf rfl) C6 (qu _) Rr (by assumption) (Eg hc)) ?_;refine zG (λhc=>D2 uu3 rfl C6 Rr (Eg hc) (by assumption) rfl) ?_;refine kA5 ?_;refine C2 (GU.f rfl rfl) (λhc=>D7 V1.und V1.size V1.posz (Eg hc) (Eg hc) Rr rfl (by omega)) Lb ?_;refine zG (λhc=>D0 a8Y rfl (qf rfl) C6 (qu _) Rr (by assumption) (Eg hc)) ?_;refine zG (λhc=>D2 uu9 rfl C6 Rr (Eg hc) (by assumption) rfl) ?_;refine A3 (GU.f rfl rfl) (λhc=>⟨Ef,(E1 (Eg hc)),c3q _ _ _ (by omega)⟩) Lb ?_;refine y2 ?_ ?_<;>intro c80
 have hb:b0S no dp x=true:=by rw[<-b3W];exact c80
 rw[if_pos hb]at hJ;refine Z1 ?_;refine wT h ?_;exact⟨by rw[hJ],rfl⟩;have hb:b0S no dp x=false:=by rw[<-b3W];exact c80
 rw[hb]at hJ;obtain⟨h1,h2,h3,h4,h5,h6⟩:=b2X hb;have h7:=(validP_spec h6).2.1;refine Z0 ?_;refine dS [] (.op 0 (.op 1 (.op 2 (.op 3 (.op 4 (.op 5 (.op 6 (.op 7 (.op 8 (.op 9 (.op 10 (.op 11 (.op 12 (.op 13 .nil)))))))))))))) [14,15,16] C9 ?_;refine kA6 ?_;refine yG rfl (a6G Ek Et (by omega)) ?_;refine yG rfl (K3 Et Et (by omega)) ?_;refine kA5 ?_;refine yG rfl (G0 uu9 Et) ?_;refine nS ?_;refine xG (K3 Et Et (by omega)) ?_;refine ZZ [2,3] ?_;exact WL.nil (lN (l.length-(k+1)) [(3,.int .i64 (size+2*x.depth+x.text.length+1)),(4,.int .i64 (k+1))] h ⟨k+1,x.no,x.depth,size+2*x.depth+x.text.length+1,⟨⟨by omega,by omega,by omega,by omega,.inr ⟨x,by omega,hx,rfl,rfl⟩⟩,hJ⟩,rfl,rfl,rfl⟩);rw[qb (by omega)]at hJ;refine ZZ [0,3,0] ?_;refine wT h ?_;exact⟨by rw[hJ];rfl,rfl⟩
end
end Go.Proofs.YtgcjpahhljmlmaaGreatDoor.Ly7
namespace Go.Proofs.YtgcjpahhljmlmaaGreatDoor
open Go.Proofs.Tryz
section
open Go.Eng Go.Pc Go.Sx Go
open Go.Xp hiding B E8
open Go.Ly (Rw K7 C6)
def Law:Value->View->Lr->Prop:=λv _ _=>v=.bool true
theorem c2h(p q:Pr):K4 p (stP q)=K4 p q:=by rw[b0A,a8L,b0A]
theorem b9U(s:Oa)(k c:Nat)(xs:List Rw)(h:Lr)(m:View)(hs:Rd m h s k c 3 (fl K7 xs))(hb:k<=4398046511103):CT prog 5 [.slice s k c] h m (λv _ h'=>b5h K7 52 3 h xs v h'):=by
 have hl:=hs.lenF C6 (by decide);refine cB [0,2,4] func5 λ_=>?_;refine ZZ [1,1] ?_;refine xG (b9f a6b Et Ek) ?_;refine y0 ?_ ?_<;>intro c4
 have:s=none:=by simpa using c4
 subst this;refine b7p (A:=fl K7 xs=[]) (λw st=>?_) λh0=>?_
 ·cases hx:fl K7 xs with
  |nil=>rfl
  |cons y ys=>obtain⟨b,off,e,_⟩:=hs.at_ w st 0 y (by rw[hx];rfl);cases e
 have e0:xs=[]:=by cases xs<;>simp_all [fl,K7]
 subst e0;refine WC.addNil 52 3 ?_;refine Z1 ?_;refine wT (.row (.slice none 0 0) 52 3 0 []::h) ?_;exact⟨none,0,0,rfl,rfl,rfl⟩;refine Z0 ?_;refine a9n V1 Lb λb5=>?_;refine kA1 ?_;refine xD V1 (Ev.tmp rfl) (Ev.tmp rfl) (qI _) (zO _) λa7 c7=>?_
 refine Z1 ?_;refine wT _ ?_;exact⟨a7,c7,_,hl.symm,rfl,rfl⟩
end
end Go.Proofs.YtgcjpahhljmlmaaGreatDoor
namespace Go.Proofs.YtgcjpahhljmlmaaGreatDoor.Ty9
open Go.Proofs.Tryz
section
open Go.Eng Go.Lx Go.Ty
theorem a0A(s:B)(h:Lr)(m:View):CT prog 270 [str s] h m (A5 h (I6 (D3 s))):=by
 refine cB [0,2] func270 λ_=>?_;refine xW λb2=>?_
 refine ZZ [0,3,0] ?_;refine wT h (h1:=cA C7) ?_;exact⟨rfl,rfl⟩
theorem a3M(s:B)(h:Lr)(m:View):CT prog 269 [str s] h m (A5 h (I6 (I2 s))):=by
 refine cB [0,2] func269 λ_=>?_;refine xW λb2=>?_
 refine ZZ [0,3,0] ?_;refine wT h (h1:=cA C7) ?_;exact⟨rfl,rfl⟩
theorem wordR9_ct(k:Int)(h:Lr)(m:View):CT prog 194 [.int .u8 k] h m (A5 h (I6 (I2 (wordR k)))):=by
 refine cB [0,2,4,7] func194 λ_=>?_;refine xW λb2=>?_
 refine ZZ [0,2,0] ?_;refine wc ?_ ?_<;>intro c4
 refine j0 ?_;refine xf (E1 Ek) (a3M wINT _ _) ?_;refine Z1 ?_;refine wT h (h1:=cA C7) ?_;exact⟨by unfold wordR;rw[c4];rfl,rfl⟩;refine ZZ [0,2,0] ?_;refine wc ?_ ?_<;>intro c7
 refine j0 ?_;refine xf (E1 Ek) (a3M wBYTE _ _) ?_;refine Z1 ?_;refine wT h (h1:=cA C7) ?_;exact⟨by unfold wordR;rw[c4,c7];rfl,rfl⟩;refine Z0 ?_;refine xf (E1 Ek) (a3M wBOOL _ _) ?_;refine Z1 ?_;refine wT h (h1:=cA C7) ?_;exact⟨by unfold wordR;rw[c4,c7];rfl,rfl⟩
theorem b6u(t:Ty)(h:Lr)(m:View)(hs:t.proto.length<=9223372036854775807):CT prog 196 [tyV t] h m (c9X h (tokens t)):=by
 refine cB [1,2,3,4,7,22,29,43] func196 λ_=>?_;refine xX λb1=>?_
 refine WL.addNil 116 4 ?_;refine ZZ [2,1] ?_;refine xf (E1 Et) (mayR_ct t _ _ hs) ?_;refine y1 ?_ ?_<;>intro c7
 rw[<-may_eq]at c7;have d12:may t=false:=by simpa using c7
 refine j0 ?_;refine WL.addNil 116 4 ?_;refine kA1 ?_;refine WL.addNil 116 4 ?_;refine Z1 ?_;refine w2 (.row (.slice none 0 0) 116 4 0 []::h) ?_;exact⟨none,0,by rw[a3G d12];rfl,by rw[a3G d12];rfl⟩;rw[<-may_eq]at c7;have d12:may t=true:=by simpa using c7
 refine Z0 ?_;refine WL.addNil 116 4 ?_;refine Z1 ?_;generalize hD:dimT t=D;have hDl:D.length<=3:=hD▸dimT_le t
 refine kP3 [1,4,10] ?_;refine D6 KKh [1] rfl (λF' h'=>∃a:Oa,∃c:Nat,(True)/\F'=[(4,.slice a D.length c)]/\.row (.slice a D.length c) 116 4 D.length (fl B1 D)::.pt b1 (.cells (E9 t).toArray 37 (0,0))::h=h') ?_ ?_;refine jE ?_;refine wc ?_ ?_<;>intro c10
 have e10:D=[D3 lb,⟨3,0,[],t.dim⟩,D3 rb]:=by rw[<-hD];unfold dimT;rw[c10];rfl
 refine jE ?_;refine F4 [1,6] (.op 0 (.op 2 (.op 3 (.op 4 (.op 5 (.op 1 (.op 6 .nil))))))) [7,8,9] _ [] C9 (λ_ _ _ _ _ h=>h) [0] (by kernel_rfl) ?_;refine kA3 ?_;refine yG rfl (PO.conv uu3 a0R Et) ?_;refine SR.val (v':=.int .i32 t.dim) (congrArg (Value.int .i32) (b5f d12)) ?_;refine yG rfl (PO.build C7 rfl rfl rfl Eb (by exact rfl)) ?_;refine yf rfl (E1 Ek) (λfr=>a0A lb _ _) ?_;refine yf rfl (E1 Ek) (λfr=>a0A rb _ _) ?_;refine nS ?_;refine xY B3 Eb λb18=>?_;refine xD B3 (Ev.tmp rfl) (Ev.tmp rfl) rfl (a2F (enc:=B1) [] [D3 lb,⟨3,0,[],t.dim⟩,D3 rb]).symm λa19 c19=>?_
 refine WL.drop (h':=.row (.slice a19 3 c19) 116 4 3 (fl B1 [D3 lb,⟨3,0,[],t.dim⟩,D3 rb])::.pt b1 (.cells (E9 t).toArray 37 (0,0))::h) Sb ?_;refine a4q (h':=.row (.slice a19 D.length c19) 116 4 D.length (fl B1 D)::.pt b1 (.cells (E9 t).toArray 37 (0,0))::h) (by rw[e10];rfl) ?_;refine kA1 ?_;refine WL.nil (b0b [(4,.slice a19 D.length c19)] (h'':=.row (.slice a19 D.length c19) 116 4 D.length (fl B1 D)::.pt b1 (.cells (E9 t).toArray 37 (0,0))::h) ?_ Su Sb ⟨a19,c19,by trivial,rfl,rfl⟩);refine Sub.consE rfl (by rw[e10];rfl) ?_;exact Su;have e10:D=[]:=by rw[<-hD];unfold dimT;rw[c10];rfl
 refine WC.drop (h':=.row (.slice none 0 0) 116 4 0 []::.pt b1 (.cells (E9 t).toArray 37 (0,0))::h) Sb ?_;refine X9 (h':=.row (.slice none D.length 0) 116 4 D.length (fl B1 D)::.pt b1 (.cells (E9 t).toArray 37 (0,0))::h) (by rw[e10];rfl) ?_;refine WC.skip (b0b [(4,.slice none D.length 0)] (h'':=.row (.slice none D.length 0) 116 4 D.length (fl B1 D)::.pt b1 (.cells (E9 t).toArray 37 (0,0))::h) ?_ Su Sb ⟨none,0,by trivial,rfl,rfl⟩);refine Sub.consE rfl (by rw[e10];rfl) ?_;exact Su;rintro _ _ ⟨a,c,hJ,rfl,rfl⟩;refine A9 rfl ?_;refine Z3 ?_;refine wc ?_ ?_<;>intro c22
 refine kA1 ?_;refine xf (E1 Ek) (a3M _ _ _) ?_;refine xY B3 Eb λb25=>?_;refine xD B3 (Ev.tmp rfl) (Ev.tmp rfl) rfl (D9 (enc:=B1) _ (I2 a2Z)) λa26 c26=>?_
 refine Z2 ?_;refine w2 (.row (.slice a26 (D.length+1) c26) 116 4 (D.length+1) (fl B1 (D++[I2 a2Z]))::h) ?_;exact⟨a26,c26,by rw[K1 d12,<-a9k d12 c22,hD];simp,by rw[K1 d12,<-a9k d12 c22,hD];simp⟩;refine ZZ [0,3,0] ?_;refine wc ?_ ?_<;>intro c29
 refine kA3 ?_;refine xf (E1 Et) (wordR9_ct _ _ _) ?_;refine xY B3 Eb λb34=>?_;refine xD B3 (Ev.tmp rfl) (Ev.tmp rfl) rfl (D9 (enc:=B1) _ (I2 (wordR t.kind))) λa35 c35=>?_
 refine Z2 ?_;refine w2 (.row (.slice a35 (D.length+1) c35) 116 4 (D.length+1) (fl B1 (D++[I2 (wordR t.kind)]))::h) ?_;exact⟨a35,c35,by rw[K1 d12,<-b0k d12 c22 c29,hD];simp,by rw[K1 d12,<-b0k d12 c22 c29,hD];simp⟩;refine ZZ [0,1] ?_;refine xf (E1 Ek) (a3M _ _ _) ?_;refine xf (E1 Ek) (a3M _ _ _) ?_;refine xY B3 Eb λb39=>?_;refine xD B3 (Ev.tmp rfl) (Ev.tmp rfl) rfl (a2F (enc:=B1) D [I2 a1e,I2 cOF]).symm λa40 c40=>?_
 refine ZZ [1,2] ?_;refine xG (P2 Et Ek) ?_;refine y0 ?_ ?_<;>intro c43
 refine kA4 ?_;refine xY B3 Eb λb48=>?_;refine xD B3 (Ev.tmp rfl) (Ev.tmp rfl) rfl (D9 (enc:=B1) _ (⟨1,0,t.proto,0⟩)) λa49 c49=>?_
 refine Z2 ?_;refine w2 (.row (.slice a49 (D.length+2+1) c49) 116 4 (D.length+2+1) (fl B1 (D++[I2 a1e,I2 cOF]++[⟨1,0,t.proto,0⟩]))::h) ?_;exact⟨a49,c49,by rw[K1 d12,<-a9H d12 c29 c43,hD];simp,by rw[K1 d12,<-a9H d12 c29 c43,hD];simp⟩;refine ZZ [0,3] ?_;refine xf (E1 Et) (wordR9_ct _ _ _) ?_;refine xY B3 Eb λb54=>?_;refine xD B3 (Ev.tmp rfl) (Ev.tmp rfl) rfl (D9 (enc:=B1) _ (I2 (wordR t.item))) λa55 c55=>?_
 refine Z2 ?_;refine w2 (.row (.slice a55 (D.length+2+1) c55) 116 4 (D.length+2+1) (fl B1 (D++[I2 a1e,I2 cOF]++[I2 (wordR t.item)]))::h) ?_;exact⟨a55,c55,by rw[K1 d12,<-b1w d12 c29 c43,hD];simp,by rw[K1 d12,<-b1w d12 c29 c43,hD];simp⟩
end
end Go.Proofs.YtgcjpahhljmlmaaGreatDoor.Ty9
namespace Go.Proofs.YtgcjpahhljmlmaaGreatDoor.Xq
open Go.Proofs.Tryz
section
open Go.Eng Go.Xp Go
open Go.Ty (Tok B1 A7 I6)
theorem a0A(s:B)(h:Lr)(m:View):CT prog 309 [str s] h m (A5 h (I6 (D3 s))):=by
 refine cB [0,2] func309 λ_=>?_;refine xW λb2=>?_
 refine ZZ [0,3,0] ?_;refine wT h (h1:=cA C7) ?_;exact⟨rfl,rfl⟩
theorem a4Z(s:B)(h:Lr)(m:View):CT prog 272 [str s] h m (A5 h (I6 (I2 s))):=by
 refine cB [0,2] func272 λ_=>?_;refine xW λb2=>?_
 refine ZZ [0,3,0] ?_;refine wT h (h1:=cA C7) ?_;exact⟨rfl,rfl⟩
theorem c3z(o:Int)(ho:0<=o/\o<=255)(h:Lr)(m:View):CT prog 307 [.int .u8 o] h m (A5 h (I6 (P8 o))):=by
 have hk:=Go.Lx.key_eq (a0g o).1;refine cB [0,2,3,11] func307 λ_=>?_;refine xW λb2=>?_
 refine ZZ [0,1] ?_;refine xf (E1 Et) (b91 _ (by assumption) _ _) ?_;refine ZZ [5,1] ?_;refine xf (E1 Et) (a6F _ _ _) ?_;refine y0 ?_ ?_<;>intro c11
 have hq:P8 o=I2 (a0g o).1:=by unfold P8 F7;rw[hk,c11];rfl
 refine kA1 ?_;refine xf (E1 Et) (a4Z _ _ _) ?_;refine Z1 ?_;refine wT h (h1:=cA C7) ?_;exact⟨by rw[hq];rfl,rfl⟩;have hq:P8 o=D3 (a0g o).1:=by unfold P8 F7;rw[hk,c11];rfl
 refine ZZ [0,1] ?_;refine xf (E1 Et) (a0A _ _ _) ?_;refine Z1 ?_;refine wT h (h1:=cA C7) ?_;exact⟨by rw[hq];rfl,rfl⟩
def S9(k:Int):B:=if k=1 then[73,78,84]else if k=2 then[66,89,84,69]else[66,79,79,76]
theorem c0l(k:Int)(h:Lr)(m:View):CT prog 273 [.int .u8 k] h m (A5 h (str (S9 k))):=by
 refine cB [0,2,3,4,6] func273 λ_=>?_;refine ZZ [1,1,2,0] ?_;refine wE ?_ ?_<;>intro c4
 refine Z1 ?_;refine wT h ?_;exact⟨by unfold S9;rw[if_pos c4],rfl⟩;refine y3 ?_ ?_<;>intro c6
 refine Z1 ?_;refine wT h ?_;exact⟨by unfold S9;rw[if_neg c4,if_pos c6],rfl⟩;refine ZZ [0,1,0] ?_;refine wT h ?_;exact⟨by unfold S9;rw[if_neg c4,if_neg c6],rfl⟩
theorem a4c{s:B}(h:Go.Lx.key s=true):F7 s=I2 s:=by unfold F7;rw[if_pos h]
end
end Go.Proofs.YtgcjpahhljmlmaaGreatDoor.Xq
