import Derived.Test.YtkgfanibfkdbfaaGreatDoorLPrintsY5
import Derived.Lib.SplitLaws
set_option maxRecDepth 100000
set_option maxHeartbeats 4000000
namespace Go.Proofs.YtkgfanibfkdbfaaGreatDoor
open Go.Proofs.Tryz
section
open Go.Eng Go.Lx Go.Ty
def Pow (m : View) : Prop := ∀ h w, St m h w → Lib.TabIs prog w "internal/strconv.uint64pow10" .u64 Lib.pow10Tab
theorem c5o(v:Int)(h:List Res)(m:View)(hp:Pow m)(hv:-9223372036854775808<=v/\v<=9223372036854775807):CT prog 315 [.int .i64 v] h m (A7 h (str (Lib.itoa v))):=
 CT.ofGrow call315 λw st=>Tryz.strconv_Itoa v hv.1 hv.2 w (hp h w st)
theorem a9N(t:Tok)(s:B)(h:List Res)(m:View)(hg:Glob m)(hs:s.length<4294967281):CT prog 146 [O4 t,str s] h m (A7 h (.bool (a5m t s))):=by
 refine cB [1,2,4] func146 λ_=>?_;refine xX λb2=>?_
 refine ZZ [1,7] ?_;refine A4 (GU.t rfl rfl) (λhc=>⟨Ef,(E2 (Eg hc) (Eg hc)),a1P hg s t.text hs _⟩) Lb ?_;refine Z2 ?_;refine wT h ?_;exact⟨rfl,rfl⟩
theorem a2C{s:B}{k:Nat}(h:k<s.length):(s.drop k).take (k+1-k)=[s.getD k 0]:=by rw[List.drop_eq_getElem_cons h,Nat.add_sub_cancel_left,List.take_succ_cons,List.take_zero,List.getD_eq_getElem?_getD,List.getElem?_eq_getElem h];rfl
theorem c6J(v:Nat):IntKind.u8.wrap (v:Int)=((UInt8.ofNat v).toNat:Int):=by rw[UInt8.toNat_ofNat'];unfold IntKind.wrap;simp[IntKind.bits,IntKind.signed]
theorem c9C(v:Nat):a6j .i32 (v:Int) 4=((v/16:Nat):Int):=by unfold a6j;rw[Int.fdiv_eq_ediv_of_nonneg _ (by decide)];simp[IntKind.bits]
theorem c6w{v:Nat}(h:v<256):b9Q .i32 (v:Int) 15=((v%16:Nat):Int):=by
 have:∀v,v<256->b9Q .i32 ((v:Nat):Int) 15=((v%16:Nat):Int):=by decide +kernel
 exact this v h
theorem b3f{v:Nat}(h:v<256):IntKind.i32.wrap ((v:Int)+1)=((v+1:Nat):Int):=by unfold IntKind.wrap;simp[IntKind.bits,IntKind.signed];omega
theorem c1g(v:Nat)(h:List Res)(m:View)(hv:v<256):CT prog 249 [.int .i32 v] h m (A7 h (str (a3H v))):=by
 have hI:=a60 (UInt8.ofNat v) c8C;have hI5:shI v<=4:=hI;refine cB [0,2,3,7,15] func249 λ_=>?_;refine ZZ [1,1] ?_;refine xG (PO.conv a1X uu5 Et) ?_;refine WL.val (v':=.int .u8 ((UInt8.ofNat v).toNat:Int)) (congrArg (Value.int .u8) (c6J v)) ?_;refine xf (E2 Ek Et) (CT.argsE rfl (b0M c8C (UInt8.ofNat v) _ _)) ?_;refine WL.val (v':=.int .i64 (shI v)) rfl ?_;refine ZZ [1,3,0] ?_;refine wc ?_ ?_<;>intro c7
 have d7:0<=shI v:=dT c7;obtain⟨k,hk⟩:∃k:Nat,shI v=k:=⟨(shI v).toNat,by omega⟩;rw[hk];have hk5:k<b3B.length:=by show k<5;omega
 refine kA3 ?_;refine WL.val (v':=.int .i64 ((k+1:Nat):Int)) (congrArg (Value.int .i64) (by omega)) ?_;refine xG (V3 (s:=b3B) (l:=k) (u:=k+1) uu9 Ek Et Et rfl rfl (by omega) (by omega)) ?_;refine WL.val (v':=str [b3B.getD k 0]) (congrArg str (a2C hk5)) ?_;refine xG (R2 Ek Et (by simp)) ?_;refine Z1 ?_;refine wT h ?_;exact⟨by unfold a3H;rw[c7,hk];rfl,rfl⟩;refine Z7 ?_;refine wc ?_ ?_<;>intro c15
 refine jE ?_;refine dS [] (.op 0 (.op 1 (.op 2 (.op 3 (.op 4 (.op 5 (.op 6 (.op 7 (.op 8 (.op 9 (.op 10 (.op 11 (.op 12 .nil))))))))))))) [13,14] C4 ?_;refine kA1 ?_;refine yG rfl (PO.shr Et Ek (by decide)) ?_;refine SR.val (v':=.int .i32 ((v/16:Nat):Int)) (congrArg (Value.int .i32) (c9C v)) ?_;refine kA1 ?_;refine yG rfl (PO.shr Et Ek (by decide)) ?_;refine SR.val (v':=.int .i32 ((v/16:Nat):Int)) (congrArg (Value.int .i32) (c9C v)) ?_;refine yG rfl (P0 Et Ek rfl) ?_;refine SR.val (v':=.int .i32 ((v/16+1:Nat):Int)) (congrArg (Value.int .i32) (b3f (by omega))) ?_;refine yG rfl (V3 (s:=H7) (l:=v/16) (u:=v/16+1) uu9 Ek Et Et rfl rfl (by omega) (by show _<=16;omega)) ?_;refine SR.val (v':=str [H7.getD (v/16) 0]) (congrArg str (a2C (by show _<16;omega))) ?_;refine yG rfl (R2 Ek Et (by simp)) ?_;refine kA1 ?_;refine yG rfl (P0 Et Ek rfl) ?_
 refine SR.val (v':=.int .i32 ((v%16:Nat):Int)) (congrArg (Value.int .i32) (c6w hv)) ?_;refine kA1 ?_;refine yG rfl (P0 Et Ek rfl) ?_;refine SR.val (v':=.int .i32 ((v%16:Nat):Int)) (congrArg (Value.int .i32) (c6w hv)) ?_;refine yG rfl (P0 Et Ek rfl) ?_;refine SR.val (v':=.int .i32 ((v%16+1:Nat):Int)) (congrArg (Value.int .i32) (b3f (by omega))) ?_;refine yG rfl (V3 (s:=H7) (l:=v%16) (u:=v%16+1) uu9 Ek Et Et rfl rfl (by omega) (by show _<=16;omega)) ?_;refine SR.val (v':=str [H7.getD (v%16) 0]) (congrArg str (a2C (by show _<16;omega))) ?_;refine SR.nil rfl rfl ?_;refine xG (R2 Et Et (by simp)) ?_;refine Z1 ?_;refine wT h ?_;exact⟨by unfold a3H;rw[c7,c15];rfl,rfl⟩;have hv2:v<128:=by simp at c15;omega
 refine ZZ [0,1] ?_;refine xG (c4l a1X uu9 Et rfl hv2) ?_;refine Z1 ?_;refine wT h ?_;exact⟨by unfold a3H;rw[c7,c15];rfl,rfl⟩
theorem c4d{u i:Nat}(hi:i<8):a6j .u32 (u:Int) (4*(i:Int))=((u/16^i:Nat):Int):=by unfold a6j;rw[show min (4*(i:Int)).toNat IntKind.u32.bits=4*i by show min _ 32=_;omega,Int.fdiv_eq_ediv_of_nonneg _ (Int.le_of_lt (Int.pow_pos (by decide)))];rw[show(16:Nat)^i=2^(4*i) by rw[Nat.pow_mul]];simp
theorem c4n(x:Nat)(hx:x<4294967296):b9Q .u32 (x:Int) 15=((x%16:Nat):Int):=by
 have e:(BitVec.ofInt 32 (x:Int)&&&BitVec.ofInt 32 15).toNat=x%16:=by rw[BitVec.toNat_and,BitVec.ofInt_natCast,BitVec.toNat_ofNat,Nat.mod_eq_of_lt (by omega),show(BitVec.ofInt 32 15).toNat=2^4-1 from rfl,Nat.and_two_pow_sub_one_eq_mod]
 unfold b9Q;rw[show IntKind.u32.bits=32 from rfl,e,a9T (by omega)]
theorem d0p{k j:Nat}{x:UInt8}{r:B}(hj:j=k+1):(bv (35::(List.replicate (k+1) 0++r))).set (0+j*1) (.int .u8 x.toNat)=bv (35::(List.replicate k 0++(x::r))):=by
 subst hj;rw[Nat.zero_add,Nat.mul_one];have e:∀(k:Nat),(bv (List.replicate (k+1) 0++r)).set k (.int .u8 x.toNat)=bv (List.replicate k 0++(x::r)):=by
  intro k;induction k with
  |zero=>rfl
  |succ k ih=>show _::(bv (List.replicate (k+1) 0++r)).set k _=_;rw[ih];rfl
 show _::(bv (List.replicate (k+1) 0++r)).set k _=_;rw[e];rfl
theorem c2r(v:Int)(b:Bool)(h:List Res)(m:View)(hp:Pow m)(hv:-2147483648<=v/\v<=2147483647):CT prog 248 [.int .i32 v,.bool b] h m (A7 h (str (X2 v b))):=by
 obtain⟨u,hu⟩:∃u:Nat,IntKind.u32.wrap v=u:=⟨(IntKind.u32.wrap v).toNat,by
  have:0<=IntKind.u32.wrap v:=by unfold IntKind.wrap;simp[IntKind.bits,IntKind.signed];omega
  omega⟩
 have hu32:u<4294967296:=by
  have:IntKind.u32.wrap v<4294967296:=by unfold IntKind.wrap;simp[IntKind.bits,IntKind.signed];omega
  omega
 refine cB [0,1,4,5,6,8,13,14] func248 λ_=>?_;refine ZZ [1,2,0] ?_;refine wc ?_ ?_<;>intro c8
 have d8:b=false:=by simpa using c8
 subst d8;refine kA1 ?_;refine xG (PO.conv a1X uu3 Et) ?_;refine WL.val (v':=.int .i64 v) (congrArg (Value.int .i64) (by unfold IntKind.wrap;simp[IntKind.bits,IntKind.signed];omega)) ?_;refine xf (E1 Et) (c5o v _ _ hp (by omega)) ?_;refine Z1 ?_;refine wT h ?_;exact⟨rfl,rfl⟩;have d8:b=true:=by simpa using c8
 subst d8;refine Z0 ?_;refine xG (a5A b8r rfl rfl rfl Eb (by exact rfl)) ?_;refine xW λb5=>?_;refine ZZ [1,1,0] ?_;refine B1 [0,5] rfl (λμ F' h'=>∃i:Nat,(i<=8)/\8-i=μ/\F'=[(13,.int .i64 i)]/\.pt b5 (.cells (bv (35::(List.replicate (8-i) 0++a0o u i))).toArray 317 (0,0))::h=h') (8-0) [(13,.int .i64 0)] (h0:=.pt b5 (.cells (bv (35::(List.replicate (8-0) 0++a0o u 0))).toArray 317 (0,0))::h) ?_ Sb ⟨0,by omega,rfl,rfl,rfl⟩ ?_;exact Su;rintro _ _ _ ⟨i,hJ,rfl,rfl,rfl⟩;refine B2 rfl ?_;refine Z1 ?_;refine wD ?_ ?_<;>intro c14
 have hd:u/16^i%16<16:=Nat.mod_lt _ (by decide);obtain⟨x,hx⟩:=A5 (l:=H7) (k:=u/16^i%16) hd;have hx':H7.getD (u/16^i%16) 0=x:=by rw[List.getD_eq_getElem?_getD,hx];rfl
 have hle:u/16^i<4294967296:=Nat.lt_of_le_of_lt (Nat.div_le_self _ _) hu32;refine ZZ [0,2,1] ?_;refine xG (Q4 Ek Et (by omega)) ?_;refine kA1 ?_;refine xG (PO.conv a1X b5D Et) ?_;refine WL.val (v':=.int .u32 (u:Int)) (congrArg (Value.int .u32) hu) ?_;refine kA1 ?_;refine xG (a8X Ek Et (by omega)) ?_;refine xG (PO.shr Et Et (by omega)) ?_;refine WL.val (v':=.int .u32 ((u/16^i:Nat):Int)) (congrArg (Value.int .u32) (c4d (by omega))) ?_;refine kA1 ?_;refine WL.val (v':=.int .u32 ((u/16^i%16:Nat):Int)) (congrArg (Value.int .u32) (c4n _ hle)) ?_;refine xG (I9 (l:=H7) (q:=u/16^i%16) uu9 Ek Et rfl hx) ?_;refine xG (b8z (sz:=1) b8r rfl Et Et (q:=8-i) (by omega) (by omega)) ?_;refine b8M (cs:=bv (35::(List.replicate (8-i) 0++a0o u i))) rfl Et Et rfl rfl (by rw[b3y];simp[a4r];omega) Up ?_
 refine c7o (cs:=(bv (35::(List.replicate (8-i) 0++a0o u i))).set (0+(8-i)*1) _) (cs':=bv (35::(List.replicate (8-(i+1)) 0++a0o u (i+1)))) (by rw[b0b,hx',show 8-i=8-(i+1)+1 by omega];exact d0p rfl) Up ?_;refine ZZ [0,2] ?_;refine WL.nil (A6 (8-(i+1)) [(13,.int .i64 (i+1))] (h'':=.pt b5 (.cells (bv (35::(List.replicate (8-(i+1)) 0++a0o u (i+1)))).toArray 317 (0,0))::h) (by omega) ?_ Su Sb ⟨i+1,by omega,rfl,rfl,rfl⟩);exact Su;have e:i=8:=by omega
 subst e;refine Z0 ?_;refine xG (b5q b8r rfl (by decide) Et) ?_;refine xG (b4T (bs:=35::a0o u 8) b5w uu5 uu9 Et (Rd.ofPt rfl (by decide) (List.Mem.head _))) ?_;refine Z1 ?_;refine wT h ?_;exact⟨by unfold X2;rw[hu];rfl,rfl⟩
end
section
open Go.Eng Go.Lx Go.Ty
theorem c4O(t:Tok)(h:List Res)(m:View)(hp:Pow m)(hn:-2147483648<=t.n/\t.n<=2147483647)(hk:J7 t=true):CT prog 148 [O4 t] h m (A7 h (str (Y2 t))):=by
 refine cB [1,2,4,5,13] func148 λ_=>?_;refine xX λb1=>?_
 refine ZZ [1,2,2,0] ?_;refine wc ?_ ?_<;>intro c5
 refine kA5 ?_;refine xf (E2 Et Et) (c2r t.n _ _ _ hp hn) ?_;refine Z1 ?_;refine wT h ?_;exact⟨by unfold Y2;rw[c5];rfl,rfl⟩;refine Z2 ?_;refine wc ?_ ?_<;>intro c13
 have hb:0<=t.n/\t.n<256:=by have e:t.kind=4:=eq_of_beq c13;unfold J7 at hk;rw[e]at hk;simp at hk;omega
 have hsl:=a7M t.n.toNat;refine kA2 ?_;refine WL.val (v':=.int .i32 (t.n.toNat:Int)) (congrArg (Value.int .i32) (by omega)) ?_;refine xf (E1 Et) (c1g t.n.toNat _ _ (by omega)) ?_;refine xG (R2 Ek Et (by simp;omega)) ?_;refine xG (R2 Et Ek (by simp;omega)) ?_;refine Z1 ?_;refine wT h ?_;exact⟨by unfold Y2;rw[c5,c13];rfl,rfl⟩;refine ZZ [0,3,0] ?_;refine wT h ?_;exact⟨by unfold Y2;rw[c5,c13];rfl,rfl⟩
def TkL(l:List Tok):Prop:=∀x,x∈l->(-2147483648<=x.n/\x.n<=2147483647)/\x.text.length<=140737488355328
theorem b8l{l:List Tok}{i:Nat}{x:Tok}(hx:l[i]?=some x)(h:J7 x=false):l.any (λt=>!J7 t)=true:=
 List.any_eq_true.2 ⟨x,List.mem_of_getElem? hx,by rw[h];rfl⟩
theorem b5Y{l:List Tok}{i:Nat}{x:Tok}(hx:l[i]?=some x)(h:J7 x=true)(hJ:(l.take i).any (λt=>!J7 t)=false):(l.take (i+1)).any (λt=>!J7 t)=false:=by rw[List.take_add_one,hx,List.any_append,hJ];simp[h]
theorem c3r{l:List Tok}{i:Nat}(hi:i<l.length)(x:Tok):a7L (a3y none (l.take i)) x=(decide ((i:Int)>0)&&gap (l.getD (i-1) zeroK) x):=by
 cases i with
 |zero=>rfl
 |succ j=>
  have hj:j<l.length:=by omega
  rw[a9I l j none l[j] (List.getElem?_eq_getElem hj),Nat.add_sub_cancel,List.getD_eq_getElem?_getD,List.getElem?_eq_getElem hj];have:decide (((j+1:Nat):Int)>0)=true:=by simp
  rw[this];rfl
theorem b9d(a:Option Addr)(k c:Nat)(l:List Tok)(h:List Res)(m:View)(hg:Glob m)(hp:Pow m)(hs:Rd m h a k c 4 (fl A3 l))(hT:TkL l) :
 CT prog 74 [.slice a k c] h m (A7 h (.tuple #[str (textO l).1,.int .i64 (textO l).2])):=by
 have hl:=hs.lenF B8 (by decide);subst hl;have hmx:=hs.mx;have hle:=hs.le;have hq:∀n:Nat,n<l.length->l[n]?=some (l.getD n zeroK):=λn hn=>by rw[List.getD_eq_getElem?_getD,List.getElem?_eq_getElem hn];rfl
 refine cB [0,2,3,4,6,7,8,9,10,11,12,13,18,20,21,22,23,68] func74 λ_=>?_;refine Z2 ?_;refine xG (PO.assign Ef) ?_;refine ZZ [0,3,0] ?_;refine B1 [0,4,10,11] rfl (λμ F' h'=>∃i:Nat,(i<=l.length/\(l.take i).any (λt=>!J7 t)=false)/\l.length-i=μ/\F'=[(12,.int .i64 i)]/\h=h') (l.length-0) [(12,.int .i64 0)] (h0:=h) ?_ Sb ⟨0,⟨by omega,rfl⟩,rfl,rfl,rfl⟩ ?_;exact Su;rintro _ _ _ ⟨i,⟨hi,hJ⟩,rfl,rfl,rfl⟩;refine B2 rfl ?_;refine Z1 ?_;refine wD ?_ ?_<;>intro c13
 obtain⟨x,hx⟩:=A5 (l:=l) (k:=i) (by omega);have hxT:=hT x (List.mem_of_getElem? hx);refine ZZ [0,2] ?_;refine xW λb6=>?_;refine ZZ [1,1] ?_;refine xf (E1 Et) (b5m x _ _ hg hxT.2) ?_;refine Z1 ?_;refine wc ?_ ?_<;>intro c18
 have d18:J7 x=false:=by simpa using c18
 have hO:=b1Q (b8l hx d18);refine Z2 ?_;refine w2 h ?_;exact⟨by rw[hO],rfl⟩;have d18:J7 x=true:=by simpa using c18
 have hJ2:=b5Y hx d18 hJ;refine ZZ [0,2] ?_;refine WL.nil (A6 (l.length-(i+1)) [(12,.int .i64 (i+1))] (h'':=h) (by omega) ?_ Su Sb ⟨i+1,⟨by omega,hJ2⟩,rfl,rfl,rfl⟩);exact Su;rw[List.take_of_length_le (by omega)]at hJ;have hall:∀x,x∈l->J7 x=true:=λx hx=>by
  have:=List.any_eq_false.1 hJ x hx;simpa using this
 refine ZZ [0,1,3,0] ?_;refine B1 [0,4,20,21] rfl (λμ F' h'=>∃i:Nat,∃s:B,((i<=l.length/\s.length<=256)/\s=textL none (l.take i))/\l.length-i=μ/\F'=[(7,str s),(22,.int .i64 i)]/\h=h') (l.length-0) [(7,str ([])),(22,.int .i64 0)] (h0:=h) ?_ Sb ⟨0,[],⟨⟨by omega,by decide⟩,rfl⟩,rfl,rfl,rfl⟩ ?_;exact Su;rintro _ _ _ ⟨i,s,⟨⟨hi,hs256⟩,hS⟩,rfl,rfl,rfl⟩;refine B2 rfl ?_;refine Z1 ?_;refine wD ?_ ?_<;>intro c23
 obtain⟨x,hx⟩:=A5 (l:=l) (k:=i) (by omega);have hxT:=hT x (List.mem_of_getElem? hx);have hxK:=hall x (List.mem_of_getElem? hx);have hgap:=c3r (l:=l) (i:=i) (by omega) x;have hsn:=b06 none hx;have hxl:=b1l hxT.1 hxT.2;generalize hy:l.getD (i-1) zeroK=y at hgap;have hqy:0<i->l[i-1]?=some y:=λh0=>by rw[hq (i-1) (by omega),hy]
 refine ZZ [0,3] ?_;refine xW λb9=>?_;refine ZZ [2,4] ?_;refine zG (λ_=>pA M4) ?_;refine A4 (GU.t rfl rfl) (λhc=>⟨(Y9 rfl hc),(E2 (Y9 rfl hc) Ek),a9N x b3V _ _ hg (by decide)⟩) Lb ?_;refine kA6 ?_;refine E8 (GU.t rfl rfl) (λhc=>Q4 (Eg hc) Ek (by first|omega|(simp at hc;omega))) Lb ?_;refine E8 (GU.t rfl rfl) (λhc=>D8 B3.und B3.size B3.posz (Eg hc) (Eg hc) Rr (q:=i-1) (by simp at hc;omega) (by simp at hc;omega)) Lb ?_;refine E8 (GU.t rfl rfl) (λhc=>a0Y M4 rfl rfl B8 Rr (Eg hc) (hqy (by simp at hc;omega)) rfl rfl (Nat.succ_pos _)) Lb ?_;refine A4 (GU.t rfl rfl) (λhc=>⟨(Y9 rfl hc),(E2 (Y9 rfl hc) Ek),a9N y b2h _ _ hg (by decide)⟩) Lb ?_;refine kA5 ?_;refine E8 (GU.t rfl rfl) (λhc=>Q4 (Eg hc) Ek (by first|omega|(simp at hc;omega))) Lb ?_;refine E8 (GU.t rfl rfl) (λhc=>D8 B3.und B3.size B3.posz (Eg hc) (Eg hc) Rr (q:=i-1) (by simp at hc;omega) (by simp at hc;omega)) Lb ?_
 refine E8 (GU.t rfl rfl) (λhc=>G6 M4 rfl (Nat.ne_of_beq_eq_false rfl) B8 (Nat.succ_pos _) Rr (hqy (by simp at hc;omega)) (Eg hc)) Lb ?_;refine E8 (GU.t rfl rfl) (λhc=>G8 b4X rfl B8 Rr (Eg hc) (hqy (by simp at hc;omega)) rfl) Lb ?_;refine kA3 ?_;refine zG (λ_=>pA M4) ?_;refine A4 (a4P rfl rfl) (λhc=>⟨(Y9 rfl hc),(E2 (Y9 rfl hc) Ek),a9N x b2h _ _ hg (by decide)⟩) Lb ?_;refine kA1 ?_;refine zG (λhc=>S0 hc rfl rfl) ?_;refine kP1 [0,4,7,9,20,21,22,59] ?_;refine F4 KKh [0,4,9,20,21,22] rfl (λF' h'=>∃u:B,(u=s++sep (a7L (a3y none (l.take i)) x)/\u.length<=257)/\F'=[(7,str u)]/\.pt b9 (.cells (A3 x).toArray 97 (0,0))::h=h') ?_ ?_;refine jE ?_;refine wc ?_ ?_<;>intro c59
 have d59:a7L (a3y none (l.take i)) x=true:=by rw[hgap];simpa [gap,Bool.and_assoc]using c59
 refine kA1 ?_;refine xG (R2 Et Ek (by simp;omega)) ?_;refine kA1 ?_;refine WL.nil (B4 [(7,str (s++[32]))] (h'':=.pt b9 (.cells (A3 x).toArray 97 (0,0))::h) ?_ Su Sb ⟨s++[32],⟨by rw[d59];rfl,by rw[List.length_append,List.length_singleton];omega⟩,rfl,rfl⟩);exact Su;have d59:a7L (a3y none (l.take i)) x=false:=by rw[hgap];simpa [gap,Bool.and_assoc]using c59
 refine WC.skip (B4 [(7,str s)] (h'':=.pt b9 (.cells (A3 x).toArray 97 (0,0))::h) ?_ Su Sb ⟨s,⟨by rw[d59];exact(List.append_nil s).symm,by omega⟩,rfl,rfl⟩);exact Su;rintro _ _ ⟨u,⟨hu,hul⟩,rfl,rfl⟩;refine B2 rfl ?_;refine kA2 ?_;refine xf (E1 Et) (c4O x _ _ hp hxT.1 hxK) ?_;refine xG (R2 Et Et (by omega)) ?_;refine ZZ [1,1] ?_;refine xG (I8 uu9 Et) ?_;refine Z1 ?_;refine wc ?_ ?_<;>intro c68
 have hlong:256<(u++Y2 x).length:=by have:=of_decide_eq_true c68;omega
 have hO:=a9p hJ (i:=i+1) (by rw[hsn,<-hS,<-List.append_assoc,<-hu];exact hlong);refine Z2 ?_;refine w2 h ?_;exact⟨by rw[hO],rfl⟩;have hshort:(u++Y2 x).length<=256:=by have:=of_decide_eq_false c68;omega
 refine ZZ [0,2] ?_;refine WL.nil (A6 (l.length-(i+1)) [(7,str (u++Y2 x)),(22,.int .i64 (i+1))] (h'':=h) (by omega) ?_ Su Sb ⟨i+1,u++Y2 x,⟨⟨by omega,hshort⟩,by rw[hsn,<-hS,<-List.append_assoc,<-hu]⟩,rfl,rfl,rfl⟩);exact Su;rw[List.take_of_length_le (by omega)]at hS;have hO:=b5o hJ (by rw[<-hS];exact hs256);refine ZZ [0,3,0] ?_;refine w2 h ?_;exact⟨by rw[hO,hS],rfl⟩
end
section
open Go.Eng Go.Pc Go.Sx Go
open Go.Xp hiding B C9
open Go.Ty (Ty Vr Tok eqT tyV I7 A3 B8 O4 zeroK M8 D3)
open Go.Lx (encB encB_len textO)
open Go.Ly (Rw P4 F9)
abbrev OwT(h:List Res)(l:List Tok)(v:Value)(h':List Res):Prop:=b3K A3 97 4 h l v h'
theorem a2W(s:B)(h:List Res)(m:View):CT prog 63 [str s] h m (λv _ h'=>OwT h [E6 s] v h'):=by
 refine cB [0,2] func63 λ_=>?_;refine ZZ [1,2] ?_;refine xY B3 Eb λb5=>?_
 refine G7 (k:=1) (sz:=4) (cs:=fl A3 [E6 s]) rfl (by decide) Up ?_;refine Z1 ?_;refine wT (.row (.slice (some ⟨b5,0,none⟩) 1 1) 97 4 1 (fl A3 [E6 s])::h) ?_;exact⟨_,_,1,rfl,rfl,rfl⟩
theorem D1{m:View}(hg:Glob m)(a:Option Addr)(k c:Nat)(l:List B)(h:List Res)(hs:Rd m h a k c 1 (fl encB l))(hl:k<=1000)(hw:∀x∈l,x.length<=140737488355328) :
 CT prog 35 [.slice a k c] h m (λv _ h'=>OwT h (l.map A0) v h'):=by
 have hlen:=hs.lenF encB_len (by decide);subst hlen;refine cB [0,2,3,5,6,7,8,9,13] func35 λ_=>?_;refine Z1 ?_;refine WL.addNil 97 4 ?_;refine ZZ [1,3,0] ?_;refine B1 [6,7] rfl (λμ F' h'=>∃a3:Option Addr,∃c3:Nat,∃r:List Tok,∃j:Nat,((j<=l.length/\r.length=j)/\r=(l.take j).map A0)/\l.length-j=μ/\F'=[(3,.slice a3 r.length c3),(8,.int .i64 j)]/\.row (.slice a3 r.length c3) 97 4 r.length (fl A3 r)::h=h') (l.length-0) [(3,.slice none ([]).length 0),(8,.int .i64 0)] (h0:=.row (.slice none ([]).length 0) 97 4 ([]).length (fl A3 ([]))::h) ?_ Sb ⟨none,0,[],0,⟨⟨by omega,rfl⟩,rfl⟩,rfl,rfl,rfl⟩ ?_;exact Su;rintro _ _ _ ⟨a3,c3,r,j,⟨⟨hj,hr⟩,hJ⟩,rfl,rfl,rfl⟩;refine B2 rfl ?_;refine Z1 ?_;refine wD ?_ ?_<;>intro c9
 obtain⟨s,hx⟩:=A5 (l:=l) (k:=j) (by omega);have htk:(l.take (j+1)).map A0=(l.take j).map A0++[A0 s]:=by rw[U5 hx,List.map_append];rfl
 have hsw:=hw s (List.mem_of_getElem? hx);refine ZZ [0,3,1] ?_;refine xf (E1 Et) (a7X s _ _ hg hsw) ?_;refine Z0 ?_;refine wc ?_ ?_<;>intro c13
 have hws:A0 s=⟨2,0,s,0⟩:=by unfold A0;rw[if_pos c13]
 have hln:(r++[A0 s]).length=r.length+1:=List.length_append;refine kA2 ?_;refine xf (E1 Et) (N3 _ _ _) ?_;refine xY B3 Eb λb17=>?_;rw[<-hws];refine xD B3 (Ev.tmp rfl) (Ev.tmp rfl) (show r.length+1=(r++[A0 s]).length by simp) (D4 (enc:=A3) _ (A0 s)) λa18 c18=>?_
 refine ZZ [1,2] ?_;refine WL.nil (A6 (l.length-(j+1)) [(3,.slice a18 (r++[A0 s]).length c18),(8,.int .i64 (j+1))] (h'':=.row (.slice a18 (r++[A0 s]).length c18) 97 4 (r++[A0 s]).length (fl A3 (r++[A0 s]))::h) (by omega) ?_ Su Sb ⟨a18,c18,r++[A0 s],j+1,⟨⟨by omega,by omega⟩,by rw[htk,hJ]⟩,rfl,rfl,rfl⟩);exact Su;have hws:A0 s=⟨5,0,s,0⟩:=by unfold A0;rw[if_neg (J8 c13)]
 have hln:(r++[A0 s]).length=r.length+1:=List.length_append;refine kA2 ?_;refine xf (E1 Et) (K0 _ _ _) ?_;refine xY B3 Eb λb22=>?_;rw[<-hws];refine xD B3 (Ev.tmp rfl) (Ev.tmp rfl) (show r.length+1=(r++[A0 s]).length by simp) (D4 (enc:=A3) _ (A0 s)) λa23 c23=>?_
 refine ZZ [1,2] ?_;refine WL.nil (A6 (l.length-(j+1)) [(3,.slice a23 (r++[A0 s]).length c23),(8,.int .i64 (j+1))] (h'':=.row (.slice a23 (r++[A0 s]).length c23) 97 4 (r++[A0 s]).length (fl A3 (r++[A0 s]))::h) (by omega) ?_ Su Sb ⟨a23,c23,r++[A0 s],j+1,⟨⟨by omega,by omega⟩,by rw[htk,hJ]⟩,rfl,rfl,rfl⟩);exact Su;rw[List.take_of_length_le (by omega)]at hJ;subst hJ;refine ZZ [0,2,0] ?_;refine wT (.row (.slice a3 (l.map A0).length c3) 97 4 (l.map A0).length (fl A3 (l.map A0))::h) ?_;exact⟨_,_,_,rfl,rfl,rfl⟩
theorem M5{m:View}(hg:Glob m)(e:Ex)(h:List Res)(hE:EOk m h e):CT prog 65 [exV e] h m (λv _ h'=>OwT h (C2 e) v h'):=by
 refine cB [1,2,3] func65 λ_=>?_;refine xX λb1=>?_
 refine ZZ [1,1] ?_;refine xg (E1 Et) (c5u hg e _ (hE.t.mono Sb) hE.w) ?_;rintro _ _ ⟨a7,c7,rfl,rfl⟩;refine ZZ [5,2,0] ?_;refine wT (.row (.slice a7 (C2 e).length c7) 97 4 (C2 e).length (fl A3 (C2 e))::h) ?_;exact⟨_,_,_,rfl,rfl,rfl⟩
theorem a2H{m:View}(hg:Glob m)(t:Ty)(h:List Res)(hs:t.proto.length<=9223372036854775807):CT prog 64 [tyV t] h m (λv _ h'=>OwT h (G5 t) v h'):=by
 refine cB [1,2,3] func64 λ_=>?_;refine xX λb1=>?_
 refine ZZ [1,1] ?_;refine xg (E1 Et) (Ty9.tokens_ct t _ _ hg hs) ?_;rintro _ _ ⟨a7,c7,rfl,rfl⟩;refine ZZ [5,2,0] ?_;refine wT (.row (.slice a7 (G5 t).length c7) 97 4 (G5 t).length (fl A3 (G5 t))::h) ?_;exact⟨_,_,_,rfl,rfl,rfl⟩
theorem b5K{m:View}(hg:Glob m)(k:Int)(h:List Res):CT prog 69 [.int .u8 k] h m (λv _ h'=>OwT h (L9 k) v h'):=by
 refine cB [0,2] func69 λ_=>?_;refine ZZ [1,2] ?_;refine xg (E1 Et) (a2H hg ⟨k,0,0,[]⟩ _ (Nat.zero_le _)) ?_;rintro _ _ ⟨a5,c5,k5,hk5,rfl,rfl⟩;refine Z1 ?_;refine wT (.row (.slice a5 k5 c5) 97 4 k5 (fl A3 (L9 k))::h) ?_;exact⟨_,_,_,hk5,rfl,rfl⟩
theorem a4d{m:View}(q:FuncId)(f:Ex->List Tok)(sep:B)(a:Option Addr)(k c:Nat)(l:List Ex)(h:List Res)(hs:Rd m h a k c 6 (fl exE l))(hk:k<=3000)(hb:∀x∈l,(f x).length<=3000)
 (ht:∀x∈l,∀h',h.Sublist h'->CT prog q [exV x] h' m (λv _ h2=>OwT h' (f x) v h2)) :
 CT prog 73 [.slice a k c,str sep,.func (.func q) #[] #[]] h m (λv _ h'=>OwT h (B6 sep f l) v h'):=by
 have hlen:=hs.lenF a1h (by decide);subst hlen;refine cB [0,1,2,6,7,8,9,10,11,12,13] func73 λ_=>?_;refine Z1 ?_;refine WL.addNil 97 4 ?_;refine ZZ [1,3,0] ?_;refine B1 [1,2,10,11] rfl (λμ F' h'=>∃a7:Option Addr,∃c7:Nat,∃r:List Tok,∃j:Nat,((j<=l.length/\r.length<=j*3001)/\r=B6 sep f (l.take j))/\l.length-j=μ/\F'=[(7,.slice a7 r.length c7),(12,.int .i64 j)]/\.row (.slice a7 r.length c7) 97 4 r.length (fl A3 r)::h=h') (l.length-0) [(7,.slice none ([]).length 0),(12,.int .i64 0)] (h0:=.row (.slice none ([]).length 0) 97 4 ([]).length (fl A3 ([]))::h) ?_ Sb ⟨none,0,[],0,⟨⟨by omega,by simp⟩,rfl⟩,rfl,rfl,rfl⟩ ?_;exact Su;rintro _ _ _ ⟨a7,c7,r,j,⟨⟨hj,hr⟩,hJ⟩,rfl,rfl,rfl⟩;refine B2 rfl ?_;refine Z1 ?_;refine wD ?_ ?_<;>intro c13
 obtain⟨x,hx⟩:=A5 (l:=l) (k:=j) (by omega);have hxm:=List.mem_of_getElem? hx;have hfx:=hb x hxm;have htk:=U5 hx;have h3:j*3001<=9000000:=by omega
 refine ZZ [0,3] ?_;refine xW λb9=>?_;refine Z2 ?_;refine kP2 [1,2,7,9,10,11,12,18] ?_;refine F4 KKh [1,2,9,10,11,12] rfl (λF' h'=>∃a8:Option Addr,∃c8:Nat,∃r2:List Tok,(r2.length<=r.length+1/\r2++f x=B6 sep f (l.take (j+1)))/\F'=[(7,.slice a8 r2.length c8)]/\.pt b9 (.cells (exE x).toArray 28 (0,0))::.row (.slice a8 r2.length c8) 97 4 r2.length (fl A3 r2)::h=h') ?_ ?_;refine jE ?_;refine wD ?_ ?_<;>intro c18
 have hln:(r++[(⟨5,0,sep,0⟩:Tok)]).length=r.length+1:=List.length_append;refine kA2 ?_;refine xf (E1 Et) (K0 _ _ _) ?_;refine xY B3 Eb λb22=>?_;refine xD B3 (Ev.tmp rfl) (Ev.tmp rfl) (show r.length+1=(r++[(⟨5,0,sep,0⟩:Tok)]).length by simp) (D4 (enc:=A3) _ (⟨5,0,sep,0⟩)) λa23 c23=>?_
 refine kA1 ?_;refine WL.nil (B4 [(7,.slice a23 (r++[(⟨5,0,sep,0⟩:Tok)]).length c23)] (h'':=.pt b9 (.cells (exE x).toArray 28 (0,0))::.row (.slice a23 (r++[(⟨5,0,sep,0⟩:Tok)]).length c23) 97 4 (r++[(⟨5,0,sep,0⟩:Tok)]).length (fl A3 (r++[(⟨5,0,sep,0⟩:Tok)]))::h) ?_ Su Sb ⟨a23,c23,r++[(⟨5,0,sep,0⟩:Tok)],⟨by omega,by rw[htk,V6 sep f _ x (by intro q;have:=congrArg List.length q;rw[List.length_take]at this;simp only[List.length_nil]at this;omega),<-hJ,List.append_assoc];rfl⟩,rfl,rfl⟩);exact Su;have hj0:j=0:=by omega
 subst hj0;have hr0:r=[]:=hJ;subst hr0;refine WC.skip (B4 [(7,.slice a7 ([]).length c7)] (h'':=.pt b9 (.cells (exE x).toArray 28 (0,0))::.row (.slice a7 ([]).length c7) 97 4 ([]).length (fl A3 ([]))::h) ?_ Su Sb ⟨a7,c7,[],⟨by simp,by rw[htk];rfl⟩,rfl,rfl⟩);exact Su;rintro _ _ ⟨a8,c8,r2,⟨hr2,hJ2⟩,rfl,rfl⟩;refine B2 rfl ?_;refine kA3 ?_;refine I3 (Ev.tmp rfl) (E1 (Ev.tmp rfl)) (ht x hxm _ Sb) Lb ?_;rintro _ _ ⟨a27,c27,k27,e27,rfl,rfl⟩;refine kR a27 λp27 q27 r27=>?_;have hln:(r2++f x).length=r2.length+k27:=by rw[List.length_append,e27]
 refine xD B3 (Ev.tmp rfl) (Ev.tmp rfl) (show r2.length+k27=(r2++f x).length from hln.symm) (Q8 (enc:=A3) r2 (f x)).symm λa28 c28=>?_;refine ZZ [1,2] ?_;refine WL.nil (A6 (l.length-(j+1)) [(7,.slice a28 (r2++f x).length c28),(12,.int .i64 (j+1))] (h'':=.row (.slice a28 (r2++f x).length c28) 97 4 (r2++f x).length (fl A3 (r2++f x))::h) (by omega) ?_ Su Sb ⟨a28,c28,r2++f x,j+1,⟨⟨by omega,by omega⟩,hJ2⟩,rfl,rfl,rfl⟩);exact Su;rw[List.take_of_length_le (by omega)]at hJ;subst hJ;refine ZZ [0,2,0] ?_;refine wT (.row (.slice a7 (B6 sep f l).length c7) 97 4 (B6 sep f l).length (fl A3 (B6 sep f l))::h) ?_;exact⟨_,_,_,rfl,rfl,rfl⟩
theorem b9o{m:View}(q:FuncId)(f:Fo->List Tok)(sep:B)(a:Option Addr)(k c:Nat)(l:List Fo)(h:List Res)(hs:Rd m h a k c 6 (fl foE l))(hk:k<=3000)(hb:∀x∈l,(f x).length<=3000)
 (ht:∀x∈l,∀h',h.Sublist h'->CT prog q [foV x] h' m (λv _ h2=>OwT h' (f x) v h2)) :
 CT prog 66 [.slice a k c,str sep,.func (.func q) #[] #[]] h m (λv _ h'=>OwT h (B6 sep f l) v h'):=by
 have hlen:=hs.lenF a2w (by decide);subst hlen;refine cB [0,1,2,6,7,8,9,10,11,12,13] func66 λ_=>?_;refine Z1 ?_;refine WL.addNil 97 4 ?_;refine ZZ [1,3,0] ?_;refine B1 [1,2,10,11] rfl (λμ F' h'=>∃a7:Option Addr,∃c7:Nat,∃r:List Tok,∃j:Nat,((j<=l.length/\r.length<=j*3001)/\r=B6 sep f (l.take j))/\l.length-j=μ/\F'=[(7,.slice a7 r.length c7),(12,.int .i64 j)]/\.row (.slice a7 r.length c7) 97 4 r.length (fl A3 r)::h=h') (l.length-0) [(7,.slice none ([]).length 0),(12,.int .i64 0)] (h0:=.row (.slice none ([]).length 0) 97 4 ([]).length (fl A3 ([]))::h) ?_ Sb ⟨none,0,[],0,⟨⟨by omega,by simp⟩,rfl⟩,rfl,rfl,rfl⟩ ?_;exact Su;rintro _ _ _ ⟨a7,c7,r,j,⟨⟨hj,hr⟩,hJ⟩,rfl,rfl,rfl⟩;refine B2 rfl ?_;refine Z1 ?_;refine wD ?_ ?_<;>intro c13
 obtain⟨x,hx⟩:=A5 (l:=l) (k:=j) (by omega);have hxm:=List.mem_of_getElem? hx;have hfx:=hb x hxm;have htk:=U5 hx;have h3:j*3001<=9000000:=by omega
 refine ZZ [0,3] ?_;refine xW λb9=>?_;refine Z2 ?_;refine kP2 [1,2,7,9,10,11,12,18] ?_;refine F4 KKh [1,2,9,10,11,12] rfl (λF' h'=>∃a8:Option Addr,∃c8:Nat,∃r2:List Tok,(r2.length<=r.length+1/\r2++f x=B6 sep f (l.take (j+1)))/\F'=[(7,.slice a8 r2.length c8)]/\.pt b9 (.cells (foE x).toArray 129 (0,0))::.row (.slice a8 r2.length c8) 97 4 r2.length (fl A3 r2)::h=h') ?_ ?_;refine jE ?_;refine wD ?_ ?_<;>intro c18
 have hln:(r++[(⟨5,0,sep,0⟩:Tok)]).length=r.length+1:=List.length_append;refine kA2 ?_;refine xf (E1 Et) (K0 _ _ _) ?_;refine xY B3 Eb λb22=>?_;refine xD B3 (Ev.tmp rfl) (Ev.tmp rfl) (show r.length+1=(r++[(⟨5,0,sep,0⟩:Tok)]).length by simp) (D4 (enc:=A3) _ (⟨5,0,sep,0⟩)) λa23 c23=>?_
 refine kA1 ?_;refine WL.nil (B4 [(7,.slice a23 (r++[(⟨5,0,sep,0⟩:Tok)]).length c23)] (h'':=.pt b9 (.cells (foE x).toArray 129 (0,0))::.row (.slice a23 (r++[(⟨5,0,sep,0⟩:Tok)]).length c23) 97 4 (r++[(⟨5,0,sep,0⟩:Tok)]).length (fl A3 (r++[(⟨5,0,sep,0⟩:Tok)]))::h) ?_ Su Sb ⟨a23,c23,r++[(⟨5,0,sep,0⟩:Tok)],⟨by omega,by rw[htk,V6 sep f _ x (by intro q;have:=congrArg List.length q;rw[List.length_take]at this;simp only[List.length_nil]at this;omega),<-hJ,List.append_assoc];rfl⟩,rfl,rfl⟩);exact Su;have hj0:j=0:=by omega
 subst hj0;have hr0:r=[]:=hJ;subst hr0;refine WC.skip (B4 [(7,.slice a7 ([]).length c7)] (h'':=.pt b9 (.cells (foE x).toArray 129 (0,0))::.row (.slice a7 ([]).length c7) 97 4 ([]).length (fl A3 ([]))::h) ?_ Su Sb ⟨a7,c7,[],⟨by simp,by rw[htk];rfl⟩,rfl,rfl⟩);exact Su;rintro _ _ ⟨a8,c8,r2,⟨hr2,hJ2⟩,rfl,rfl⟩;refine B2 rfl ?_;refine kA3 ?_;refine I3 (Ev.tmp rfl) (E1 (Ev.tmp rfl)) (ht x hxm _ Sb) Lb ?_;rintro _ _ ⟨a27,c27,k27,e27,rfl,rfl⟩;refine kR a27 λp27 q27 r27=>?_;have hln:(r2++f x).length=r2.length+k27:=by rw[List.length_append,e27]
 refine xD B3 (Ev.tmp rfl) (Ev.tmp rfl) (show r2.length+k27=(r2++f x).length from hln.symm) (Q8 (enc:=A3) r2 (f x)).symm λa28 c28=>?_;refine ZZ [1,2] ?_;refine WL.nil (A6 (l.length-(j+1)) [(7,.slice a28 (r2++f x).length c28),(12,.int .i64 (j+1))] (h'':=.row (.slice a28 (r2++f x).length c28) 97 4 (r2++f x).length (fl A3 (r2++f x))::h) (by omega) ?_ Su Sb ⟨a28,c28,r2++f x,j+1,⟨⟨by omega,by omega⟩,hJ2⟩,rfl,rfl,rfl⟩);exact Su;rw[List.take_of_length_le (by omega)]at hJ;subst hJ;refine ZZ [0,2,0] ?_;refine wT (.row (.slice a7 (B6 sep f l).length c7) 97 4 (B6 sep f l).length (fl A3 (B6 sep f l))::h) ?_;exact⟨_,_,_,rfl,rfl,rfl⟩
theorem b9y{m:View}(q:FuncId)(f:B->List Tok)(sep:B)(a:Option Addr)(k c:Nat)(l:List B)(h:List Res)(hs:Rd m h a k c 1 (fl encB l))(hk:k<=3000)(hb:∀x∈l,(f x).length<=3000)
 (ht:∀x∈l,∀h',h.Sublist h'->CT prog q [str x] h' m (λv _ h2=>OwT h' (f x) v h2)) :
 CT prog 62 [.slice a k c,str sep,.func (.func q) #[] #[]] h m (λv _ h'=>OwT h (B6 sep f l) v h'):=by
 have hlen:=hs.lenF encB_len (by decide);subst hlen;refine cB [0,1,2,6,7,8,9,10,11,12,13] func62 λ_=>?_;refine Z1 ?_;refine WL.addNil 97 4 ?_;refine ZZ [1,3,0] ?_;refine B1 [1,2,10,11] rfl (λμ F' h'=>∃a7:Option Addr,∃c7:Nat,∃r:List Tok,∃j:Nat,((j<=l.length/\r.length<=j*3001)/\r=B6 sep f (l.take j))/\l.length-j=μ/\F'=[(7,.slice a7 r.length c7),(12,.int .i64 j)]/\.row (.slice a7 r.length c7) 97 4 r.length (fl A3 r)::h=h') (l.length-0) [(7,.slice none ([]).length 0),(12,.int .i64 0)] (h0:=.row (.slice none ([]).length 0) 97 4 ([]).length (fl A3 ([]))::h) ?_ Sb ⟨none,0,[],0,⟨⟨by omega,by simp⟩,rfl⟩,rfl,rfl,rfl⟩ ?_;exact Su;rintro _ _ _ ⟨a7,c7,r,j,⟨⟨hj,hr⟩,hJ⟩,rfl,rfl,rfl⟩;refine B2 rfl ?_;refine Z1 ?_;refine wD ?_ ?_<;>intro c13
 obtain⟨x,hx⟩:=A5 (l:=l) (k:=j) (by omega);have hxm:=List.mem_of_getElem? hx;have hfx:=hb x hxm;have htk:=U5 hx;have h3:j*3001<=9000000:=by omega
 refine ZZ [0,5,0] ?_;refine kP2 [1,2,7,9,10,11,12,18] ?_;refine F4 KKh [1,2,9,10,11,12] rfl (λF' h'=>∃a8:Option Addr,∃c8:Nat,∃r2:List Tok,(r2.length<=r.length+1/\r2++f x=B6 sep f (l.take (j+1)))/\F'=[(7,.slice a8 r2.length c8)]/\.row (.slice a8 r2.length c8) 97 4 r2.length (fl A3 r2)::h=h') ?_ ?_;refine jE ?_;refine wD ?_ ?_<;>intro c18
 have hln:(r++[(⟨5,0,sep,0⟩:Tok)]).length=r.length+1:=List.length_append;refine kA2 ?_;refine xf (E1 Et) (K0 _ _ _) ?_;refine xY B3 Eb λb22=>?_;refine xD B3 (Ev.tmp rfl) (Ev.tmp rfl) (show r.length+1=(r++[(⟨5,0,sep,0⟩:Tok)]).length by simp) (D4 (enc:=A3) _ (⟨5,0,sep,0⟩)) λa23 c23=>?_
 refine kA1 ?_;refine WL.nil (B4 [(7,.slice a23 (r++[(⟨5,0,sep,0⟩:Tok)]).length c23)] (h'':=.row (.slice a23 (r++[(⟨5,0,sep,0⟩:Tok)]).length c23) 97 4 (r++[(⟨5,0,sep,0⟩:Tok)]).length (fl A3 (r++[(⟨5,0,sep,0⟩:Tok)]))::h) ?_ Su Sb ⟨a23,c23,r++[(⟨5,0,sep,0⟩:Tok)],⟨by omega,by rw[htk,V6 sep f _ x (by intro q;have:=congrArg List.length q;rw[List.length_take]at this;simp only[List.length_nil]at this;omega),<-hJ,List.append_assoc];rfl⟩,rfl,rfl⟩);exact Su;have hj0:j=0:=by omega
 subst hj0;have hr0:r=[]:=hJ;subst hr0;refine WC.skip (B4 [(7,.slice a7 ([]).length c7)] (h'':=.row (.slice a7 ([]).length c7) 97 4 ([]).length (fl A3 ([]))::h) ?_ Su Sb ⟨a7,c7,[],⟨by simp,by rw[htk];rfl⟩,rfl,rfl⟩);exact Su;rintro _ _ ⟨a8,c8,r2,⟨hr2,hJ2⟩,rfl,rfl⟩;refine B2 rfl ?_;refine kA3 ?_;refine I3 (Ev.tmp rfl) (E1 (Ev.tmp rfl)) (ht x hxm _ Sb) Lb ?_;rintro _ _ ⟨a27,c27,k27,e27,rfl,rfl⟩;refine kR a27 λp27 q27 r27=>?_;have hln:(r2++f x).length=r2.length+k27:=by rw[List.length_append,e27]
 refine xD B3 (Ev.tmp rfl) (Ev.tmp rfl) (show r2.length+k27=(r2++f x).length from hln.symm) (Q8 (enc:=A3) r2 (f x)).symm λa28 c28=>?_;refine ZZ [1,2] ?_;refine WL.nil (A6 (l.length-(j+1)) [(7,.slice a28 (r2++f x).length c28),(12,.int .i64 (j+1))] (h'':=.row (.slice a28 (r2++f x).length c28) 97 4 (r2++f x).length (fl A3 (r2++f x))::h) (by omega) ?_ Su Sb ⟨a28,c28,r2++f x,j+1,⟨⟨by omega,by omega⟩,hJ2⟩,rfl,rfl,rfl⟩);exact Su;rw[List.take_of_length_le (by omega)]at hJ;subst hJ;refine ZZ [0,2,0] ?_;refine wT (.row (.slice a7 (B6 sep f l).length c7) 97 4 (B6 sep f l).length (fl A3 (B6 sep f l))::h) ?_;exact⟨_,_,_,rfl,rfl,rfl⟩
theorem b2g{m:View}(q:FuncId)(f:Int->List Tok)(sep:B)(a:Option Addr)(k c:Nat)(l:List Int)(h:List Res)(hs:Rd m h a k c 1 (fl M8 l))(hk:k<=3000)(hb:∀x∈l,(f x).length<=3000)
 (ht:∀x∈l,∀h',h.Sublist h'->CT prog q [.int .u8 x] h' m (λv _ h2=>OwT h' (f x) v h2)) :
 CT prog 68 [.slice a k c,str sep,.func (.func q) #[] #[]] h m (λv _ h'=>OwT h (B6 sep f l) v h'):=by
 have hlen:=hs.lenF D3 (by decide);subst hlen;refine cB [0,1,2,6,7,8,9,10,11,12,13] func68 λ_=>?_;refine Z1 ?_;refine WL.addNil 97 4 ?_;refine ZZ [1,3,0] ?_;refine B1 [1,2,10,11] rfl (λμ F' h'=>∃a7:Option Addr,∃c7:Nat,∃r:List Tok,∃j:Nat,((j<=l.length/\r.length<=j*3001)/\r=B6 sep f (l.take j))/\l.length-j=μ/\F'=[(7,.slice a7 r.length c7),(12,.int .i64 j)]/\.row (.slice a7 r.length c7) 97 4 r.length (fl A3 r)::h=h') (l.length-0) [(7,.slice none ([]).length 0),(12,.int .i64 0)] (h0:=.row (.slice none ([]).length 0) 97 4 ([]).length (fl A3 ([]))::h) ?_ Sb ⟨none,0,[],0,⟨⟨by omega,by simp⟩,rfl⟩,rfl,rfl,rfl⟩ ?_;exact Su;rintro _ _ _ ⟨a7,c7,r,j,⟨⟨hj,hr⟩,hJ⟩,rfl,rfl,rfl⟩;refine B2 rfl ?_;refine Z1 ?_;refine wD ?_ ?_<;>intro c13
 obtain⟨x,hx⟩:=A5 (l:=l) (k:=j) (by omega);have hxm:=List.mem_of_getElem? hx;have hfx:=hb x hxm;have htk:=U5 hx;have h3:j*3001<=9000000:=by omega
 refine ZZ [0,5,0] ?_;refine kP2 [1,2,7,9,10,11,12,18] ?_;refine F4 KKh [1,2,9,10,11,12] rfl (λF' h'=>∃a8:Option Addr,∃c8:Nat,∃r2:List Tok,(r2.length<=r.length+1/\r2++f x=B6 sep f (l.take (j+1)))/\F'=[(7,.slice a8 r2.length c8)]/\.row (.slice a8 r2.length c8) 97 4 r2.length (fl A3 r2)::h=h') ?_ ?_;refine jE ?_;refine wD ?_ ?_<;>intro c18
 have hln:(r++[(⟨5,0,sep,0⟩:Tok)]).length=r.length+1:=List.length_append;refine kA2 ?_;refine xf (E1 Et) (K0 _ _ _) ?_;refine xY B3 Eb λb22=>?_;refine xD B3 (Ev.tmp rfl) (Ev.tmp rfl) (show r.length+1=(r++[(⟨5,0,sep,0⟩:Tok)]).length by simp) (D4 (enc:=A3) _ (⟨5,0,sep,0⟩)) λa23 c23=>?_
 refine kA1 ?_;refine WL.nil (B4 [(7,.slice a23 (r++[(⟨5,0,sep,0⟩:Tok)]).length c23)] (h'':=.row (.slice a23 (r++[(⟨5,0,sep,0⟩:Tok)]).length c23) 97 4 (r++[(⟨5,0,sep,0⟩:Tok)]).length (fl A3 (r++[(⟨5,0,sep,0⟩:Tok)]))::h) ?_ Su Sb ⟨a23,c23,r++[(⟨5,0,sep,0⟩:Tok)],⟨by omega,by rw[htk,V6 sep f _ x (by intro q;have:=congrArg List.length q;rw[List.length_take]at this;simp only[List.length_nil]at this;omega),<-hJ,List.append_assoc];rfl⟩,rfl,rfl⟩);exact Su;have hj0:j=0:=by omega
 subst hj0;have hr0:r=[]:=hJ;subst hr0;refine WC.skip (B4 [(7,.slice a7 ([]).length c7)] (h'':=.row (.slice a7 ([]).length c7) 97 4 ([]).length (fl A3 ([]))::h) ?_ Su Sb ⟨a7,c7,[],⟨by simp,by rw[htk];rfl⟩,rfl,rfl⟩);exact Su;rintro _ _ ⟨a8,c8,r2,⟨hr2,hJ2⟩,rfl,rfl⟩;refine B2 rfl ?_;refine kA3 ?_;refine I3 (Ev.tmp rfl) (E1 (Ev.tmp rfl)) (ht x hxm _ Sb) Lb ?_;rintro _ _ ⟨a27,c27,k27,e27,rfl,rfl⟩;refine kR a27 λp27 q27 r27=>?_;have hln:(r2++f x).length=r2.length+k27:=by rw[List.length_append,e27]
 refine xD B3 (Ev.tmp rfl) (Ev.tmp rfl) (show r2.length+k27=(r2++f x).length from hln.symm) (Q8 (enc:=A3) r2 (f x)).symm λa28 c28=>?_;refine ZZ [1,2] ?_;refine WL.nil (A6 (l.length-(j+1)) [(7,.slice a28 (r2++f x).length c28),(12,.int .i64 (j+1))] (h'':=.row (.slice a28 (r2++f x).length c28) 97 4 (r2++f x).length (fl A3 (r2++f x))::h) (by omega) ?_ Su Sb ⟨a28,c28,r2++f x,j+1,⟨⟨by omega,by omega⟩,hJ2⟩,rfl,rfl,rfl⟩);exact Su;rw[List.take_of_length_le (by omega)]at hJ;subst hJ;refine ZZ [0,2,0] ?_;refine wT (.row (.slice a7 (B6 sep f l).length c7) 97 4 (B6 sep f l).length (fl A3 (B6 sep f l))::h) ?_;exact⟨_,_,_,rfl,rfl,rfl⟩
theorem a6M{α:Type}{p:α->Prop}{x:α}(h:p x):∀y∈[x],p y:=λ_ hy=>(List.mem_singleton.1 hy)▸h
theorem _root_.Go.Pc.EOk.fr{m:View}{h:List Res}{e:Ex}(q:EOk m h e)(fr:List Res):EOk m (fr++h) e:=q.mono (List.sublist_append_right fr h)
theorem F6{α:Type}{p:α->Prop}:∀y∈([]:List α),p y:=λ_ hx=>(List.not_mem_nil hx).elim
theorem A9{α:Type}{p:α->Prop}{x:α}{l:List α}(h:p x)(r:∀y∈l,p y):∀y∈x::l,p y:=λy hy=>by
 rcases List.mem_cons.1 hy with rfl|hy
 ·exact h
 ·exact r y hy
theorem b4x{m:View}(hg:Glob m)(s:B)(hw:s.length<=1000)(a:Option Addr)(k c:Nat)(l:List Tok)(h:List Res)(hs:Rd m h a k c 4 (fl A3 l))(hk:k<=9000000):CT prog 70 [str s,.slice a k c] h m (λv _ h'=>OwT h (M9 s l) v h'):=by
 have hlen:=hs.lenF B8 (by decide);subst hlen;refine cB [0,1,4,7] func70 λ_=>?_;refine WL.addNil 97 4 ?_;refine ZZ [1,3,0] ?_;refine wE ?_ ?_<;>intro c7
 have e7:M9 s l=[]:=by unfold M9;rw[if_pos (by omega)]
 refine j0 ?_;refine WL.addNil 97 4 ?_;refine Z1 ?_;refine wT (.row (.slice none 0 0) 97 4 0 (fl A3 [])::h) ?_;rw[e7];exact⟨none,0,0,rfl,rfl,rfl⟩
 have e7:M9 s l=A0 s::l:=by unfold M9;rw[if_neg (by omega)]
 have hln:(A0 s::l).length=l.length+1:=rfl;refine ZZ [0,1] ?_;refine xY P6 Eb λb9=>?_;refine xJ (E1 Et) (D1 hg _ 1 _ [s] _ Rr (by decide) (a6M (Nat.le_trans hw (by decide)))) λa10 c10=>?_
 refine kA1 ?_;refine xD B3 (Ev.tmp rfl) (Ev.tmp rfl) (show 1+l.length=(A0 s::l).length by rw[hln,Nat.add_comm]) (Q8 (enc:=A3) [A0 s] l).symm λa12 c12=>?_;refine Z1 ?_;refine wT (.row (.slice a12 (A0 s::l).length c12) 97 4 (A0 s::l).length (fl A3 (A0 s::l))::h) ?_;rw[e7];exact⟨_,_,_,rfl,rfl,rfl⟩
theorem c5T(n:Nat)(h:List Res)(m:View)(hn:n<=300000):CT prog 149 [.slice none 0 0,.int .i64 n] h m (λv _ h'=>OwT h [] v h'):=by
 refine cB [0,1,4,6,16] func149 λ_=>?_;refine ZZ [1,2,0] ?_;refine wD ?_ ?_<;>intro c6
 omega;refine ZZ [0,2] ?_;refine xG (b4I a4J Et) ?_;refine kA2 ?_;refine xG (Q4 Et Et (by omega)) ?_;refine xG (Q4 Et Et (by omega)) ?_;refine ZZ [1,2,0] ?_;refine wD ?_ ?_<;>intro c16
 have hn0:0<n:=by omega
 refine kA2 ?_;refine xG (b4I a4J Et) ?_;refine xG (a7K B3.und B3.size Et Et rfl (by omega)) ?_;refine kA1 ?_;refine c2u B3 uu3 Et Et (q:=n) (by omega) (by omega) (by omega) (by omega) Lb λb22 c22 hq22 hc22=>?_;refine kA2 ?_;refine xG (a7K B3.und B3.size Et Et rfl (by omega)) ?_;refine ZZ [1,2,0] ?_;refine wT (.row (.slice (some ⟨b22,0,none⟩) 0 c22) 97 4 0 (fl A3 [])::h) ?_;exact⟨_,_,0,rfl,rfl,by rw[c8Q _ _ _ (.inr ⟨_,_,rfl⟩)]⟩;refine WC.addNil 97 4 ?_;refine ZZ [0,2,0] ?_;refine wT (.row (.slice none 0 0) 97 4 0 (fl A3 [])::h) ?_;exact⟨_,_,0,rfl,rfl,rfl⟩
def ptE(s:Sli Tok):List Value:=[.slice s.a s.l.length s.c]
theorem b3j(s:Sli Tok):(ptE s).length=1:=rfl
set_option linter.defProp false in
@[reducible,instance]def iptE_len:=Go.Eng.Ln.mk b3j (by decide)
theorem a5E(a:Option Addr)(k c:Nat)(ps:List (Sli Tok))(h:List Res)(m:View)(hs:Rd m h a k c 1 (fl ptE ps))(hp:∀p∈ps,Rd m h p.a p.l.length p.c 4 (fl A3 p.l))(hk:k<=10)(hb:∀p∈ps,p.l.length<=30000) :
 CT prog 75 [.slice a k c] h m (λv _ h'=>OwT h (ps.flatMap (·.l)) v h'):=by
 have hlen:=hs.lenF b3j (by decide);subst hlen;refine cB [0,2,3,5,6,8,9,10,11,12,20,25,26,27,28] func75 λ_=>?_;refine ZZ [1,1,3,0] ?_;refine B1 [0,9,10] rfl (λμ F' h'=>∃s:Nat,∃j:Nat,(j<=ps.length/\s<=j*30000)/\ps.length-j=μ/\F'=[(3,.int .i64 s),(11,.int .i64 j)]/\h=h') (ps.length-0) [(3,.int .i64 0),(11,.int .i64 0)] (h0:=h) ?_ Sb ⟨0,0,⟨by omega,by omega⟩,rfl,rfl,rfl⟩ ?_;exact Su;rintro _ _ _ ⟨s,j,⟨hj,hs1⟩,rfl,rfl,rfl⟩;refine B2 rfl ?_;refine Z1 ?_;refine wD ?_ ?_<;>intro c12
 obtain⟨p,hx⟩:=A5 (l:=ps) (k:=j) (by omega);have hbp:=hb p (List.mem_of_getElem? hx);refine ZZ [0,3,3] ?_;refine xG (L6 Et Et (by omega)) ?_;refine WL.val (v':=.int .i64 ((s+p.l.length:Nat):Int)) (congrArg (Value.int .i64) (by omega)) ?_;refine ZZ [1,2,0] ?_;refine wD ?_ ?_<;>intro c20
 omega;refine ZZ [0,2] ?_;refine WL.nil (A6 (ps.length-(j+1)) [(3,.int .i64 (s+p.l.length)),(11,.int .i64 (j+1))] (h'':=h) (by omega) ?_ Su Sb ⟨s+p.l.length,j+1,⟨by omega,by omega⟩,rfl,rfl,rfl⟩);exact Su;refine ZZ [0,1] ?_;refine xJ (E2 Ek Et) (c5T s _ _ (by omega)) λa24 c24=>?_;refine ZZ [1,3,0] ?_;refine B1 [25,26] rfl (λμ F' h'=>∃a6:Option Addr,∃c6:Nat,∃r:List Tok,∃j:Nat,((j<=ps.length/\r.length<=j*30000)/\r=(ps.take j).flatMap (·.l))/\ps.length-j=μ/\F'=[(6,.slice a6 r.length c6),(27,.int .i64 j)]/\.row (.slice a6 r.length c6) 97 4 r.length (fl A3 r)::h=h') (ps.length-0) [(6,.slice a24 ([]).length c24),(27,.int .i64 0)] (h0:=.row (.slice a24 ([]).length c24) 97 4 ([]).length (fl A3 ([]))::h) ?_ Sb ⟨a24,c24,[],0,⟨⟨by omega,by simp⟩,rfl⟩,rfl,rfl,rfl⟩ ?_;exact Su;rintro _ _ _ ⟨a6,c6,r,j,⟨⟨hj,hr⟩,hJ⟩,rfl,rfl,rfl⟩;refine B2 rfl ?_;refine Z1 ?_;refine wD ?_ ?_<;>intro c28
 obtain⟨p,hx⟩:=A5 (l:=ps) (k:=j) (by omega);have hbp:=hb p (List.mem_of_getElem? hx);have hpr:=hp p (List.mem_of_getElem? hx);have htk:(ps.take (j+1)).flatMap (·.l)=(ps.take j).flatMap (·.l)++p.l:=by rw[U5 hx,List.flatMap_append];simp
 refine ZZ [0,3,2] ?_;have hln:(r++p.l).length=r.length+p.l.length:=List.length_append;refine xD B3 (Ev.tmp rfl) (Ev.tmp rfl) (show r.length+p.l.length=(r++p.l).length from hln.symm) (Q8 (enc:=A3) r p.l).symm λa33 c33=>?_;refine ZZ [1,2] ?_;refine WL.nil (A6 (ps.length-(j+1)) [(6,.slice a33 (r++p.l).length c33),(27,.int .i64 (j+1))] (h'':=.row (.slice a33 (r++p.l).length c33) 97 4 (r++p.l).length (fl A3 (r++p.l))::h) (by omega) ?_ Su Sb ⟨a33,c33,r++p.l,j+1,⟨⟨by omega,by omega⟩,by rw[htk,hJ]⟩,rfl,rfl,rfl⟩);exact Su;rw[List.take_of_length_le (by omega)]at hJ;subst hJ;refine ZZ [0,2,0] ?_;refine wT (.row (.slice a6 (ps.flatMap (·.l)).length c6) 97 4 (ps.flatMap (·.l)).length (fl A3 (ps.flatMap (·.l)))::h) ?_;exact⟨_,_,_,rfl,rfl,rfl⟩
end
section
open Go.Eng Go.Pc Go.Sx Go
open Go.Xp hiding B C9
open Go.Ty (Ty Vr Tok eqT tyV I7 A3 B8 O4 zeroK M8 D3 encV D2)
open Go.Lx (encB encB_len textO)
open Go.Ly (Rw P4 F9)
theorem a2s{d:Prop}{m:View}{R:Value->View->List Res->Prop}{c:List PanicEntry}{w:World}(h:d/\RQ m R (.panicked c) w):False:=by obtain⟨_,_,_,_,e,_⟩:=h;cases e
theorem H1(e:Ex):(C2 e).length<=2000:=by
 unfold C2;split
 ·rename_i hm
  obtain⟨hF,hc⟩:=a46 hm;have:=X7 e hF;omega
 ·exact Nat.zero_le _
theorem a03(t:Ty):(G5 t).length<=10:=by
 unfold G5 Go.Ty.tokens;split
 ·unfold Go.Ty.toks
  have h1:=Go.Ty.dimT_le t;have h2:=Go.Ty.chanT_le t;simp only[List.length_append,List.length_singleton];omega
 ·exact Nat.zero_le _
theorem c4s{m:View}(hg:Glob m)(r:Rp)(h:List Res)(hr:Rs m h r):CT prog 71 [rpV r] h m (λv _ h'=>OwT h (a1q r) v h'):=by
 have hB:=hr.b;have hC:=hr.c;have t1:=H1 r.base;have t2:=H1 r.count;refine cB [1,2,5] func71 λ_=>?_;refine xX λb1=>?_
 refine ZZ [1,2] ?_;refine xG (H3 Et Ek) ?_;refine Z0 ?_;refine wc ?_ ?_<;>intro c5
 have c5:r.name=[]:=by simpa using c5
 have e5:a1q r=[]:=by unfold a1q;rw[if_pos c5]
 refine WC.addNil 97 4 ?_;refine Z1 ?_;refine wT (.row (.slice none 0 0) 97 4 0 (fl A3 [])::h) ?_;rw[e5];exact⟨none,0,0,rfl,rfl,rfl⟩
 have c5:¬(r.name=[]):=by simpa using c5
 have e5:a1q r=[E6 r.name]++([A0 [61]]++(C2 r.base++([A0 [70,79,82]]++(C2 r.count++[])))):=by unfold a1q;rw[if_neg c5];simp only[List.append_assoc,List.append_nil]
 refine Z0 ?_;refine a1g [2,3,4,7,8,9,4096] (.op 0 (.op 1 (.op 5 (.op 6 (.op 10 (.op 11 (.op 2 (.op 3 (.op 4 (.op 7 (.op 8 (.op 9 .nil)))))))))))) [12,13,14,15] _ [] C4 (λ_ _ _ h=>a2s h) [] (by kernel_rfl) ?_;refine kA6 ?_;refine C5 rfl rfl Ef (E1 Et) (λfr=>a2W r.name _ _) Lb λa8 c8=>?_;refine sB rfl P6 λb9=>?_
 refine C5 rfl rfl Ef (E1 (Ev.tmp rfl)) (λfr=>D1 hg _ 1 _ [[61]] _ (Rd.fr Rr fr) (by decide) (a6M (by decide))) Lb λa10 c10=>?_;refine C5 rfl rfl Ef (E1 Et) (λfr=>M5 hg r.base _ ((hB.mono Sb).fr fr)) Lb λa13 c13=>?_
 refine sB rfl P6 λb14=>?_;refine C5 rfl rfl Ef (E1 (Ev.tmp rfl)) (λfr=>D1 hg _ 1 _ [[70,79,82]] _ (Rd.fr Rr fr) (by decide) (a6M (by decide))) Lb λa15 c15=>?_
 refine SR.nil rfl rfl ?_;refine xJ (E1 Et) (M5 hg r.count _ (hC.mono Sb)) λa18 c18=>?_;refine xY H9 Eb λb19=>?_
 refine kR a8 λp8 q8 r8=>?_;refine kR a10 λp10 q10 r10=>?_
 refine kR a13 λp13 q13 r13=>?_;refine kR a15 λp15 q15 r15=>?_
 refine kR a18 λp18 q18 r18=>?_;refine xJ (E1 Et) (a5E _ 5 _ [⟨a8,c8,[E6 r.name]⟩,⟨a10,c10,[A0 [61]]⟩,⟨a13,c13,C2 r.base⟩,⟨a15,c15,[A0 [70,79,82]]⟩,⟨a18,c18,C2 r.count⟩] _ _ (Rd.ofPt rfl (by decide) Me) (A9 (iR r8 p8 q8) (A9 (iR r10 p10 q10) (A9 (iR r13 p13 q13) (A9 (iR r15 p15 q15) (A9 (iR r18 p18 q18) F6))))) (by decide) (A9 (by simp) (A9 (by simp) (A9 (by simp;omega) (A9 (by simp) (A9 (by simp;omega) F6)))))) λa20 c20=>?_
 refine Z1 ?_;refine wT (.row (.slice a20 _ c20) 97 4 _ (fl A3 _)::h) ?_;exact⟨_,_,_,congrArg List.length e5.symm,rfl,by rw[e5];rfl⟩
theorem b6E{m:View}(hg:Glob m)(f:Fo)(h:List Res)(hw:FoW f):CT prog 67 [foV f] h m (λv _ h'=>OwT h (M3 f) v h'):=by
 have t1:=a03 f.ty;have hp2:f.ty.proto.length<=9223372036854775807:=Nat.le_trans hw.t.p (by decide);refine cB [1,2,3,5] func67 λ_=>?_;refine xX λb1=>?_
 refine ZZ [1,1,2,0] ?_;refine wc ?_ ?_<;>intro c5
 have e5:M3 f=[A0 [86,65,76]]++(G5 f.ty++([E6 f.name]++[])):=by unfold M3;rw[if_pos c5];simp only[List.append_assoc,List.append_nil]
 refine j0 ?_;refine xY P6 Eb λb6=>?_;refine xJ (E1 Et) (D1 hg _ 1 _ [[86,65,76]] _ Rr (by decide) (a6M (by decide))) λa7 c7=>?_
 refine Z1 ?_;refine F3 [3] (.op 0 (.op 1 (.op 2 (.op 4 (.op 5 (.op 3 .nil)))))) [6,7,8,9] _ [] C4 (λ_ _ _ _ _ h=>h) [0] (by kernel_rfl) ?_;refine kA5 ?_;refine C5 rfl rfl Ef (E1 Et) (λfr=>a2H hg f.ty _ hp2) Lb λa11 c11=>?_;refine SR.nil rfl rfl ?_;refine xJ (E1 Et) (a2W f.name _ _) λa14 c14=>?_
 refine xY H9 Eb λb15=>?_;refine kR a7 λp7 q7 r7=>?_
 refine kR a11 λp11 q11 r11=>?_;refine kR a14 λp14 q14 r14=>?_
 refine xJ (E1 Et) (a5E _ 3 _ [⟨a7,c7,[A0 [86,65,76]]⟩,⟨a11,c11,G5 f.ty⟩,⟨a14,c14,[E6 f.name]⟩] _ _ (Rd.ofPt rfl (by decide) Me) (A9 (iR r7 p7 q7) (A9 (iR r11 p11 q11) (A9 (iR r14 p14 q14) F6))) (by decide) (A9 (by simp) (A9 (by simp;omega) (A9 (by simp) F6)))) λa16 c16=>?_;refine Z1 ?_;refine wT (.row (.slice a16 _ c16) 97 4 _ (fl A3 _)::h) ?_;exact⟨_,_,_,congrArg List.length e5.symm,rfl,by rw[e5];rfl⟩;have e5:M3 f=[]++(G5 f.ty++([E6 f.name]++[])):=by unfold M3;rw[if_neg (J8 c5)];simp only[List.append_assoc,List.append_nil]
 refine Z0 ?_;refine F3 [3] (.op 0 (.op 1 (.op 2 (.op 4 (.op 5 (.op 3 .nil)))))) [6,7,8,9] _ [] C4 (λ_ _ _ _ _ h=>h) [0] (by kernel_rfl) ?_;refine kA5 ?_;refine C5 rfl rfl Ef (E1 Et) (λfr=>a2H hg f.ty _ hp2) Lb λa11 c11=>?_;refine SR.nil rfl rfl ?_;refine xJ (E1 Et) (a2W f.name _ _) λa14 c14=>?_
 refine xY H9 Eb λb15=>?_;refine kR a11 λp11 q11 r11=>?_
 refine kR a14 λp14 q14 r14=>?_;refine xJ (E1 Et) (a5E _ 3 _ [⟨none,0,[]⟩,⟨a11,c11,G5 f.ty⟩,⟨a14,c14,[E6 f.name]⟩] _ _ (Rd.ofPt rfl (by decide) Me) (A9 (Rd.nilF A3 4 _ _) (A9 (iR r11 p11 q11) (A9 (iR r14 p14 q14) F6))) (by decide) (A9 (by simp) (A9 (by simp;omega) (A9 (by simp) F6)))) λa16 c16=>?_
 refine Z1 ?_;refine wT (.row (.slice a16 _ c16) 97 4 _ (fl A3 _)::h) ?_;exact⟨_,_,_,congrArg List.length e5.symm,rfl,by rw[e5];rfl⟩
abbrev prB(b:Nat)(a:Option Addr)(c:Nat)(st:Ps):Res:=.pt b (.cells [.slice a st.1.length c,.bool st.2].toArray 62 (0,0))
abbrev prW(a:Option Addr)(c:Nat)(st:Ps):Res:=.row (.slice a st.1.length c) 52 3 st.1.length (fl P4 st.1)
theorem W8{st:Ps}{x:Ln}(h:st.1.length<=2049):(C8 st x).1.length<=2049:=by
 unfold C8;split
 ·exact h
 ·rename_i q
  simp only[List.length_append,List.length_singleton];omega
theorem a0R:∀(l:List Ln){st:Ps},st.1.length<=2049->(C1 st l).1.length<=2049
 | [],_,h=>h
 |x::l,_,h=>a0R l (W8 (x:=x) h)
abbrev PrR(b:Nat)(h:List Res)(st:Ps)(h':List Res):Prop:=∃a c,h'=prB b a c st::prW a c st::h
theorem I6{m:View}(hg:Glob m)(hp:Pow m)(b:Nat)(a:Option Addr)(c:Nat)(st:Ps)(d:Int)(pa:Option Addr)(pk pc:Nat)(ps:List (Sli Tok))(toks:List Tok)(h:List Res)(hs:Rd m h pa pk pc 1 (fl ptE ps))(hps:∀p∈ps,Rd m h p.a p.l.length p.c 4 (fl A3 p.l))(hk:pk<=10)
 (hb:∀p∈ps,p.l.length<=30000) (he:ps.flatMap (·.l)=toks) (hT:TkL toks) (hn:st.1.length<=2049) :
 CT prog 34 [ptV b,.int .i64 d,.slice pa pk pc] (prB b a c st::prW a c st::h) m (λ_ _ h'=>PrR b h (C8 st (d,toks)) h'):=by
 subst he;refine cB [0,1,6,7,23] func34 λ_=>?_;refine kA1 ?_;refine xJ (E1 Et) (a5E pa pk pc ps _ _ (hs.mono Vl Sb) (λp hp=>(hps p hp).mono Vl Sb) hk hb) λa10 c10=>?_
 refine kR a10 λp10 q10 r10=>?_;refine xf (E1 Et) (b9d a10 _ c10 _ _ m hg hp (iR r10 p10 q10) hT) ?_;refine ZZ [5,4] ?_;refine zG (λhc=>PO.nilCheck (Eg hc)) ?_;refine Z5 ?_;refine wc ?_ ?_<;>intro c23
 have e23:C8 st (d,ps.flatMap (·.l))=(st.1,true):=by unfold C8;rw[if_pos];simp only[Bool.or_eq_true,bne_iff_ne,ne_eq,decide_eq_true_eq]at c23;exact c23.imp id λq=>by omega
 refine Z4 ?_;refine WC.ret (b2V (h':=prB b a c (st.1,true)::prW a c st::h) (.inl rfl) rfl  Vl Sb ?_);exact⟨a,c,by rw[e23]⟩;have e23:C8 st (d,ps.flatMap (·.l))=(st.1++[⟨st.1.length+1,d,(textO (ps.flatMap (·.l))).1⟩],st.2):=by
  unfold C8;rw[if_neg];intro q;have:(((textO (ps.flatMap (·.l))).2 !=0)||decide ((st.1.length:Int)>2048))=true:=by simp only[Bool.or_eq_true,bne_iff_ne,ne_eq,decide_eq_true_eq];exact q.imp id λq=>by omega
  rw[this]at c23;cases c23
 have hln:(st.1++[(⟨st.1.length+1,d,(textO (ps.flatMap (·.l))).1⟩:Rw)]).length=st.1.length+1:=List.length_append;refine Z0 ?_;refine F3 [14] (.op 0 (.op 1 (.op 2 (.op 3 (.op 4 (.op 5 (.op 6 (.op 7 (.op 8 (.op 9 (.op 10 (.op 11 (.op 12 (.op 13 (.op 14 .nil))))))))))))))) [15,16,17,18] _ [] C4 (λ_ _ _ _ _ h=>h) [0] (by kernel_rfl) ?_;refine kA9 ?_;refine yG rfl (Y8 b7j Et) ?_;refine yG rfl (L6 Et Ek (by omega)) ?_;refine kA2 ?_;refine yG rfl (PO.build b2K rfl rfl rfl Eb (by exact rfl)) ?_;refine sB rfl a0J λb41=>?_;refine SR.nil rfl rfl ?_;refine xD a0J (Ev.tmp rfl) (Ev.tmp rfl) (show st.1.length+1=(st.1++[(⟨st.1.length+1,d,(textO (ps.flatMap (·.l))).1⟩:Rw)]).length by simp) (D4 (enc:=P4) _ (⟨st.1.length+1,d,(textO (ps.flatMap (·.l))).1⟩)) λa42 c42=>?_
 refine kA3 ?_;refine WL.nil (w0 (prB b a42 c42 (st.1++[⟨st.1.length+1,d,(textO (ps.flatMap (·.l))).1⟩],st.2)::prW a42 c42 (st.1++[⟨st.1.length+1,d,(textO (ps.flatMap (·.l))).1⟩],st.2)::h) ?_);exact⟨a42,c42,by rw[e23]⟩
end
section
open Go.Eng Go.Pc Go.Sx Go
open Go.Xp hiding B C9
open Go.Ty (Ty Vr Tok eqT tyV I7 A3 B8 O4 zeroK M8 D3 encV D2)
open Go.Lx (encB encB_len textO)
open Go.Ly (Rw P4 F9)
theorem a3O{α:Type}(sep:B)(f:α->List Tok)(n:Nat):∀(l:List α),(∀x∈l,(f x).length<=n)->(B6 sep f l).length<=l.length*(n+1)
 | [],_=>Nat.zero_le _
 | [x],h=>by
  have:=h x (List.Mem.head _);show(f x).length<=1*(n+1);omega
 |x::y::r,h=>by
  have h1:=h x (List.Mem.head _);have h2:=a3O sep f n (y::r) λz hz=>h z (List.Mem.tail _ hz)
  show(f x++⟨5,0,sep,0⟩::B6 sep f (y::r)).length<=_;rw[List.length_append,List.length_cons];simp only[List.length_cons]at h2⊢;rw[Nat.add_mul (r.length+1) 1 (n+1)];omega
theorem R1(sep:B)(l:List Ex)(h:l.length<=9):(B6 sep C2 l).length<=30000:=by
 have h1:=a3O sep C2 2000 l λx _=>H1 x
 have h2:l.length*2001<=9*2001:=Nat.mul_le_mul_right _ h;omega
theorem b0g(r:Rp):(a1q r).length<=30000:=by
 unfold a1q;split
 ·exact Nat.zero_le _
 ·have h1:=H1 r.base
  have h2:=H1 r.count;simp only[List.length_append,List.length_singleton];omega
theorem a2E{m:View}(hg:Glob m)(b4:Nat)(p:Pr)(sep:B)(h:List Res)(hb:Res.pt b4 (.cells (prE p).toArray 45 (0,0))∈h)(hL:LOk m h p.ex)(hE:p.ex.l.length<=9) :
 CT prog 72 [str sep,ptV b4] h m (λv _ h'=>OwT h (B6 sep C2 p.ex.l) v h'):=by
 refine cB [0,1,3] func72 λ_=>?_;refine ZZ [1,1] ?_;refine xG (E9 c5y rfl Et hb rfl) ?_;refine kA1 ?_;refine xJ (E3 Et Et Ef) (a4d 65 C2 sep _ _ _ p.ex.l _ hL.rd (by omega) (λx _=>Nat.le_trans (H1 x) (by decide)) (λx hx h2 hh=>M5 hg x h2 ((hL.ok x hx).mono hh))) λa7 c7=>?_
 refine Z1 ?_;refine wT (.row (.slice a7 (B6 sep C2 p.ex.l).length c7) 97 4 (B6 sep C2 p.ex.l).length (fl A3 (B6 sep C2 p.ex.l))::h) ?_;exact⟨_,_,_,rfl,rfl,rfl⟩
abbrev fT(p:Pr):List Tok:=J1 p.k p.name p.ch p.tg.l p.ex.l p.rep
theorem c3u{m:View}(hg:Glob m)(hp:Pow m)(p:Pr)(b:Nat)(a:Option Addr)(c:Nat)(st:Ps)(d:Int)(h:List Res)(hO:P1 m h p)(hTg:p.tg.l.length<=9)(hEx:p.ex.l.length<=9)(hk:1<=p.k/\p.k<=17)(hT:TkL (fT p))(hn:st.1.length<=2049) :
 CT prog 33 [ptV b,prV p,.int .i64 d] (prB b a c st::prW a c st::h) m (λ_ _ h'=>PrR b h (C8 st (d,fT p)) h'):=by
 refine cB [0,2,4,6,7,13,14,22,30,43,57,70,83,94,103,112,120,128,137,146,155,165,175] func33 λ_=>?_;refine xX λb4=>?_
 refine ZZ [0,2] ?_;refine xJ (E1 Et) (c4s hg p.rep _ (Rs.mono (h:=h) ⟨hO.rn,hO.rb,hO.rc⟩ Sb)) λa10 c10=>?_;refine Z1 ?_;refine xG (PO.makeFunc Evs.nil (E1 Et)) ?_;refine ZZ [1,2,2,0] ?_;refine wE ?_ ?_<;>intro c14
 have e9:fT p=_:=J1.eq_1 ..;rw[if_pos c14]at e9;refine kA2 ?_;refine xY P6 Eb λb18=>?_
 refine xJ (E1 Et) (D1 hg _ 1 _ [[83,75,73,80]] _ Rr (by decide) (by decide)) λa19 c19=>?_;refine xY H9 Eb λb20=>?_
 refine kR a19 λp19 q19 r19=>?_;refine pP (prB b a c st) (prW a c st) ?_;refine xg (E3 Et Et Et) (I6 hg hp b a c st d _ 1 _ [⟨a19,c19,[A0 [83,75,73,80]]⟩] (fT p) _ (Rd.ofPt rfl (by decide) Me) (A9 (iR r19 p19 q19) F6) (by decide) (A9 (by simp) F6) (by rw[e9];simp) (hT) hn) ?_;rintro _ _ ⟨a21,c21,rfl⟩;refine WL.nil (w0 (prB b a21 c21 (C8 st (d,fT p))::prW a21 c21 (C8 st (d,fT p))::h) ?_);exact⟨a21,c21,rfl⟩;refine Z2 ?_;refine wE ?_ ?_<;>intro c22
 have e9:fT p=_:=J1.eq_1 ..;rw[if_neg c14,if_pos c22]at e9;refine kA2 ?_;refine xY P6 Eb λb26=>?_
 refine xJ (E1 Et) (D1 hg _ 1 _ [[83,84,79,80]] _ Rr (by decide) (by decide)) λa27 c27=>?_;refine xY H9 Eb λb28=>?_
 refine kR a27 λp27 q27 r27=>?_;refine pP (prB b a c st) (prW a c st) ?_;refine xg (E3 Et Et Et) (I6 hg hp b a c st d _ 1 _ [⟨a27,c27,[A0 [83,84,79,80]]⟩] (fT p) _ (Rd.ofPt rfl (by decide) Me) (A9 (iR r27 p27 q27) F6) (by decide) (A9 (by simp) F6) (by rw[e9];simp) (hT) hn) ?_;rintro _ _ ⟨a29,c29,rfl⟩;refine WL.nil (w0 (prB b a29 c29 (C8 st (d,fT p))::prW a29 c29 (C8 st (d,fT p))::h) ?_);exact⟨a29,c29,rfl⟩;refine Z2 ?_;refine wE ?_ ?_<;>intro c30
 have e9:fT p=_:=J1.eq_1 ..;rw[if_neg c14,if_neg c22,if_pos c30]at e9;refine kA4 ?_;refine xJ (E3 Et Ek Ef) (a4d 65 C2 [44] _ _ _ p.tg.l _ (hO.tg.rd.mono Vl Sb) (by omega) (λx _=>Nat.le_trans (H1 x) (by decide)) (λx hx h2 hh=>M5 hg x h2 ((hO.tg.ok x hx).mono (List.Sublist.trans Sb hh)))) λa36 c36=>?_
 refine xY P6 Eb λb37=>?_;refine xJ (E1 Et) (D1 hg _ 1 _ [[58,61]] _ Rr (by decide) (by decide)) λa38 c38=>?_
 refine kA1 ?_;refine I3 (Ev.tmp rfl) (E1 Ek) (a2E hg b4 p [44] _ Me (hO.ex.mono Sb) hEx) Lb ?_;rintro _ _ ⟨a40,c40,_,rfl,rfl,rfl⟩;refine xY H9 Eb λb41=>?_;refine kR a36 λp36 q36 r36=>?_
 refine kR a38 λp38 q38 r38=>?_;refine kR a40 λp40 q40 r40=>?_
 refine pP (prB b a c st) (prW a c st) ?_;refine xg (E3 Et Et Et) (I6 hg hp b a c st d _ 3 _ [⟨a36,c36,B6 [44] C2 p.tg.l⟩,⟨a38,c38,[A0 [58,61]]⟩,⟨a40,c40,B6 [44] C2 p.ex.l⟩] (fT p) _ (Rd.ofPt rfl (by decide) Me) (A9 (iR r36 p36 q36) (A9 (iR r38 p38 q38) (A9 (iR r40 p40 q40) F6))) (by decide) (A9 (R1 [44] p.tg.l (by omega)) (A9 (by simp) (A9 (R1 [44] p.ex.l (by omega)) F6))) (by rw[e9];simp) (hT) hn) ?_;rintro _ _ ⟨a42,c42,rfl⟩;refine WL.nil (w0 (prB b a42 c42 (C8 st (d,fT p))::prW a42 c42 (C8 st (d,fT p))::h) ?_);exact⟨a42,c42,rfl⟩;refine Z2 ?_;refine wE ?_ ?_<;>intro c43
 have e9:fT p=_:=J1.eq_1 ..;rw[if_neg c14,if_neg c22,if_neg c30,if_pos c43]at e9;refine jE ?_;refine a1g [4,5,6,4096] (.op 0 (.op 1 (.op 2 (.op 3 (.op 7 (.op 8 (.op 4 (.op 5 (.op 6 .nil))))))))) [9,10,11] _ [] C4 (λ_ _ _ h=>a2s h) [0,1] (by kernel_rfl) ?_;refine kA6 ?_;refine C5 rfl rfl Ef (E1 Et) (λfr=>M5 hg p.ch _ (hO.ch.mono Sb)) Lb λa49 c49=>?_
 refine sB rfl P6 λb50=>?_;refine C5 rfl rfl Ef (E1 (Ev.tmp rfl)) (λfr=>D1 hg _ 1 _ [[63]] _ (Rd.fr Rr fr) (by decide) (by decide)) Lb λa51 c51=>?_
 refine SR.nil rfl rfl ?_;refine xJ (E3 Et Ek Ef) (a4d 65 C2 [59] _ _ _ p.tg.l _ (hO.tg.rd.mono Vl Sb) (by omega) (λx _=>Nat.le_trans (H1 x) (by decide)) (λx hx h2 hh=>M5 hg x h2 ((hO.tg.ok x hx).mono (List.Sublist.trans Sb hh)))) λa54 c54=>?_;refine xY H9 Eb λb55=>?_
 refine kR a49 λp49 q49 r49=>?_;refine kR a51 λp51 q51 r51=>?_
 refine kR a54 λp54 q54 r54=>?_;refine pP (prB b a c st) (prW a c st) ?_;refine xg (E3 Et Et Et) (I6 hg hp b a c st d _ 3 _ [⟨a49,c49,C2 p.ch⟩,⟨a51,c51,[A0 [63]]⟩,⟨a54,c54,B6 [59] C2 p.tg.l⟩] (fT p) _ (Rd.ofPt rfl (by decide) Me) (A9 (iR r49 p49 q49) (A9 (iR r51 p51 q51) (A9 (iR r54 p54 q54) F6))) (by decide) (A9 (Nat.le_trans (H1 _) (by decide)) (A9 (by simp) (A9 (R1 [59] p.tg.l (by omega)) F6))) (by rw[e9];simp) (hT) hn) ?_;rintro _ _ ⟨a56,c56,rfl⟩;refine WL.nil (w0 (prB b a56 c56 (C8 st (d,fT p))::prW a56 c56 (C8 st (d,fT p))::h) ?_);exact⟨a56,c56,rfl⟩;refine Z2 ?_;refine wE ?_ ?_<;>intro c57
 have e9:fT p=_:=J1.eq_1 ..;rw[if_neg c14,if_neg c22,if_neg c30,if_neg c43,if_pos c57]at e9;refine kA4 ?_;refine xJ (E1 Et) (M5 hg p.ch _ (hO.ch.mono Sb)) λa63 c63=>?_
 refine xY P6 Eb λb64=>?_;refine xJ (E1 Et) (D1 hg _ 1 _ [[33]] _ Rr (by decide) (by decide)) λa65 c65=>?_
 refine kA1 ?_;refine I3 (Ev.tmp rfl) (E1 Ek) (a2E hg b4 p [59] _ Me (hO.ex.mono Sb) hEx) Lb ?_;rintro _ _ ⟨a67,c67,_,rfl,rfl,rfl⟩;refine xY H9 Eb λb68=>?_;refine kR a63 λp63 q63 r63=>?_
 refine kR a65 λp65 q65 r65=>?_;refine kR a67 λp67 q67 r67=>?_
 refine pP (prB b a c st) (prW a c st) ?_;refine xg (E3 Et Et Et) (I6 hg hp b a c st d _ 3 _ [⟨a63,c63,C2 p.ch⟩,⟨a65,c65,[A0 [33]]⟩,⟨a67,c67,B6 [59] C2 p.ex.l⟩] (fT p) _ (Rd.ofPt rfl (by decide) Me) (A9 (iR r63 p63 q63) (A9 (iR r65 p65 q65) (A9 (iR r67 p67 q67) F6))) (by decide) (A9 (Nat.le_trans (H1 _) (by decide)) (A9 (by simp) (A9 (R1 [59] p.ex.l (by omega)) F6))) (by rw[e9];simp) (hT) hn) ?_;rintro _ _ ⟨a69,c69,rfl⟩;refine WL.nil (w0 (prB b a69 c69 (C8 st (d,fT p))::prW a69 c69 (C8 st (d,fT p))::h) ?_);exact⟨a69,c69,rfl⟩;refine Z2 ?_;refine wE ?_ ?_<;>intro c70
 have e9:fT p=_:=J1.eq_1 ..;rw[if_neg c14,if_neg c22,if_neg c30,if_neg c43,if_neg c57,if_pos c70]at e9;refine kA4 ?_;refine xJ (E1 Et) (M5 hg p.ch _ (hO.ch.mono Sb)) λa76 c76=>?_
 refine xY P6 Eb λb77=>?_;refine xJ (E1 Et) (D1 hg _ 2 _ [[63],[65,70,84,69,82]] _ Rr (by decide) (by decide)) λa78 c78=>?_
 refine kA1 ?_;refine I3 (Ev.tmp rfl) (E1 Ek) (a2E hg b4 p [] _ Me (hO.ex.mono Sb) hEx) Lb ?_;rintro _ _ ⟨a80,c80,_,rfl,rfl,rfl⟩;refine xY H9 Eb λb81=>?_;refine kR a76 λp76 q76 r76=>?_
 refine kR a78 λp78 q78 r78=>?_;refine kR a80 λp80 q80 r80=>?_
 refine pP (prB b a c st) (prW a c st) ?_;refine xg (E3 Et Et Et) (I6 hg hp b a c st d _ 3 _ [⟨a76,c76,C2 p.ch⟩,⟨a78,c78,[A0 [63],A0 [65,70,84,69,82]]⟩,⟨a80,c80,B6 [] C2 p.ex.l⟩] (fT p) _ (Rd.ofPt rfl (by decide) Me) (A9 (iR r76 p76 q76) (A9 (iR r78 p78 q78) (A9 (iR r80 p80 q80) F6))) (by decide) (A9 (Nat.le_trans (H1 _) (by decide)) (A9 (by simp) (A9 (R1 [] p.ex.l (by omega)) F6))) (by rw[e9];simp) (hT) hn) ?_;rintro _ _ ⟨a82,c82,rfl⟩;refine WL.nil (w0 (prB b a82 c82 (C8 st (d,fT p))::prW a82 c82 (C8 st (d,fT p))::h) ?_);exact⟨a82,c82,rfl⟩;refine Z2 ?_;refine wE ?_ ?_<;>intro c83
 have e9:fT p=_:=J1.eq_1 ..;rw[if_neg c14,if_neg c22,if_neg c30,if_neg c43,if_neg c57,if_neg c70,if_pos c83]at e9;refine kA4 ?_;refine xJ (E1 Et) (M5 hg p.ch _ (hO.ch.mono Sb)) λa89 c89=>?_
 refine xY P6 Eb λb90=>?_;refine xJ (E1 Et) (D1 hg _ 2 _ [[63],[67,65,83,69]] _ Rr (by decide) (by decide)) λa91 c91=>?_
 refine xY H9 Eb λb92=>?_;refine kR a89 λp89 q89 r89=>?_
 refine kR a91 λp91 q91 r91=>?_;refine pP (prB b a c st) (prW a c st) ?_;refine xg (E3 Et Et Et) (I6 hg hp b a c st d _ 2 _ [⟨a89,c89,C2 p.ch⟩,⟨a91,c91,[A0 [63],A0 [67,65,83,69]]⟩] (fT p) _ (Rd.ofPt rfl (by decide) Me) (A9 (iR r89 p89 q89) (A9 (iR r91 p91 q91) F6)) (by decide) (A9 (Nat.le_trans (H1 _) (by decide)) (A9 (by simp) F6)) (by rw[e9];simp) (hT) hn) ?_;rintro _ _ ⟨a93,c93,rfl⟩;refine WL.nil (w0 (prB b a93 c93 (C8 st (d,fT p))::prW a93 c93 (C8 st (d,fT p))::h) ?_);exact⟨a93,c93,rfl⟩;refine Z2 ?_;refine wE ?_ ?_<;>intro c94
 have e9:fT p=_:=J1.eq_1 ..;rw[if_neg c14,if_neg c22,if_neg c30,if_neg c43,if_neg c57,if_neg c70,if_neg c83,if_pos c94]at e9;refine kA2 ?_;refine xY P6 Eb λb98=>?_
 refine xJ (E1 Et) (D1 hg _ 1 _ [[83,69,81]] _ Rr (by decide) (by decide)) λa99 c99=>?_;refine kA1 ?_;refine xY H9 Eb λb101=>?_
 refine kR a99 λp99 q99 r99=>?_;refine kR a10 λp10 q10 r10=>?_
 refine pP (prB b a c st) (prW a c st) ?_;refine xg (E3 Et Et Et) (I6 hg hp b a c st d _ 2 _ [⟨a99,c99,[A0 [83,69,81]]⟩,⟨a10,c10,a1q p.rep⟩] (fT p) _ (Rd.ofPt rfl (by decide) Me) (A9 (iR r99 p99 q99) (A9 (iR r10 p10 q10) F6)) (by decide) (A9 (by simp) (A9 (b0g p.rep) F6)) (by rw[e9];simp) (hT) hn) ?_;rintro _ _ ⟨a102,c102,rfl⟩;refine WL.nil (w0 (prB b a102 c102 (C8 st (d,fT p))::prW a102 c102 (C8 st (d,fT p))::h) ?_);exact⟨a102,c102,rfl⟩;refine Z2 ?_;refine wE ?_ ?_<;>intro c103
 have e9:fT p=_:=J1.eq_1 ..;rw[if_neg c14,if_neg c22,if_neg c30,if_neg c43,if_neg c57,if_neg c70,if_neg c83,if_neg c94,if_pos c103]at e9;refine kA2 ?_;refine xY P6 Eb λb107=>?_
 refine xJ (E1 Et) (D1 hg _ 1 _ [[80,65,82]] _ Rr (by decide) (by decide)) λa108 c108=>?_;refine kA1 ?_;refine xY H9 Eb λb110=>?_
 refine kR a108 λp108 q108 r108=>?_;refine kR a10 λp10 q10 r10=>?_
 refine pP (prB b a c st) (prW a c st) ?_;refine xg (E3 Et Et Et) (I6 hg hp b a c st d _ 2 _ [⟨a108,c108,[A0 [80,65,82]]⟩,⟨a10,c10,a1q p.rep⟩] (fT p) _ (Rd.ofPt rfl (by decide) Me) (A9 (iR r108 p108 q108) (A9 (iR r10 p10 q10) F6)) (by decide) (A9 (by simp) (A9 (b0g p.rep) F6)) (by rw[e9];simp) (hT) hn) ?_;rintro _ _ ⟨a111,c111,rfl⟩;refine WL.nil (w0 (prB b a111 c111 (C8 st (d,fT p))::prW a111 c111 (C8 st (d,fT p))::h) ?_);exact⟨a111,c111,rfl⟩;refine Z2 ?_;refine wE ?_ ?_<;>intro c112
 have e9:fT p=_:=J1.eq_1 ..;rw[if_neg c14,if_neg c22,if_neg c30,if_neg c43,if_neg c57,if_neg c70,if_neg c83,if_neg c94,if_neg c103,if_pos c112]at e9;refine kA2 ?_;refine xY P6 Eb λb116=>?_
 refine xJ (E1 Et) (D1 hg _ 2 _ [[80,82,73],[80,65,82]] _ Rr (by decide) (by decide)) λa117 c117=>?_;refine xY H9 Eb λb118=>?_
 refine kR a117 λp117 q117 r117=>?_;refine pP (prB b a c st) (prW a c st) ?_;refine xg (E3 Et Et Et) (I6 hg hp b a c st d _ 1 _ [⟨a117,c117,[A0 [80,82,73],A0 [80,65,82]]⟩] (fT p) _ (Rd.ofPt rfl (by decide) Me) (A9 (iR r117 p117 q117) F6) (by decide) (A9 (by simp) F6) (by rw[e9];simp) (hT) hn) ?_;rintro _ _ ⟨a119,c119,rfl⟩;refine WL.nil (w0 (prB b a119 c119 (C8 st (d,fT p))::prW a119 c119 (C8 st (d,fT p))::h) ?_);exact⟨a119,c119,rfl⟩;refine Z2 ?_;refine wE ?_ ?_<;>intro c120
 have e9:fT p=_:=J1.eq_1 ..;rw[if_neg c14,if_neg c22,if_neg c30,if_neg c43,if_neg c57,if_neg c70,if_neg c83,if_neg c94,if_neg c103,if_neg c112,if_pos c120]at e9;refine kA2 ?_;refine xY P6 Eb λb124=>?_
 refine xJ (E1 Et) (D1 hg _ 2 _ [[80,76,65,67,69,68],[80,65,82]] _ Rr (by decide) (by decide)) λa125 c125=>?_;refine xY H9 Eb λb126=>?_
 refine kR a125 λp125 q125 r125=>?_;refine pP (prB b a c st) (prW a c st) ?_;refine xg (E3 Et Et Et) (I6 hg hp b a c st d _ 1 _ [⟨a125,c125,[A0 [80,76,65,67,69,68],A0 [80,65,82]]⟩] (fT p) _ (Rd.ofPt rfl (by decide) Me) (A9 (iR r125 p125 q125) F6) (by decide) (A9 (by simp) F6) (by rw[e9];simp) (hT) hn) ?_;rintro _ _ ⟨a127,c127,rfl⟩;refine WL.nil (w0 (prB b a127 c127 (C8 st (d,fT p))::prW a127 c127 (C8 st (d,fT p))::h) ?_);exact⟨a127,c127,rfl⟩;refine Z2 ?_;refine wE ?_ ?_<;>intro c128
 have e9:fT p=_:=J1.eq_1 ..;rw[if_neg c14,if_neg c22,if_neg c30,if_neg c43,if_neg c57,if_neg c70,if_neg c83,if_neg c94,if_neg c103,if_neg c112,if_neg c120,if_pos c128]at e9;refine kA2 ?_;refine xY P6 Eb λb132=>?_
 refine xJ (E1 Et) (D1 hg _ 1 _ [[65,76,84]] _ Rr (by decide) (by decide)) λa133 c133=>?_;refine kA1 ?_;refine xY H9 Eb λb135=>?_
 refine kR a133 λp133 q133 r133=>?_;refine kR a10 λp10 q10 r10=>?_
 refine pP (prB b a c st) (prW a c st) ?_;refine xg (E3 Et Et Et) (I6 hg hp b a c st d _ 2 _ [⟨a133,c133,[A0 [65,76,84]]⟩,⟨a10,c10,a1q p.rep⟩] (fT p) _ (Rd.ofPt rfl (by decide) Me) (A9 (iR r133 p133 q133) (A9 (iR r10 p10 q10) F6)) (by decide) (A9 (by simp) (A9 (b0g p.rep) F6)) (by rw[e9];simp) (hT) hn) ?_;rintro _ _ ⟨a136,c136,rfl⟩;refine WL.nil (w0 (prB b a136 c136 (C8 st (d,fT p))::prW a136 c136 (C8 st (d,fT p))::h) ?_);exact⟨a136,c136,rfl⟩;refine Z2 ?_;refine wE ?_ ?_<;>intro c137
 have e9:fT p=_:=J1.eq_1 ..;rw[if_neg c14,if_neg c22,if_neg c30,if_neg c43,if_neg c57,if_neg c70,if_neg c83,if_neg c94,if_neg c103,if_neg c112,if_neg c120,if_neg c128,if_pos c137]at e9;refine kA2 ?_;refine xY P6 Eb λb141=>?_
 refine xJ (E1 Et) (D1 hg _ 2 _ [[80,82,73],[65,76,84]] _ Rr (by decide) (by decide)) λa142 c142=>?_;refine kA1 ?_;refine xY H9 Eb λb144=>?_
 refine kR a142 λp142 q142 r142=>?_;refine kR a10 λp10 q10 r10=>?_
 refine pP (prB b a c st) (prW a c st) ?_;refine xg (E3 Et Et Et) (I6 hg hp b a c st d _ 2 _ [⟨a142,c142,[A0 [80,82,73],A0 [65,76,84]]⟩,⟨a10,c10,a1q p.rep⟩] (fT p) _ (Rd.ofPt rfl (by decide) Me) (A9 (iR r142 p142 q142) (A9 (iR r10 p10 q10) F6)) (by decide) (A9 (by simp) (A9 (b0g p.rep) F6)) (by rw[e9];simp) (hT) hn) ?_;rintro _ _ ⟨a145,c145,rfl⟩;refine WL.nil (w0 (prB b a145 c145 (C8 st (d,fT p))::prW a145 c145 (C8 st (d,fT p))::h) ?_);exact⟨a145,c145,rfl⟩;refine Z2 ?_;refine wE ?_ ?_<;>intro c146
 have e9:fT p=_:=J1.eq_1 ..;rw[if_neg c14,if_neg c22,if_neg c30,if_neg c43,if_neg c57,if_neg c70,if_neg c83,if_neg c94,if_neg c103,if_neg c112,if_neg c120,if_neg c128,if_neg c137,if_pos c146]at e9;refine kA2 ?_;refine xY P6 Eb λb150=>?_
 refine xJ (E1 Et) (D1 hg _ 1 _ [[73,70]] _ Rr (by decide) (by decide)) λa151 c151=>?_;refine kA1 ?_;refine xY H9 Eb λb153=>?_
 refine kR a151 λp151 q151 r151=>?_;refine kR a10 λp10 q10 r10=>?_
 refine pP (prB b a c st) (prW a c st) ?_;refine xg (E3 Et Et Et) (I6 hg hp b a c st d _ 2 _ [⟨a151,c151,[A0 [73,70]]⟩,⟨a10,c10,a1q p.rep⟩] (fT p) _ (Rd.ofPt rfl (by decide) Me) (A9 (iR r151 p151 q151) (A9 (iR r10 p10 q10) F6)) (by decide) (A9 (by simp) (A9 (b0g p.rep) F6)) (by rw[e9];simp) (hT) hn) ?_;rintro _ _ ⟨a154,c154,rfl⟩;refine WL.nil (w0 (prB b a154 c154 (C8 st (d,fT p))::prW a154 c154 (C8 st (d,fT p))::h) ?_);exact⟨a154,c154,rfl⟩;refine Z2 ?_;refine wE ?_ ?_<;>intro c155
 have e9:fT p=_:=J1.eq_1 ..;rw[if_neg c14,if_neg c22,if_neg c30,if_neg c43,if_neg c57,if_neg c70,if_neg c83,if_neg c94,if_neg c103,if_neg c112,if_neg c120,if_neg c128,if_neg c137,if_neg c146,if_pos c155]at e9;refine kA2 ?_;refine xY P6 Eb λb159=>?_
 refine xJ (E1 Et) (D1 hg _ 1 _ [[67,65,83,69]] _ Rr (by decide) (by decide)) λa160 c160=>?_;refine kA1 ?_;refine I3 (Ev.tmp rfl) (E1 Ek) (a2E hg b4 p [] _ Me (hO.ex.mono Sb) hEx) Lb ?_;rintro _ _ ⟨a162,c162,_,rfl,rfl,rfl⟩;refine xY H9 Eb λb163=>?_
 refine kR a160 λp160 q160 r160=>?_;refine kR a162 λp162 q162 r162=>?_
 refine pP (prB b a c st) (prW a c st) ?_;refine xg (E3 Et Et Et) (I6 hg hp b a c st d _ 2 _ [⟨a160,c160,[A0 [67,65,83,69]]⟩,⟨a162,c162,B6 [] C2 p.ex.l⟩] (fT p) _ (Rd.ofPt rfl (by decide) Me) (A9 (iR r160 p160 q160) (A9 (iR r162 p162 q162) F6)) (by decide) (A9 (by simp) (A9 (R1 [] p.ex.l (by omega)) F6)) (by rw[e9];simp) (hT) hn) ?_;rintro _ _ ⟨a164,c164,rfl⟩;refine WL.nil (w0 (prB b a164 c164 (C8 st (d,fT p))::prW a164 c164 (C8 st (d,fT p))::h) ?_);exact⟨a164,c164,rfl⟩;refine Z2 ?_;refine wE ?_ ?_<;>intro c165
 have e9:fT p=_:=J1.eq_1 ..;rw[if_neg c14,if_neg c22,if_neg c30,if_neg c43,if_neg c57,if_neg c70,if_neg c83,if_neg c94,if_neg c103,if_neg c112,if_neg c120,if_neg c128,if_neg c137,if_neg c146,if_neg c155,if_pos c165]at e9;refine kA2 ?_;refine xY P6 Eb λb169=>?_
 refine xJ (E1 Et) (D1 hg _ 1 _ [[87,72,73,76,69]] _ Rr (by decide) (by decide)) λa170 c170=>?_;refine kA1 ?_;refine I3 (Ev.tmp rfl) (E1 Ek) (a2E hg b4 p [] _ Me (hO.ex.mono Sb) hEx) Lb ?_;rintro _ _ ⟨a172,c172,_,rfl,rfl,rfl⟩;refine xY H9 Eb λb173=>?_
 refine kR a170 λp170 q170 r170=>?_;refine kR a172 λp172 q172 r172=>?_
 refine pP (prB b a c st) (prW a c st) ?_;refine xg (E3 Et Et Et) (I6 hg hp b a c st d _ 2 _ [⟨a170,c170,[A0 [87,72,73,76,69]]⟩,⟨a172,c172,B6 [] C2 p.ex.l⟩] (fT p) _ (Rd.ofPt rfl (by decide) Me) (A9 (iR r170 p170 q170) (A9 (iR r172 p172 q172) F6)) (by decide) (A9 (by simp) (A9 (R1 [] p.ex.l (by omega)) F6)) (by rw[e9];simp) (hT) hn) ?_;rintro _ _ ⟨a174,c174,rfl⟩;refine WL.nil (w0 (prB b a174 c174 (C8 st (d,fT p))::prW a174 c174 (C8 st (d,fT p))::h) ?_);exact⟨a174,c174,rfl⟩;refine Z2 ?_;refine wE ?_ ?_<;>intro c175
 have e9:fT p=_:=J1.eq_1 ..;rw[if_neg c14,if_neg c22,if_neg c30,if_neg c43,if_neg c57,if_neg c70,if_neg c83,if_neg c94,if_neg c103,if_neg c112,if_neg c120,if_neg c128,if_neg c137,if_neg c146,if_neg c155,if_neg c165]at e9;refine kA4 ?_;refine xJ (E1 Et) (a2W p.name _ _) λa181 c181=>?_
 refine xY P6 Eb λb182=>?_;refine xJ (E1 Et) (D1 hg _ 1 _ [[40]] _ Rr (by decide) (by decide)) λa183 c183=>?_
 refine kA1 ?_;refine I3 (Ev.tmp rfl) (E1 Ek) (a2E hg b4 p [44] _ Me (hO.ex.mono Sb) hEx) Lb ?_;rintro _ _ ⟨a185,c185,_,rfl,rfl,rfl⟩;refine xY P6 Eb λb186=>?_;refine xJ (E1 Et) (D1 hg _ 1 _ [[41]] _ Rr (by decide) (by decide)) λa187 c187=>?_
 refine xY H9 Eb λb188=>?_;refine kR a181 λp181 q181 r181=>?_
 refine kR a183 λp183 q183 r183=>?_;refine kR a185 λp185 q185 r185=>?_
 refine kR a187 λp187 q187 r187=>?_;refine pP (prB b a c st) (prW a c st) ?_;refine xg (E3 Et Et Et) (I6 hg hp b a c st d _ 4 _ [⟨a181,c181,[E6 p.name]⟩,⟨a183,c183,[A0 [40]]⟩,⟨a185,c185,B6 [44] C2 p.ex.l⟩,⟨a187,c187,[A0 [41]]⟩] (fT p) _ (Rd.ofPt rfl (by decide) Me) (A9 (iR r181 p181 q181) (A9 (iR r183 p183 q183) (A9 (iR r185 p185 q185) (A9 (iR r187 p187 q187) F6)))) (by decide) (A9 (by simp) (A9 (by simp) (A9 (R1 [44] p.ex.l (by omega)) (A9 (by simp) F6)))) (by rw[e9];simp) (hT) hn) ?_;rintro _ _ ⟨a189,c189,rfl⟩;refine WL.nil (w0 (prB b a189 c189 (C8 st (d,fT p))::prW a189 c189 (C8 st (d,fT p))::h) ?_);exact⟨a189,c189,rfl⟩;omega
end
section
open Go.Eng Go.Pc Go.Sx Go
open Go.Xp hiding B C9
open Go.Ty (Ty Vr Tok eqT tyV I7 A3 B8 O4 zeroK M8 D3 encV D2 prL prV PrOk VOk mayPr hdV)
open Go.Lx (encB encB_len textO)
open Go.Ly (Rw P4 F9)
theorem a2q:TkL []:=λ_ hx=>(List.not_mem_nil hx).elim
theorem F7{a b:List Tok}(ha:TkL a)(hb:TkL b):TkL (a++b):=λx hx=>(List.mem_append.1 hx).elim (ha x) (hb x)
theorem a8k{t:Tok}{b:List Tok}(ha:TkL [t])(hb:TkL b):TkL (t::b):=λx hx=>(List.mem_cons.1 hx).elim (λe=>ha x (List.mem_singleton.2 e)) (hb x)
theorem a4R{k p:Int}{s:B}(h:s.length<=Big):TkL [⟨k,p.toNat,s,0⟩]:=λx hx=>by
 rw[List.mem_singleton]at hx;subst hx;exact⟨(show(-2147483648:Int)<=0/\(0:Int)<=2147483647 by decide),h⟩
theorem Y4{s:B}(h:s.length<=Big):TkL [A0 s]:=by
 unfold A0;split
 ·exact a4R (p:=0) h
 ·exact a4R (p:=0) h
theorem b09{s:B}(h:s.length<=Big):TkL [E6 s]:=a4R (p:=0) h
theorem a2j{m:View}{h:List Res}{e:Ex}(q:EOk m h e):TkL (C2 e):=by
 unfold C2;split
 ·rename_i hm
  exact λx hx=>⟨(b1L e (a46 hm).1 q.w x hx).2,by have:=Go.Lx.may_len (b1L e (a46 hm).1 q.w x hx).1;omega⟩
 ·exact a2q
theorem b2o{α:Type}{sep:B}(hs:sep.length<=Big){f:α->List Tok}:∀{l:List α},(∀x∈l,TkL (f x))->TkL (B6 sep f l)
 | [],_=>a2q
 | [x],h=>h x (List.Mem.head _)
 |x::_::_,h=>F7 (h x (List.Mem.head _)) (a8k (a4R (p:=0) hs) (b2o hs λz hz=>h z (List.Mem.tail _ hz)))
theorem a3d{m:View}{h:List Res}{sep:B}(hs:sep.length<=Big){s:Sli Ex}(q:LOk m h s):TkL (B6 sep C2 s.l):=b2o hs λx hx=>a2j (q.ok x hx)
theorem c1x{s:B}(hs:s.length<=Big){l:List Tok}(q:TkL l):TkL (M9 s l):=by
 unfold M9;split
 ·exact a2q
 ·exact a8k (Y4 hs) q
theorem c9K{m:View}{h:List Res}{r:Rp}(q:Rs m h r):TkL (a1q r):=by
 unfold a1q;split
 ·exact a2q
 ·exact F7 (F7 (F7 (F7 (b09 q.n) (Y4 (by decide))) (a2j q.b)) (Y4 (by decide))) (a2j q.c)
theorem Q6{c:Prop}[Decidable c]{a b:List Tok}(ha:TkL a)(hb:TkL b):TkL (if c then a else b):=by
 split
 ·exact ha
 ·exact hb
theorem b2p{m:View}{h:List Res}{p:Pr}(q:P1 m h p):TkL (J1 p.k p.name p.ch p.tg.l p.ex.l p.rep):=by
 have hr:TkL (a1q p.rep):=c9K (m:=m) (h:=h) ⟨q.rn,q.rb,q.rc⟩;have w1:∀{s:B},s.length<=1000->TkL [A0 s]:=λh=>Y4 (Nat.le_trans h (by decide))
 have w2:∀{s t:B},s.length<=1000->t.length<=1000->TkL [A0 s,A0 t]:=λh h2=>a8k (w1 h) (w1 h2)
 unfold J1;exact Q6 (w1 (by decide)) (Q6 (w1 (by decide)) (Q6 (F7 (F7 (a3d (by decide) q.tg) (w1 (by decide))) (a3d (by decide) q.ex)) (Q6 (F7 (F7 (a2j q.ch) (w1 (by decide))) (a3d (by decide) q.tg)) (Q6 (F7 (F7 (a2j q.ch) (w1 (by decide))) (a3d (by decide) q.ex)) (Q6 (F7 (F7 (a2j q.ch) (w2 (by decide) (by decide))) (a3d (by decide) q.ex)) (Q6 (F7 (a2j q.ch) (w2 (by decide) (by decide))) (Q6 (F7 (w1 (by decide)) hr) (Q6 (F7 (w1 (by decide)) hr) (Q6 (w2 (by decide) (by decide)) (Q6 (w2 (by decide) (by decide)) (Q6 (F7 (w1 (by decide)) hr) (Q6 (F7 (w2 (by decide) (by decide)) hr) (Q6 (F7 (w1 (by decide)) hr) (Q6 (F7 (w1 (by decide)) (a3d (by decide) q.ex)) (Q6 (F7 (w1 (by decide)) (a3d (by decide) q.ex)) (F7 (F7 (F7 (b09 q.n) (w1 (by decide))) (a3d (by decide) q.ex)) (w1 (by decide))))))))))))))))))
theorem b0i{m:View}{h:List Res}{e:Ex}(q:EOk m h e):TkL (a0X e):=by
 unfold a0X;split
 ·exact a2q
 ·exact F7 (a2j q) (a4R (p:=0) (by decide))
theorem b1m{m:View}{h:List Res}{g:Gu}(q:GOk m h g):TkL (H0 g.k g.name g.cond g.ch g.tg.l g.vl.l g.time):=by
 have w1:∀{s:B},s.length<=1000->TkL [A0 s]:=λh=>Y4 (Nat.le_trans h (by decide))
 unfold H0;exact Q6 (a2j q.cond) (Q6 (F7 (b0i q.cond) (w1 (by decide))) (Q6 (F7 (F7 (F7 (b0i q.cond) (a2j q.ch)) (w1 (by decide))) (a3d (by decide) q.tg)) (Q6 (F7 (F7 (F7 (b0i q.cond) (a2j q.ch)) (a8k (w1 (by decide)) (w1 (by decide)))) (a2j q.time)) (Q6 (a3d (by decide) q.vl) (Q6 (w1 (by decide)) (F7 (b09 q.n) (c1x (by decide) (a3d (by decide) q.tg))))))))
theorem b2T(e:Ex):(a0X e).length<=30000:=by
 unfold a0X;have:=H1 e;split
 ·exact Nat.zero_le _
 ·rw[List.length_append]
  simp only[List.length_singleton];omega
theorem a8V(s:B){l:List Tok}(h:l.length<=25000):(M9 s l).length<=30000:=by
 unfold M9;split
 ·exact Nat.zero_le _
 ·simp only[List.length_cons]
  omega
theorem a5N(sep:B)(l:List Ex)(h:l.length<=9):(B6 sep C2 l).length<=25000:=by
 have h1:=a3O sep C2 2000 l λx _=>H1 x
 have h2:l.length*2001<=9*2001:=Nat.mul_le_mul_right _ h;omega
theorem a9r{g:Gu}(h:guP g=true)(h0:0<=g.k):(1<=g.k/\g.k<=7)/\g.bl.length=1/\g.tg.l.length<=8/\g.vl.l.length<=8:=by
 unfold guP at h;simp only[Bool.and_eq_true,bne_iff_ne,ne_eq,decide_eq_true_eq,beq_iff_eq]at h;obtain⟨⟨⟨⟨⟨⟨⟨⟨h1,h2⟩,h3⟩,-⟩,-⟩,-⟩,-⟩,h4⟩,h5⟩:=h;have h4:=(a05 h4).2.2;have h5:=(a05 h5).2.2;refine⟨⟨by omega,h2⟩,by omega,?_,?_⟩
 ·have:(if g.k=3 then(8:Int)else if g.k=7 then 8 else 0)<=8:=by repeat' split<;>omega
  omega
 ·have:(if g.k=5 then(8:Int)else 0)<=8:=by split<;>omega
  omega
theorem a7y(g:Gu)(d:Int):U8 g d=(d,H0 g.k g.name g.cond g.ch g.tg.l g.vl.l g.time)::a0n g.bl (d+1):=by cases g;rfl
abbrev PRC(m:View)(p:Pr):Prop:=∀(b:Nat)(a:Option Addr)(c:Nat)(st:Ps)(d:Int)(h:List Res),POk m h p->Vld p->(0<=d/\d+2*(P9 p:Int)<=100000)->st.1.length<=2049 ->
 CT prog 14 [ptV b,prV p,.int .i64 d] (prB b a c st::prW a c st::h) m (λ_ _ h'=>PrR b h (C1 st (D6 p d)) h')
theorem b9q{m:View}(hg:Glob m)(hp:Pow m)(g:Gu)(b:Nat)(a:Option Addr)(c:Nat)(st:Ps)(d:Int)(h:List Res)(hO:GOk m h g)(hu:guP g=true)(hS:∀x∈g.bl,POk m h x/\Vld x/\PRC m x/\d+1+2*(P9 x:Int)<=100000)(hd:0<=d/\d<=100000)(hn:st.1.length<=2049) :
 CT prog 36 [ptV b,guV g,.int .i64 d] (prB b a c st::prW a c st::h) m (λ_ _ h'=>PrR b h (C1 st (U8 g d)) h'):=by
 obtain⟨hk,hbl,hTg,hVl⟩:=a9r hu hO.k.1;have hT:=b1m hO;have hrb:=hO.b;obtain⟨y,hy⟩:=A5 (l:=g.bl) (k:=0) (by omega);have hym:=List.mem_of_getElem? hy;obtain⟨hy1,hy2,hy3,hy4⟩:=hS y hym;have hcy:=a2Y y;have hlg:U8 g d=(d,H0 g.k g.name g.cond g.ch g.tg.l g.vl.l g.time)::D6 y (d+1):=by
  have e:g.bl=[y]:=by
   cases hb:g.bl with
   |nil=>rw[hb]at hy;cases hy
   |cons z r=>
    rw[hb]at hy hbl;cases hy;cases r with
    |nil=>rfl
    |cons u v=>simp at hbl
  rw[a7y,e];rfl
 refine cB [0,2,4,6,7,22,23,32,41,54,69,78,86] func36 λ_=>?_;refine xX λb4=>?_
 refine Z0 ?_;refine WL.addNil 97 4 ?_;refine ZZ [1,2] ?_;refine xf (E1 Et) (a3n g.cond (hO.cond.t.mono Sb)) ?_;refine kP1 [0,2,4,6,11] ?_;refine F4 KKh [0,2,4] rfl (λF' h'=>∃a6:Option Addr,∃c6:Nat,∃L:List Tok,(L=a0X g.cond)/\F'=[(6,.slice a6 L.length c6)]/\.row (.slice a6 L.length c6) 97 4 L.length (fl A3 L)::.pt b4 (.cells (guE g).toArray 100 (0,0))::prB b a c st::prW a c st::h=h') ?_ ?_;refine jE ?_;refine wc ?_ ?_<;>intro c11
 have e11:a0X g.cond=C2 g.cond++[⟨5,0,[38],0⟩]:=by unfold a0X;rw[if_neg (by simpa using c11)]
 have hln:(C2 g.cond++[(⟨5,0,[38],0⟩:Tok)]).length=(C2 g.cond).length+1:=List.length_append;have htl:=H1 g.cond;refine kA2 ?_;refine xJ (E1 Et) (M5 hg g.cond _ (hO.cond.mono Sb)) λa14 c14=>?_;refine xf (E1 Ek) (K0 _ _ _) ?_;refine xY B3 Eb λb16=>?_
 refine xD B3 (Ev.tmp rfl) (Ev.tmp rfl) (show(C2 g.cond).length+1=(C2 g.cond++[(⟨5,0,[38],0⟩:Tok)]).length from hln.symm) (D4 (enc:=A3) _ (⟨5,0,[38],0⟩)) λa17 c17=>?_;refine kA1 ?_;refine WL.nil (B4 [(6,.slice a17 (C2 g.cond++[(⟨5,0,[38],0⟩:Tok)]).length c17)] (h'':=.row (.slice a17 (C2 g.cond++[(⟨5,0,[38],0⟩:Tok)]).length c17) 97 4 (C2 g.cond++[(⟨5,0,[38],0⟩:Tok)]).length (fl A3 (C2 g.cond++[(⟨5,0,[38],0⟩:Tok)]))::.pt b4 (.cells (guE g).toArray 100 (0,0))::prB b a c st::prW a c st::h) ?_ Su Sb ⟨a17,c17,C2 g.cond++[(⟨5,0,[38],0⟩:Tok)],e11.symm,rfl,rfl⟩);exact Su;have e11:a0X g.cond=[]:=by unfold a0X;rw[if_pos (by simpa using c11)]
 refine WC.skip (B4 [(6,.slice none ([]).length 0)] (h'':=.row (.slice none ([]).length 0) 97 4 ([]).length (fl A3 ([]))::.pt b4 (.cells (guE g).toArray 100 (0,0))::prB b a c st::prW a c st::h) ?_ Su Sb ⟨none,0,[],e11.symm,rfl,rfl⟩);exact Su;rintro _ _ ⟨a6,c6,L,hL,rfl,rfl⟩;refine B2 rfl ?_;subst hL;refine kA2 ?_;refine xJ (E3 Et Ek Ef) (a4d 65 C2 [59] _ _ _ g.tg.l _ (hO.tg.rd.mono Vl Sb) (by omega) (λx _=>Nat.le_trans (H1 x) (by decide)) (λx hx h2 hh=>M5 hg x h2 ((hO.tg.ok x hx).mono (List.Sublist.trans Sb hh)))) λa20 c20=>?_;refine Z1 ?_;refine kP2 [0,2,4,6,7,22] ?_;refine F4 KKh [0,2,4] rfl (λF' h'=>∃a9:Option Addr,∃c9:Nat,(True)/\F'=[]/\prB b a9 c9 (C8 st (d,H0 g.k g.name g.cond g.ch g.tg.l g.vl.l g.time))::prW a9 c9 (C8 st (d,H0 g.k g.name g.cond g.ch g.tg.l g.vl.l g.time))::.pt b4 (.cells (guE g).toArray 100 (0,0))::h=h') ?_ ?_;refine Z2 ?_;refine wE ?_ ?_<;>intro c23
 have e9:=H0.eq_1 g.k g.name g.cond g.ch g.tg.l g.vl.l g.time;rw[if_pos c23]at e9;refine kA4 ?_;refine xJ (E1 Et) (M5 hg g.cond _ (hO.cond.mono Sb)) λa29 c29=>?_
 refine xY H9 Eb λb30=>?_;refine kR a29 λp29 q29 r29=>?_
 refine pP (prB b a c st) (prW a c st) ?_;refine xg (E3 Et Et Et) (I6 hg hp b a c st d _ 1 _ [⟨a29,c29,C2 g.cond⟩] (H0 g.k g.name g.cond g.ch g.tg.l g.vl.l g.time) _ (Rd.ofPt rfl (by decide) Me) (A9 (iR r29 p29 q29) F6) (by decide) (A9 (Nat.le_trans (H1 _) (by decide)) F6) (by rw[e9];simp) (hT) hn) ?_;rintro _ _ ⟨a31,c31,rfl⟩;refine WL.nil (B4 [] (h'':=prB b a31 c31 (C8 st (d,H0 g.k g.name g.cond g.ch g.tg.l g.vl.l g.time))::prW a31 c31 (C8 st (d,H0 g.k g.name g.cond g.ch g.tg.l g.vl.l g.time))::.pt b4 (.cells (guE g).toArray 100 (0,0))::h) ?_ Su Sb ⟨a31,c31,by trivial,rfl,rfl⟩);exact Su;refine Z2 ?_;refine wE ?_ ?_<;>intro c32
 have e9:=H0.eq_1 g.k g.name g.cond g.ch g.tg.l g.vl.l g.time;rw[if_neg c23,if_pos c32]at e9;refine kA3 ?_;refine xY P6 Eb λb37=>?_
 refine xJ (E1 Et) (D1 hg _ 1 _ [[83,75,73,80]] _ Rr (by decide) (by decide)) λa38 c38=>?_;refine xY H9 Eb λb39=>?_
 refine kR a6 λp6 q6 r6=>?_;refine kR a38 λp38 q38 r38=>?_
 refine pP (prB b a c st) (prW a c st) ?_;refine xg (E3 Et Et Et) (I6 hg hp b a c st d _ 2 _ [⟨a6,c6,a0X g.cond⟩,⟨a38,c38,[A0 [83,75,73,80]]⟩] (H0 g.k g.name g.cond g.ch g.tg.l g.vl.l g.time) _ (Rd.ofPt rfl (by decide) Me) (A9 (iR r6 p6 q6) (A9 (iR r38 p38 q38) F6)) (by decide) (A9 (b2T _) (A9 (by simp) F6)) (by rw[e9];simp) (hT) hn) ?_;rintro _ _ ⟨a40,c40,rfl⟩;refine WL.nil (B4 [] (h'':=prB b a40 c40 (C8 st (d,H0 g.k g.name g.cond g.ch g.tg.l g.vl.l g.time))::prW a40 c40 (C8 st (d,H0 g.k g.name g.cond g.ch g.tg.l g.vl.l g.time))::.pt b4 (.cells (guE g).toArray 100 (0,0))::h) ?_ Su Sb ⟨a40,c40,by trivial,rfl,rfl⟩);exact Su;refine Z2 ?_;refine wE ?_ ?_<;>intro c41
 have e9:=H0.eq_1 g.k g.name g.cond g.ch g.tg.l g.vl.l g.time;rw[if_neg c23,if_neg c32,if_pos c41]at e9;refine kA5 ?_;refine xJ (E1 Et) (M5 hg g.ch _ (hO.ch.mono Sb)) λa48 c48=>?_
 refine xY P6 Eb λb49=>?_;refine xJ (E1 Et) (D1 hg _ 1 _ [[63]] _ Rr (by decide) (by decide)) λa50 c50=>?_
 refine kA1 ?_;refine xY H9 Eb λb52=>?_;refine kR a6 λp6 q6 r6=>?_
 refine kR a48 λp48 q48 r48=>?_;refine kR a50 λp50 q50 r50=>?_
 refine kR a20 λp20 q20 r20=>?_;refine pP (prB b a c st) (prW a c st) ?_;refine xg (E3 Et Et Et) (I6 hg hp b a c st d _ 4 _ [⟨a6,c6,a0X g.cond⟩,⟨a48,c48,C2 g.ch⟩,⟨a50,c50,[A0 [63]]⟩,⟨a20,c20,B6 [59] C2 g.tg.l⟩] (H0 g.k g.name g.cond g.ch g.tg.l g.vl.l g.time) _ (Rd.ofPt rfl (by decide) Me) (A9 (iR r6 p6 q6) (A9 (iR r48 p48 q48) (A9 (iR r50 p50 q50) (A9 (iR r20 p20 q20) F6)))) (by decide) (A9 (b2T _) (A9 (Nat.le_trans (H1 _) (by decide)) (A9 (by simp) (A9 (Nat.le_trans (a5N [59] g.tg.l (by omega)) (by decide)) F6)))) (by rw[e9];simp) (hT) hn) ?_;rintro _ _ ⟨a53,c53,rfl⟩;refine WL.nil (B4 [] (h'':=prB b a53 c53 (C8 st (d,H0 g.k g.name g.cond g.ch g.tg.l g.vl.l g.time))::prW a53 c53 (C8 st (d,H0 g.k g.name g.cond g.ch g.tg.l g.vl.l g.time))::.pt b4 (.cells (guE g).toArray 100 (0,0))::h) ?_ Su Sb ⟨a53,c53,by trivial,rfl,rfl⟩);exact Su;refine Z2 ?_;refine wE ?_ ?_<;>intro c54
 have e9:=H0.eq_1 g.k g.name g.cond g.ch g.tg.l g.vl.l g.time;rw[if_neg c23,if_neg c32,if_neg c41,if_pos c54]at e9;refine jE ?_;refine a1g [5,6,7,4096] (.op 0 (.op 1 (.op 2 (.op 3 (.op 4 (.op 8 (.op 9 (.op 5 (.op 6 (.op 7 .nil)))))))))) [10,11,12] _ [] C4 (λ_ _ _ h=>a2s h) [0,1,2] (by kernel_rfl) ?_;refine kA7 ?_;refine C5 rfl rfl Ef (E1 Et) (λfr=>M5 hg g.ch _ (hO.ch.mono Sb)) Lb λa61 c61=>?_
 refine sB rfl P6 λb62=>?_;refine C5 rfl rfl Ef (E1 (Ev.tmp rfl)) (λfr=>D1 hg _ 2 _ [[63],[65,70,84,69,82]] _ (Rd.fr Rr fr) (by decide) (by decide)) Lb λa63 c63=>?_
 refine SR.nil rfl rfl ?_;refine xJ (E1 Et) (M5 hg g.time _ (hO.time.mono Sb)) λa66 c66=>?_;refine xY H9 Eb λb67=>?_
 refine kR a6 λp6 q6 r6=>?_;refine kR a61 λp61 q61 r61=>?_
 refine kR a63 λp63 q63 r63=>?_;refine kR a66 λp66 q66 r66=>?_
 refine pP (prB b a c st) (prW a c st) ?_;refine xg (E3 Et Et Et) (I6 hg hp b a c st d _ 4 _ [⟨a6,c6,a0X g.cond⟩,⟨a61,c61,C2 g.ch⟩,⟨a63,c63,[A0 [63],A0 [65,70,84,69,82]]⟩,⟨a66,c66,C2 g.time⟩] (H0 g.k g.name g.cond g.ch g.tg.l g.vl.l g.time) _ (Rd.ofPt rfl (by decide) Me) (A9 (iR r6 p6 q6) (A9 (iR r61 p61 q61) (A9 (iR r63 p63 q63) (A9 (iR r66 p66 q66) F6)))) (by decide) (A9 (b2T _) (A9 (Nat.le_trans (H1 _) (by decide)) (A9 (by simp) (A9 (Nat.le_trans (H1 _) (by decide)) F6)))) (by rw[e9];simp) (hT) hn) ?_;rintro _ _ ⟨a68,c68,rfl⟩;refine WL.nil (B4 [] (h'':=prB b a68 c68 (C8 st (d,H0 g.k g.name g.cond g.ch g.tg.l g.vl.l g.time))::prW a68 c68 (C8 st (d,H0 g.k g.name g.cond g.ch g.tg.l g.vl.l g.time))::.pt b4 (.cells (guE g).toArray 100 (0,0))::h) ?_ Su Sb ⟨a68,c68,by trivial,rfl,rfl⟩);exact Su;refine Z2 ?_;refine wE ?_ ?_<;>intro c69
 have e9:=H0.eq_1 g.k g.name g.cond g.ch g.tg.l g.vl.l g.time;rw[if_neg c23,if_neg c32,if_neg c41,if_neg c54,if_pos c69]at e9;refine kA4 ?_;refine xJ (E3 Et Ek Ef) (a4d 65 C2 [44] _ _ _ g.vl.l _ (hO.vl.rd.mono Vl Sb) (by omega) (λx _=>Nat.le_trans (H1 x) (by decide)) (λx hx h2 hh=>M5 hg x h2 ((hO.vl.ok x hx).mono (List.Sublist.trans Sb hh)))) λa75 c75=>?_
 refine xY H9 Eb λb76=>?_;refine kR a75 λp75 q75 r75=>?_
 refine pP (prB b a c st) (prW a c st) ?_;refine xg (E3 Et Et Et) (I6 hg hp b a c st d _ 1 _ [⟨a75,c75,B6 [44] C2 g.vl.l⟩] (H0 g.k g.name g.cond g.ch g.tg.l g.vl.l g.time) _ (Rd.ofPt rfl (by decide) Me) (A9 (iR r75 p75 q75) F6) (by decide) (A9 (R1 [44] g.vl.l (by omega)) F6) (by rw[e9];simp) (hT) hn) ?_;rintro _ _ ⟨a77,c77,rfl⟩;refine WL.nil (B4 [] (h'':=prB b a77 c77 (C8 st (d,H0 g.k g.name g.cond g.ch g.tg.l g.vl.l g.time))::prW a77 c77 (C8 st (d,H0 g.k g.name g.cond g.ch g.tg.l g.vl.l g.time))::.pt b4 (.cells (guE g).toArray 100 (0,0))::h) ?_ Su Sb ⟨a77,c77,by trivial,rfl,rfl⟩);exact Su;refine Z2 ?_;refine wE ?_ ?_<;>intro c78
 have e9:=H0.eq_1 g.k g.name g.cond g.ch g.tg.l g.vl.l g.time;rw[if_neg c23,if_neg c32,if_neg c41,if_neg c54,if_neg c69,if_pos c78]at e9;refine kA2 ?_;refine xY P6 Eb λb82=>?_
 refine xJ (E1 Et) (D1 hg _ 1 _ [[69,76,83,69]] _ Rr (by decide) (by decide)) λa83 c83=>?_;refine xY H9 Eb λb84=>?_
 refine kR a83 λp83 q83 r83=>?_;refine pP (prB b a c st) (prW a c st) ?_;refine xg (E3 Et Et Et) (I6 hg hp b a c st d _ 1 _ [⟨a83,c83,[A0 [69,76,83,69]]⟩] (H0 g.k g.name g.cond g.ch g.tg.l g.vl.l g.time) _ (Rd.ofPt rfl (by decide) Me) (A9 (iR r83 p83 q83) F6) (by decide) (A9 (by simp) F6) (by rw[e9];simp) (hT) hn) ?_;rintro _ _ ⟨a85,c85,rfl⟩;refine WL.nil (B4 [] (h'':=prB b a85 c85 (C8 st (d,H0 g.k g.name g.cond g.ch g.tg.l g.vl.l g.time))::prW a85 c85 (C8 st (d,H0 g.k g.name g.cond g.ch g.tg.l g.vl.l g.time))::.pt b4 (.cells (guE g).toArray 100 (0,0))::h) ?_ Su Sb ⟨a85,c85,by trivial,rfl,rfl⟩);exact Su;refine Z2 ?_;refine wE ?_ ?_<;>intro c86
 have e9:=H0.eq_1 g.k g.name g.cond g.ch g.tg.l g.vl.l g.time;rw[if_neg c23,if_neg c32,if_neg c41,if_neg c54,if_neg c69,if_neg c78]at e9;refine kA4 ?_;refine xJ (E1 Et) (a2W g.name _ _) λa92 c92=>?_
 refine kA1 ?_;refine kR a20 λp20 q20 r20=>?_;refine xJ (E2 Ek Et) (b4x hg [59] (by decide) _ _ _ (B6 [59] C2 g.tg.l) _ (iR r20 p20 q20) (Nat.le_trans (a5N [59] g.tg.l (by omega)) (by decide))) λa94 c94=>?_
 refine xY H9 Eb λb95=>?_;refine kR a92 λp92 q92 r92=>?_
 refine kR a94 λp94 q94 r94=>?_;refine pP (prB b a c st) (prW a c st) ?_;refine xg (E3 Et Et Et) (I6 hg hp b a c st d _ 2 _ [⟨a92,c92,[E6 g.name]⟩,⟨a94,c94,M9 [59] (B6 [59] C2 g.tg.l)⟩] (H0 g.k g.name g.cond g.ch g.tg.l g.vl.l g.time) _ (Rd.ofPt rfl (by decide) Me) (A9 (iR r92 p92 q92) (A9 (iR r94 p94 q94) F6)) (by decide) (A9 (by simp) (A9 (a8V [59] (a5N [59] g.tg.l (by omega))) F6)) (by rw[e9];simp) (hT) hn) ?_;rintro _ _ ⟨a96,c96,rfl⟩;refine WL.nil (B4 [] (h'':=prB b a96 c96 (C8 st (d,H0 g.k g.name g.cond g.ch g.tg.l g.vl.l g.time))::prW a96 c96 (C8 st (d,H0 g.k g.name g.cond g.ch g.tg.l g.vl.l g.time))::.pt b4 (.cells (guE g).toArray 100 (0,0))::h) ?_ Su Sb ⟨a96,c96,by trivial,rfl,rfl⟩);exact Su;omega;rintro _ _ ⟨a9,c9,hJ,rfl,rfl⟩;refine B2 rfl ?_;refine kA3 ?_;refine xG (D8 T9.und T9.size T9.posz (Ev.tmp rfl) Ek Rr rfl (q:=0) (by omega)) ?_;refine kA3 ?_
 refine xg (E3 Et Et Et) (hy3 b a9 c9 (C8 st (d,H0 g.k g.name g.cond g.ch g.tg.l g.vl.l g.time)) (d+1) _ (hy1.mono Sb) hy2 (by omega) (W8 hn)) ?_;rintro _ _ ⟨a104,c104,rfl⟩;rw[<-a1D,<-hlg];refine WL.nil (w0 (prB b a104 c104 (C1 st (U8 g d))::prW a104 c104 (C1 st (U8 g d))::h) ?_);exact⟨a104,c104,rfl⟩
end
section
open Go.Eng Go.Pc Go.Sx Go
open Go.Xp hiding B C9
open Go.Ty (Ty Vr Tok eqT tyV I7 A3 B8 O4 zeroK M8 D3 encV D2 prL prV PrOk VOk mayPr hdV)
open Go.Lx (encB encB_len textO)
open Go.Ly (Rw P4 F9)
theorem a5u{t:Ty}:TkL (G5 t):=by
 unfold G5 Go.Ty.tokens;split
 ·rename_i hm
  have hw:=b7L hm;have hd:=Go.Ty.may_dim hm;have h1:TkL (Go.Ty.dimT t):=by unfold Go.Ty.dimT;refine Q6 (a8k (a4R (p:=0) (by decide)) (a8k (λx hx=>?_) (a4R (p:=0) (by decide)))) a2q;rw[List.mem_singleton]at hx;subst hx;exact⟨(show -2147483648<=t.dim/\t.dim<=2147483647 by omega),Nat.zero_le _⟩
  have h2:TkL (Go.Ty.chanT t):=Q6 (a8k (a4R (p:=0) (by decide)) (a4R (p:=0) (by decide))) a2q;have h3:TkL [Go.Ty.lastT t]:=by
   unfold Go.Ty.lastT;split
   ·refine a4R (p:=0) ?_
    have:∀k,(Go.Ty.wordS k).1.length<=10:=λk=>by
     unfold Go.Ty.wordS Go.Ty.prims Go.Ty.wordIn Go.Ty.wordIn Go.Ty.wordIn Go.Ty.wordIn;repeat' split
     all_goals decide
    exact Nat.le_trans (this _) (by decide)
   ·split
    ·exact a4R (p:=0) hw.p
    ·exact a4R (p:=0) (by decide)
  exact F7 (F7 h1 h2) h3
 ·exact a2q
theorem c0G{f:Fo}(h:FoW f):TkL (M3 f):=F7 (F7 (Q6 (Y4 (by decide)) a2q) a5u) (b09 h.n)
theorem a2h{l:List B}(h:∀x∈l,x.length<=Big):TkL (D0 l):=b2o (by decide) λx hx=>b09 (h x hx)
theorem b2H{l:List Int}:TkL (B6 [59] L9 l):=b2o (by decide) λ_ _=>a5u
theorem V0(l:List B)(h:l.length<=9):(D0 l).length<=30000:=by
 have h1:=a3O [44] (λs=>[E6 s]) 1 l λx _=>Nat.le_refl _
 unfold D0;omega
theorem b3d(k:Int):(L9 k).length<=10:=a03 _
theorem a3X(sep:B)(l:List Int)(h:l.length<=9):(B6 sep L9 l).length<=25000:=by
 have h1:=a3O sep L9 10 l λx _=>b3d x
 omega
theorem b1E(f:Fo):(M3 f).length<=20:=by unfold M3;have:=a03 f.ty;rw[List.length_append,List.length_append];split<;>simp only[List.length_singleton,List.length_nil]<;>omega
theorem c3n(sep:B)(l:List Fo)(h:l.length<=9):(B6 sep M3 l).length<=30000:=by
 have h1:=a3O sep M3 20 l λx _=>b1E x
 omega
theorem b0w{s:Sp}(h:spP s=true):(1<=s.k/\s.k<=5)/\s.names.l.length<=8/\(s.k=5->s.bl.length=1/\s.fs.l.length<=8)/\(s.k=4->mayPr s.cs s.vs.l=true):=by
 unfold spP at h;split at h
 ·rename_i hk
  simp only[Bool.and_eq_true]at h;obtain⟨⟨h1,h2⟩,-⟩:=h;have h3:=(a05 h2).2.2;refine⟨hk,by split at h3<;>omega,λh5=>?_,λh4=>?_⟩
  ·unfold a1j at h1
   rw[if_neg (by omega),if_neg (by omega),if_neg (by omega),if_neg (by omega)]at h1;simp only[Bool.and_eq_true,beq_iff_eq]at h1;have:=(a05 h1.2).2.2;exact⟨by omega,by omega⟩
  ·unfold a1j at h1
   rw[if_neg (by omega),if_neg (by omega),if_neg (by omega),if_pos h4]at h1;exact h1
 ·cases h
theorem b1R{cs:Bool}{l:List Vr}(h:mayPr cs l=true):1<=l.length/\l.length<=16:=by
 unfold Go.Ty.mayPr at h;cases cs with
 |false=>simp only[Bool.not_false,if_true,Bool.and_eq_true,beq_iff_eq]at h;omega
 |true=>
  simp only[Bool.not_true,Bool.false_eq_true,if_false]at h;split at h
  ·cases h
  ·rename_i q
   simp only[Bool.or_eq_true,decide_eq_true_eq]at q;omega
theorem b1n:∀{l pre:List Vr},Go.Ty.mayIn pre l=true->∀v∈l,v.tag.length<=Big
 | [],_,_,v,hv=>by cases hv
 |w::r,pre,h,v,hv=>by
  unfold Go.Ty.mayIn at h;split at h
  ·cases h
  ·rename_i q
   cases hv with
   |head=>unfold Go.Ty.badV at q;simp only[Bool.or_eq_true,Bool.not_eq_true',not_or,Bool.not_eq_false]at q;have q1:=q.1.1;unfold Go.Lx.name at q1;simp only[Bool.and_eq_true,decide_eq_true_eq]at q1;have q2:=q1.1.1.1.2;unfold Big;omega
   |tail _ hv=>exact b1n h v hv
theorem b1s{cs:Bool}{l:List Vr}(h:mayPr cs l=true):∀v∈l,v.tag.length<=Big:=by
 unfold Go.Ty.mayPr at h;cases cs with
 |false=>
  simp only[Bool.not_false,if_true,Bool.and_eq_true,beq_iff_eq]at h;intro v hv;match l,h.1.1,h.1.2,hv with
  | [w],_,h2,hv=>
   have:v=w:=by simpa using hv
   subst this;have h3:v.tag=[]:=h2;rw[h3];exact Nat.zero_le _
 |true=>
  simp only[Bool.not_true,Bool.false_eq_true,if_false]at h;split at h
  ·cases h
  ·exact b1n h
theorem a8a(s:Sp)(d:Int):J3 s d=if s.k=1 then[(d,(G5 s.ty++D0 s.names.l)++[A0 [58]])]
 else if s.k=2 then[(d,(((([A0 [86,65,76]]++G5 s.ty)++D0 s.names.l)++[A0 [73,83]])++C2 s.e)++[A0 [58]])]
 else if s.k=3 then[(d,(((G5 s.ty++D0 s.names.l)++[A0 [73,83]])++C2 s.e)++[A0 [58]])]
 else if s.k=5 then(d,((([A0 [80,82,79,67]]++D0 s.names.l)++[A0 [40]])++B6 [44] M3 s.fs.l)++[A0 [41]])::(a0n s.bl (d+1)++[(d,[A0 [58]])])
 else if s.cs=false then[(d,((([A0 [80,82,79,84,79,67,79,76]]++D0 s.names.l)++[A0 [73,83]])++B6 [59] L9 (hdV s.vs.l).items)++[A0 [58]])]
 else(d,[A0 [80,82,79,84,79,67,79,76]]++D0 s.names.l)::(d+1,[A0 [67,65,83,69]])::(s.vs.l.map (λv=>((d+2,K2 v):Ln))++[(d,[A0 [58]])]):=by cases s;rfl
theorem c1G{l:List Vr}(h:1<=l.length):l[0]?=some (hdV l):=by cases l with|nil=>simp at h|cons v l=>rfl
theorem b6u(st:Ps)(l:List Ln)(x:Ln):C8 (C1 st l) x=C1 st (l++[x]):=by rw[a0S];rfl
theorem c0E{m:View}(hg:Glob m)(hp:Pow m)(s:Sp)(b:Nat)(a:Option Addr)(c:Nat)(st:Ps)(d:Int)(h:List Res)(hO:SOk m h s)(hu:spP s=true)(hS:∀x∈s.bl,POk m h x/\Vld x/\PRC m x/\d+1+2*(P9 x:Int)<=100000)(hd:0<=d/\d<=100000)(hn:st.1.length<=2049) :
 CT prog 32 [ptV b,spV s,.int .i64 d] (prB b a c st::prW a c st::h) m (λ_ _ h'=>PrR b h (C1 st (J3 s d)) h'):=by
 obtain⟨hk,hnl,h5,h4⟩:=b0w hu;have hty:s.ty.proto.length<=9223372036854775807:=Nat.le_trans hO.ty.p (by decide);have hls:=a8a s d;have hfw:=hO.fw;refine cB [0,2,4,6,8,13,14,26,45,62,92,97,132,133,134,135] func32 λ_=>?_;refine xX λb4=>?_
 refine ZZ [0,2] ?_;refine xJ (E3 Et Ek Ef) (b9y 63 (λs=>[E6 s]) [44] _ _ _ s.names.l _ (hO.nr.mono Vl Sb) (by omega) (λ_ _=>(by decide:1<=3000)) (λx _ h2 _=>a2W x h2 m)) λa11 c11=>?_;refine ZZ [1,2,2,0] ?_;refine wE ?_ ?_<;>intro c14
 obtain⟨T1,hT1⟩:∃T,T=(G5 s.ty++D0 s.names.l)++[A0 [58]]:=⟨_,rfl⟩;rw[if_pos c14,<-hT1]at hls;refine kA4 ?_;refine xJ (E1 Et) (a2H hg s.ty _ hty) λa20 c20=>?_
 refine kA1 ?_;refine xY P6 Eb λb22=>?_;refine xJ (E1 Et) (D1 hg _ 1 _ [[58]] _ Rr (by decide) (by decide)) λa23 c23=>?_
 refine xY H9 Eb λb24=>?_;refine kR a20 λp20 q20 r20=>?_
 refine kR a11 λp11 q11 r11=>?_;refine kR a23 λp23 q23 r23=>?_
 refine pP (prB b a c st) (prW a c st) ?_;refine xg (E3 Et Et Et) (I6 hg hp b a c st d _ 3 _ [⟨a20,c20,G5 s.ty⟩,⟨a11,c11,D0 s.names.l⟩,⟨a23,c23,[A0 [58]]⟩] (T1) _ (Rd.ofPt rfl (by decide) Me) (A9 (iR r20 p20 q20) (A9 (iR r11 p11 q11) (A9 (iR r23 p23 q23) F6))) (by decide) (A9 (Nat.le_trans (a03 _) (by decide)) (A9 (V0 s.names.l (by omega)) (A9 (by simp) F6))) (by rw[hT1];simp) (by rw[hT1];exact F7 (F7 a5u (a2h hO.nw)) (Y4 (by decide))) hn) ?_;rintro _ _ ⟨a25,c25,rfl⟩;rw[show C8 st (d,T1)=C1 st (J3 s d) by rw[hls];rfl];refine WL.nil (w0 (prB b a25 c25 (C1 st (J3 s d))::prW a25 c25 (C1 st (J3 s d))::h) ?_);exact⟨a25,c25,rfl⟩;refine Z2 ?_;refine wE ?_ ?_<;>intro c26
 obtain⟨T2,hT2⟩:∃T,T=(((([A0 [86,65,76]]++G5 s.ty)++D0 s.names.l)++[A0 [73,83]])++C2 s.e)++[A0 [58]]:=⟨_,rfl⟩;rw[if_neg c14,if_pos c26,<-hT2]at hls;refine jE ?_;refine a1g [2,3,6,8,9,12,13,4096] (.op 0 (.op 1 (.op 4 (.op 5 (.op 7 (.op 10 (.op 11 (.op 2 (.op 3 (.op 6 (.op 8 (.op 9 (.op 12 (.op 13 .nil)))))))))))))) [14,15,16] _ [] C4 (λ_ _ _ h=>a2s h) [0,1,7] (by kernel_rfl) ?_;refine kA7 ?_;refine sB rfl P6 λb30=>?_
 refine C5 rfl rfl Ef (E1 (Ev.tmp rfl)) (λfr=>D1 hg _ 1 _ [[86,65,76]] _ (Rd.fr Rr fr) (by decide) (by decide)) Lb λa31 c31=>?_;refine C5 rfl rfl Ef (E1 Et) (λfr=>a2H hg s.ty _ hty) Lb λa34 c34=>?_
 refine sB rfl P6 λb36=>?_;refine C5 rfl rfl Ef (E1 (Ev.tmp rfl)) (λfr=>D1 hg _ 1 _ [[73,83]] _ (Rd.fr Rr fr) (by decide) (by decide)) Lb λa37 c37=>?_
 refine C5 rfl rfl Ef (E1 Et) (λfr=>M5 hg s.e _ (hO.e.mono Sb)) Lb λa40 c40=>?_;refine sB rfl P6 λb41=>?_
 refine SR.nil rfl rfl ?_;refine xJ (E1 Et) (D1 hg _ 1 _ [[58]] _ Rr (by decide) (by decide)) λa42 c42=>?_;refine xY H9 Eb λb43=>?_
 refine kR a31 λp31 q31 r31=>?_;refine kR a34 λp34 q34 r34=>?_
 refine kR a11 λp11 q11 r11=>?_;refine kR a37 λp37 q37 r37=>?_
 refine kR a40 λp40 q40 r40=>?_;refine kR a42 λp42 q42 r42=>?_
 refine pP (prB b a c st) (prW a c st) ?_;refine xg (E3 Et Et Et) (I6 hg hp b a c st d _ 6 _ [⟨a31,c31,[A0 [86,65,76]]⟩,⟨a34,c34,G5 s.ty⟩,⟨a11,c11,D0 s.names.l⟩,⟨a37,c37,[A0 [73,83]]⟩,⟨a40,c40,C2 s.e⟩,⟨a42,c42,[A0 [58]]⟩] (T2) _ (Rd.ofPt rfl (by decide) Me) (A9 (iR r31 p31 q31) (A9 (iR r34 p34 q34) (A9 (iR r11 p11 q11) (A9 (iR r37 p37 q37) (A9 (iR r40 p40 q40) (A9 (iR r42 p42 q42) F6)))))) (by decide) (A9 (by simp) (A9 (Nat.le_trans (a03 _) (by decide)) (A9 (V0 s.names.l (by omega)) (A9 (by simp) (A9 (Nat.le_trans (H1 _) (by decide)) (A9 (by simp) F6)))))) (by rw[hT2];simp) (by rw[hT2];exact F7 (F7 (F7 (F7 (F7 (Y4 (by decide)) a5u) (a2h hO.nw)) (Y4 (by decide))) (a2j hO.e)) (Y4 (by decide))) hn) ?_;rintro _ _ ⟨a44,c44,rfl⟩;rw[show C8 st (d,T2)=C1 st (J3 s d) by rw[hls];rfl];refine WL.nil (w0 (prB b a44 c44 (C1 st (J3 s d))::prW a44 c44 (C1 st (J3 s d))::h) ?_);exact⟨a44,c44,rfl⟩
 refine Z2 ?_;refine wE ?_ ?_<;>intro c45
 obtain⟨T3,hT3⟩:∃T,T=(((G5 s.ty++D0 s.names.l)++[A0 [73,83]])++C2 s.e)++[A0 [58]]:=⟨_,rfl⟩;rw[if_neg c14,if_neg c26,if_pos c45,<-hT3]at hls;refine jE ?_;refine a1g [4,6,7,10,11,4096] (.op 0 (.op 1 (.op 2 (.op 3 (.op 5 (.op 8 (.op 9 (.op 4 (.op 6 (.op 7 (.op 10 (.op 11 .nil)))))))))))) [12,13,14] _ [] C4 (λ_ _ _ h=>a2s h) [0,1,5] (by kernel_rfl) ?_;refine kA7 ?_;refine C5 rfl rfl Ef (E1 Et) (λfr=>a2H hg s.ty _ hty) Lb λa51 c51=>?_
 refine sB rfl P6 λb53=>?_;refine C5 rfl rfl Ef (E1 (Ev.tmp rfl)) (λfr=>D1 hg _ 1 _ [[73,83]] _ (Rd.fr Rr fr) (by decide) (by decide)) Lb λa54 c54=>?_
 refine C5 rfl rfl Ef (E1 Et) (λfr=>M5 hg s.e _ (hO.e.mono Sb)) Lb λa57 c57=>?_;refine sB rfl P6 λb58=>?_
 refine SR.nil rfl rfl ?_;refine xJ (E1 Et) (D1 hg _ 1 _ [[58]] _ Rr (by decide) (by decide)) λa59 c59=>?_;refine xY H9 Eb λb60=>?_
 refine kR a51 λp51 q51 r51=>?_;refine kR a11 λp11 q11 r11=>?_
 refine kR a54 λp54 q54 r54=>?_;refine kR a57 λp57 q57 r57=>?_
 refine kR a59 λp59 q59 r59=>?_;refine pP (prB b a c st) (prW a c st) ?_;refine xg (E3 Et Et Et) (I6 hg hp b a c st d _ 5 _ [⟨a51,c51,G5 s.ty⟩,⟨a11,c11,D0 s.names.l⟩,⟨a54,c54,[A0 [73,83]]⟩,⟨a57,c57,C2 s.e⟩,⟨a59,c59,[A0 [58]]⟩] (T3) _ (Rd.ofPt rfl (by decide) Me) (A9 (iR r51 p51 q51) (A9 (iR r11 p11 q11) (A9 (iR r54 p54 q54) (A9 (iR r57 p57 q57) (A9 (iR r59 p59 q59) F6))))) (by decide) (A9 (Nat.le_trans (a03 _) (by decide)) (A9 (V0 s.names.l (by omega)) (A9 (by simp) (A9 (Nat.le_trans (H1 _) (by decide)) (A9 (by simp) F6))))) (by rw[hT3];simp) (by rw[hT3];exact F7 (F7 (F7 (F7 a5u (a2h hO.nw)) (Y4 (by decide))) (a2j hO.e)) (Y4 (by decide))) hn) ?_;rintro _ _ ⟨a61,c61,rfl⟩;rw[show C8 st (d,T3)=C1 st (J3 s d) by rw[hls];rfl];refine WL.nil (w0 (prB b a61 c61 (C1 st (J3 s d))::prW a61 c61 (C1 st (J3 s d))::h) ?_);exact⟨a61,c61,rfl⟩;refine Z2 ?_;refine wE ?_ ?_<;>intro c62
 obtain⟨T5,hT5⟩:∃T,T=((([A0 [80,82,79,67]]++D0 s.names.l)++[A0 [40]])++B6 [44] M3 s.fs.l)++[A0 [41]]:=⟨_,rfl⟩;rw[if_neg c14,if_neg c26,if_neg c45,if_pos c62,<-hT5]at hls;obtain⟨hbl,hfl⟩:=h5 c62;obtain⟨y,hy⟩:=A5 (l:=s.bl) (k:=0) (by omega);obtain⟨hy1,hy2,hy3,hy4⟩:=hS y (List.mem_of_getElem? hy);have hrb:=hO.b;have hcy:=a2Y y;have hbe:s.bl=[y]:=by
  cases hb:s.bl with
  |nil=>rw[hb]at hy;cases hy
  |cons z r=>
   rw[hb]at hy hbl;cases hy;cases r with
   |nil=>rfl
   |cons u v=>simp at hbl
 refine jE ?_;refine a1g [2,3,5,6,9,10,4096] (.op 0 (.op 1 (.op 4 (.op 7 (.op 8 (.op 2 (.op 3 (.op 5 (.op 6 (.op 9 (.op 10 .nil))))))))))) [11,12,13] _ [] C4 (λ_ _ _ h=>a2s h) [0,1,4] (by kernel_rfl) ?_;refine kA5 ?_;refine sB rfl P6 λb66=>?_;refine C5 rfl rfl Ef (E1 (Ev.tmp rfl)) (λfr=>D1 hg _ 1 _ [[80,82,79,67]] _ (Rd.fr Rr fr) (by decide) (by decide)) Lb λa67 c67=>?_
 refine sB rfl P6 λb69=>?_;refine C5 rfl rfl Ef (E1 (Ev.tmp rfl)) (λfr=>D1 hg _ 1 _ [[40]] _ (Rd.fr Rr fr) (by decide) (by decide)) Lb λa70 c70=>?_
 refine C5 rfl rfl Ef (E3 Et Ek Ef) (λfr=>b9o 67 M3 [44] _ _ _ s.fs.l _ (hO.fr.mono Vl Sb) (by omega) (λx _=>Nat.le_trans (b1E x) (by decide)) (λx hx h2 _=>b6E hg x h2 (hO.fw x hx))) Lb λa73 c73=>?_;refine sB rfl P6 λb74=>?_
 refine SR.nil rfl rfl ?_;refine xJ (E1 Et) (D1 hg _ 1 _ [[41]] _ Rr (by decide) (by decide)) λa75 c75=>?_;refine xY H9 Eb λb76=>?_
 refine kR a67 λp67 q67 r67=>?_;refine kR a11 λp11 q11 r11=>?_
 refine kR a70 λp70 q70 r70=>?_;refine kR a73 λp73 q73 r73=>?_
 refine kR a75 λp75 q75 r75=>?_;refine pP (prB b a c st) (prW a c st) ?_;refine xg (E3 Et Et Et) (I6 hg hp b a c st d _ 5 _ [⟨a67,c67,[A0 [80,82,79,67]]⟩,⟨a11,c11,D0 s.names.l⟩,⟨a70,c70,[A0 [40]]⟩,⟨a73,c73,B6 [44] M3 s.fs.l⟩,⟨a75,c75,[A0 [41]]⟩] (T5) _ (Rd.ofPt rfl (by decide) Me) (A9 (iR r67 p67 q67) (A9 (iR r11 p11 q11) (A9 (iR r70 p70 q70) (A9 (iR r73 p73 q73) (A9 (iR r75 p75 q75) F6))))) (by decide) (A9 (by simp) (A9 (V0 s.names.l (by omega)) (A9 (by simp) (A9 (c3n [44] s.fs.l (by omega)) (A9 (by simp) F6))))) (by rw[hT5];simp) (by rw[hT5];exact F7 (F7 (F7 (F7 (Y4 (by decide)) (a2h hO.nw)) (Y4 (by decide))) (b2o (by decide) λx hx=>c0G (hO.fw x hx))) (Y4 (by decide))) hn) ?_;rintro _ _ ⟨a77,c77,rfl⟩;refine ZZ [0,3] ?_;refine xG (D8 T9.und T9.size T9.posz (Ev.tmp rfl) Ek Rr rfl (q:=0) (by omega)) ?_;refine kA3 ?_;refine pP (prB b a77 c77 (C8 st (d,T5))) (prW a77 c77 (C8 st (d,T5))) ?_
 refine xg (E3 Et Et Et) (hy3 b a77 c77 (C8 st (d,T5)) (d+1) _ (hy1.mono Sb) hy2 (by omega) (W8 hn)) ?_;rintro _ _ ⟨a85,c85,rfl⟩;refine ZZ [0,2] ?_;refine xY P6 Eb λb88=>?_;refine xJ (E1 Et) (D1 hg _ 1 _ [[58]] _ Rr (by decide) (by decide)) λa89 c89=>?_
 refine xY H9 Eb λb90=>?_;refine kR a89 λp89 q89 r89=>?_
 refine pP (prB b a85 c85 (C1 (C8 st (d,T5)) (D6 y (d+1)))) (prW a85 c85 (C1 (C8 st (d,T5)) (D6 y (d+1)))) ?_;refine xg (E3 Et Et Et) (I6 hg hp b a85 c85 (C1 (C8 st (d,T5)) (D6 y (d+1))) d _ 1 _ [⟨a89,c89,[A0 [58]]⟩] ([A0 [58]]) _ (Rd.ofPt rfl (by decide) Me) (A9 (iR r89 p89 q89) F6) (by decide) (A9 (by simp) F6) (by simp) ((Y4 (by decide))) (a0R _ (W8 hn))) ?_;rintro _ _ ⟨a91,c91,rfl⟩;rw[show C8 (C1 (C8 st (d,T5)) (D6 y (d+1))) (d,[A0 [58]])=C1 st (J3 s d) by rw[hls,a1D,a0S,hbe];rfl];refine WL.nil (w0 (prB b a91 c91 (C1 st (J3 s d))::prW a91 c91 (C1 st (J3 s d))::h) ?_);exact⟨a91,c91,rfl⟩;refine Z2 ?_;refine wE ?_ ?_<;>intro c92
 have hm:=h4 c92;obtain⟨hv1,hv2⟩:=b1R hm;have hv3:=Go.Ty.mayPr_items hm;have hvg:=b1s hm;have hg0:=c1G hv1;have hgm:=List.mem_of_getElem? hg0;have hvr:=hO.v.rd;have hvi:=(hO.v.ok _ hgm).rd;have hvn:=hO.vw _ hgm;have hv3h:=hv3 _ hgm;rw[if_neg c14,if_neg c26,if_neg c45,if_neg c62]at hls;refine Z4 ?_;refine wc ?_ ?_<;>intro c97
 have d97:s.cs=false:=by simpa using c97
 obtain⟨T4,hT4⟩:∃T,T=((([A0 [80,82,79,84,79,67,79,76]]++D0 s.names.l)++[A0 [73,83]])++B6 [59] L9 (hdV s.vs.l).items)++[A0 [58]]:=⟨_,rfl⟩;rw[if_pos d97,<-hT4]at hls;refine jE ?_;refine a1g [2,3,5,6,13,14,4096] (.op 0 (.op 1 (.op 4 (.op 7 (.op 8 (.op 9 (.op 10 (.op 11 (.op 12 (.op 2 (.op 3 (.op 5 (.op 6 (.op 13 (.op 14 .nil))))))))))))))) [15,16,17] _ [] C4 (λ_ _ _ h=>a2s h) [0,1,4] (by kernel_rfl) ?_;refine kA6 ?_;refine yG rfl (D8 a0m.und a0m.size a0m.posz (Ev.tmp rfl) Ek Rr rfl (q:=0) (by omega)) ?_;refine kA2 ?_;refine sB rfl P6 λb100=>?_
 refine C5 rfl rfl Ef (E1 (Ev.tmp rfl)) (λfr=>D1 hg _ 1 _ [[80,82,79,84,79,67,79,76]] _ (Rd.fr Rr fr) (by decide) (by decide)) Lb λa101 c101=>?_;refine sB rfl P6 λb103=>?_
 refine C5 rfl rfl Ef (E1 (Ev.tmp rfl)) (λfr=>D1 hg _ 1 _ [[73,83]] _ (Rd.fr Rr fr) (by decide) (by decide)) Lb λa104 c104=>?_;refine C5 rfl rfl Ef (E3 Et Ek Ef) (λfr=>b2g 69 L9 [59] _ _ _ (hdV s.vs.l).items _ (hvi.mono Vl Sb) (by omega) (λx _=>Nat.le_trans (b3d x) (by decide)) (λx _ h2 _=>b5K hg x h2)) Lb λa111 c111=>?_
 refine sB rfl P6 λb112=>?_;refine SR.nil rfl rfl ?_;refine xJ (E1 Et) (D1 hg _ 1 _ [[58]] _ Rr (by decide) (by decide)) λa113 c113=>?_
 refine xY H9 Eb λb114=>?_;refine kR a101 λp101 q101 r101=>?_
 refine kR a11 λp11 q11 r11=>?_;refine kR a104 λp104 q104 r104=>?_
 refine kR a111 λp111 q111 r111=>?_;refine kR a113 λp113 q113 r113=>?_
 refine pP (prB b a c st) (prW a c st) ?_;refine xg (E3 Et Et Et) (I6 hg hp b a c st d _ 5 _ [⟨a101,c101,[A0 [80,82,79,84,79,67,79,76]]⟩,⟨a11,c11,D0 s.names.l⟩,⟨a104,c104,[A0 [73,83]]⟩,⟨a111,c111,B6 [59] L9 (hdV s.vs.l).items⟩,⟨a113,c113,[A0 [58]]⟩] (T4) _ (Rd.ofPt rfl (by decide) Me) (A9 (iR r101 p101 q101) (A9 (iR r11 p11 q11) (A9 (iR r104 p104 q104) (A9 (iR r111 p111 q111) (A9 (iR r113 p113 q113) F6))))) (by decide) (A9 (by simp) (A9 (V0 s.names.l (by omega)) (A9 (by simp) (A9 (Nat.le_trans (a3X [59] (hdV s.vs.l).items (by omega)) (by decide)) (A9 (by simp) F6))))) (by rw[hT4];simp) (by rw[hT4];exact F7 (F7 (F7 (F7 (Y4 (by decide)) (a2h hO.nw)) (Y4 (by decide))) b2H) (Y4 (by decide))) hn) ?_;rintro _ _ ⟨a115,c115,rfl⟩;rw[show C8 st (d,T4)=C1 st (J3 s d) by rw[hls];rfl];refine Z0 ?_
 refine WC.ret (b2V (h':=prB b a115 c115 (C1 st (J3 s d))::prW a115 c115 (C1 st (J3 s d))::h) (.inl rfl) rfl  Vl Sb ?_);exact⟨a115,c115,rfl⟩;have d97:¬(s.cs=false):=by simpa using c97
 obtain⟨T6,hT6⟩:∃T,T=[A0 [80,82,79,84,79,67,79,76]]++D0 s.names.l:=⟨_,rfl⟩;rw[if_neg d97,<-hT6]at hls;refine ZZ [0,2] ?_;refine xY P6 Eb λb118=>?_
 refine xJ (E1 Et) (D1 hg _ 1 _ [[80,82,79,84,79,67,79,76]] _ Rr (by decide) (by decide)) λa119 c119=>?_;refine kA1 ?_;refine xY H9 Eb λb121=>?_
 refine kR a119 λp119 q119 r119=>?_;refine kR a11 λp11 q11 r11=>?_
 refine pP (prB b a c st) (prW a c st) ?_;refine xg (E3 Et Et Et) (I6 hg hp b a c st d _ 2 _ [⟨a119,c119,[A0 [80,82,79,84,79,67,79,76]]⟩,⟨a11,c11,D0 s.names.l⟩] (T6) _ (Rd.ofPt rfl (by decide) Me) (A9 (iR r119 p119 q119) (A9 (iR r11 p11 q11) F6)) (by decide) (A9 (by simp) (A9 (V0 s.names.l (by omega)) F6)) (by rw[hT6];simp) (by rw[hT6];exact F7 (Y4 (by decide)) (a2h hO.nw)) hn) ?_;rintro _ _ ⟨a122,c122,rfl⟩;refine ZZ [0,3] ?_;refine xY P6 Eb λb126=>?_;refine xJ (E1 Et) (D1 hg _ 1 _ [[67,65,83,69]] _ Rr (by decide) (by decide)) λa127 c127=>?_
 refine xY H9 Eb λb128=>?_;refine kR a127 λp127 q127 r127=>?_
 refine pP (prB b a122 c122 (C8 st (d,T6))) (prW a122 c122 (C8 st (d,T6))) ?_;refine xg (E3 Et Et Et) (I6 hg hp b a122 c122 (C8 st (d,T6)) (d+1) _ 1 _ [⟨a127,c127,[A0 [67,65,83,69]]⟩] ([A0 [67,65,83,69]]) _ (Rd.ofPt rfl (by decide) Me) (A9 (iR r127 p127 q127) F6) (by decide) (A9 (by simp) F6) (by simp) ((Y4 (by decide))) (W8 hn)) ?_;rintro _ _ ⟨a129,c129,rfl⟩;refine ZZ [0,5,0] ?_
 refine B1 [0,2,132,133] rfl (λμ F' h'=>∃a9:Option Addr,∃c9:Nat,∃j:Nat,(j<=s.vs.l.length)/\s.vs.l.length-j=μ/\F'=[(134,.int .i64 j)]/\prB b a9 c9 (C1 (C8 (C8 st (d,T6)) (d+1,[A0 [67,65,83,69]])) ((s.vs.l.take j).map λv=>((d+2,K2 v):Ln)))::prW a9 c9 (C1 (C8 (C8 st (d,T6)) (d+1,[A0 [67,65,83,69]])) ((s.vs.l.take j).map λv=>((d+2,K2 v):Ln)))::h=h') (s.vs.l.length-0) [(134,.int .i64 0)] (h0:=prB b a129 c129 (C1 (C8 (C8 st (d,T6)) (d+1,[A0 [67,65,83,69]])) ((s.vs.l.take 0).map λv=>((d+2,K2 v):Ln)))::prW a129 c129 (C1 (C8 (C8 st (d,T6)) (d+1,[A0 [67,65,83,69]])) ((s.vs.l.take 0).map λv=>((d+2,K2 v):Ln)))::h) ?_ Sb ⟨a129,c129,0,Nat.zero_le _,rfl,rfl,rfl⟩ ?_;exact Su;rintro _ _ _ ⟨a9,c9,j,hj,rfl,rfl,rfl⟩;refine B2 rfl ?_;refine Z1 ?_;refine wD ?_ ?_<;>intro c135
 obtain⟨v,hv⟩:=A5 (l:=s.vs.l) (k:=j) (by omega);have hvm:=List.mem_of_getElem? hv;have hvi:=(hO.v.ok _ hvm).rd;have hvn:=hO.vw _ hvm;have hv3v:=hv3 _ hvm;have hst:C8 (C1 (C8 (C8 st (d,T6)) (d+1,[A0 [67,65,83,69]])) ((s.vs.l.take j).map λv=>((d+2,K2 v):Ln))) (d+2,K2 v)=(C1 (C8 (C8 st (d,T6)) (d+1,[A0 [67,65,83,69]])) ((s.vs.l.take (j+1)).map λv=>((d+2,K2 v):Ln))):=by rw[U5 hv,List.map_append,List.map_singleton,<-b6u]
 have hvt:K2 v=[E6 v.tag]++M9 [59] (B6 [59] L9 v.items):=rfl;refine ZZ [0,2] ?_;refine xW λb8=>?_;refine Z1 ?_;refine a1g [5,8,9,10,4096] (.op 0 (.op 1 (.op 2 (.op 3 (.op 4 (.op 6 (.op 7 (.op 5 (.op 8 (.op 9 (.op 10 .nil))))))))))) [11] _ [] C4 (λ_ _ _ h=>a2s h) [] (by kernel_rfl) ?_;refine kA2 ?_;refine yG rfl (L6 Et Ek (by omega)) ?_;refine kA4 ?_;refine C5 rfl rfl Ef (E1 Et) (λfr=>a2W v.tag _ _) Lb λa143 c143=>?_
 refine C5 rfl rfl Ef (E3 Et Ek Ef) (λfr=>b2g 69 L9 [59] _ _ _ v.items _ (hvi.mono Vl Sb) (by omega) (λx _=>Nat.le_trans (b3d x) (by decide)) (λx _ h2 _=>b5K hg x h2)) Lb λa146 c146=>?_;refine C5 rfl rfl Ef (E2 Ek Et) (λfr=>CT.knowRow call70 (a:=a146) (List.mem_append_right _ Me) (λp9 q9 r9=>b4x hg [59] (by decide) _ _ _ (B6 [59] L9 v.items) _ (Rd.ofRow r9 p9 q9 (List.mem_append_right _ Me)) (Nat.le_trans (a3X [59] v.items (by omega)) (by decide)))) Lb λa147 c147=>?_
 refine sB rfl H9 λb148=>?_;refine SR.nil rfl rfl ?_;refine kR a143 λp143 q143 r143=>?_
 refine kR a147 λp147 q147 r147=>?_;refine pP (prB b a9 c9 (C1 (C8 (C8 st (d,T6)) (d+1,[A0 [67,65,83,69]])) ((s.vs.l.take j).map λv=>((d+2,K2 v):Ln)))) (prW a9 c9 (C1 (C8 (C8 st (d,T6)) (d+1,[A0 [67,65,83,69]])) ((s.vs.l.take j).map λv=>((d+2,K2 v):Ln)))) ?_;refine xg (E3 Et Et Et) (I6 hg hp b a9 c9 (C1 (C8 (C8 st (d,T6)) (d+1,[A0 [67,65,83,69]])) ((s.vs.l.take j).map λv=>((d+2,K2 v):Ln))) (d+2) _ 2 _ [⟨a143,c143,[E6 v.tag]⟩,⟨a147,c147,M9 [59] (B6 [59] L9 v.items)⟩] (K2 v) _ (Rd.ofPt rfl (by decide) Me) (A9 (iR r143 p143 q143) (A9 (iR r147 p147 q147) F6)) (by decide) (A9 (by simp) (A9 (a8V [59] (a3X [59] v.items (by omega))) F6)) (by rw[hvt];simp) (by rw[hvt];exact F7 (b09 (hvg v hvm)) (c1x (by decide) b2H)) (a0R _ (W8 (W8 hn)))) ?_;rintro _ _ ⟨a149,c149,rfl⟩;rw[hst];refine ZZ [0,2] ?_
 refine WL.nil (A6 (s.vs.l.length-(j+1)) [(134,.int .i64 (j+1))] (h'':=prB b a149 c149 (C1 (C8 (C8 st (d,T6)) (d+1,[A0 [67,65,83,69]])) ((s.vs.l.take (j+1)).map λv=>((d+2,K2 v):Ln)))::prW a149 c149 (C1 (C8 (C8 st (d,T6)) (d+1,[A0 [67,65,83,69]])) ((s.vs.l.take (j+1)).map λv=>((d+2,K2 v):Ln)))::h) (by omega) ?_ Su Sb ⟨a149,c149,j+1,by omega,rfl,rfl,rfl⟩);exact Su;rw[List.take_of_length_le (by omega)];refine ZZ [0,2] ?_;refine xY P6 Eb λb153=>?_;refine xJ (E1 Et) (D1 hg _ 1 _ [[58]] _ Rr (by decide) (by decide)) λa154 c154=>?_
 refine xY H9 Eb λb155=>?_;refine kR a154 λp154 q154 r154=>?_
 refine pP (prB b a9 c9 (C1 (C8 (C8 st (d,T6)) (d+1,[A0 [67,65,83,69]])) (s.vs.l.map λv=>((d+2,K2 v):Ln)))) (prW a9 c9 (C1 (C8 (C8 st (d,T6)) (d+1,[A0 [67,65,83,69]])) (s.vs.l.map λv=>((d+2,K2 v):Ln)))) ?_;refine xg (E3 Et Et Et) (I6 hg hp b a9 c9 (C1 (C8 (C8 st (d,T6)) (d+1,[A0 [67,65,83,69]])) (s.vs.l.map λv=>((d+2,K2 v):Ln))) d _ 1 _ [⟨a154,c154,[A0 [58]]⟩] ([A0 [58]]) _ (Rd.ofPt rfl (by decide) Me) (A9 (iR r154 p154 q154) F6) (by decide) (A9 (by simp) F6) (by simp) ((Y4 (by decide))) (a0R _ (W8 (W8 hn)))) ?_;rintro _ _ ⟨a156,c156,rfl⟩;rw[show C8 (C1 (C8 (C8 st (d,T6)) (d+1,[A0 [67,65,83,69]])) (s.vs.l.map λv=>((d+2,K2 v):Ln))) (d,[A0 [58]])=C1 st (J3 s d) by rw[hls,a1D,a1D,a0S];rfl];refine WL.nil (w0 (prB b a156 c156 (C1 st (J3 s d))::prW a156 c156 (C1 st (J3 s d))::h) ?_);exact⟨a156,c156,rfl⟩;omega
end
section
open Go.Eng Go.Pc Go.Sx Go
open Go.Xp hiding B C9
open Go.Ty (Ty Vr Tok eqT tyV I7 A3 B8 O4 zeroK M8 D3 encV D2 prL prV PrOk VOk mayPr hdV)
open Go.Lx (encB encB_len textO)
open Go.Ly (Rw P4 F9)
theorem a0M(k:Int):(B5 k).1.t1<=9/\(B5 k).1.e1<=9/\((B5 k).2=true->1<=k/\k<=18):=by
 by_cases h:1<=k/\k<=18
 ·refine⟨?_,?_,λ_=>h⟩ <;>
  (obtain h|h|h|h|h|h|h|h|h|h|h|h|h|h|h|h|h|h:k=1\/k=2\/k=3\/k=4\/k=5\/k=6\/k=7\/k=8\/k=9\/k=10\/k=11\/k=12\/k=13\/k=14\/k=15\/k=16\/k=17\/k=18:=by omega)<;>(rw[h];decide)
 ·have e:B5 k=(us0,false):=by
   unfold B5;repeat rw[if_neg (by omega)]
  rw[e];exact⟨by decide,by decide,nofun⟩
theorem b5t{p:Pr}(h:L2 p=true)(hk:p.k=11):p.pn.l.length=p.ll.length:=by
 unfold L2 at h;split at h
 ·cases h
 ·have key:M1 p (B5 p.k).1=true:=by
   split at h
   ·rw[hk]at h;cases h
   ·exact h
  rw[hk]at key;unfold M1 at key;simp only[Bool.and_eq_true]at key;have:=(a05 key.1.2).2;have e:((B5 11).1).procs=true:=rfl;rw[e]at this;simp only[if_true]at this;omega
def c5Q(k:Int)(n:Int)(x:Pr)(d:Int):List Ln:=if k=11 then(d+1,[A0 [80,82,79,67,69,83,83,79,82],⟨3,0,[],IntKind.i32.wrap n⟩])::D6 x (d+2)else D6 x (d+1)
theorem a4V{k:Int}{x:Pr}{d:Int}:∀{ns:List Int}{l:List Pr}{j:Nat},l[j]?=some x->F1 k ns (l.take (j+1)) d=F1 k ns (l.take j) d++c5Q k ((ns.drop j).headD 0) x d
 |ns,[],j,h=>by cases h
 |ns,y::l,0,h=>by
  cases h;show(if k=11 then _ else _)++F1 k ns.tail [] d=[]++c5Q k (ns.headD 0) x d;rw[show F1 k ns.tail [] d=[] by cases ns.tail<;>rfl,List.append_nil,List.nil_append];rfl
 |ns,y::l,j+1,h=>by
  have ih:=a4V (k:=k) (d:=d) (ns:=ns.tail) (l:=l) (j:=j) (by simpa using h);show(if k=11 then _ else _)++F1 k ns.tail (l.take (j+1)) d=((if k=11 then _ else _)++F1 k ns.tail (l.take j) d)++_;rw[ih,List.append_assoc];cases ns<;>simp
theorem a4K{d:Int}{g:Gu}:∀{l:List Gu}{j:Nat},l[j]?=some g->H8 (l.take (j+1)) d=H8 (l.take j) d++U8 g d
 | [],j,h=>by cases h
 |y::l,0,h=>by
  cases h;exact List.append_nil _
 |y::l,j+1,h=>by
  have ih:=a4K (d:=d) (l:=l) (j:=j) (by simpa using h);show U8 y d++H8 (l.take (j+1)) d=(U8 y d++H8 (l.take j) d)++_;rw[ih,List.append_assoc]
theorem a7O(p:Pr)(d:Int):D6 p d=if p.k=18 then J3 p.sp d++a0n p.ll d else(d,fT p)::(F1 p.k p.pn.l p.ll d++H8 p.gl (d+1)):=by cases p;rfl
theorem b8h{l:List Int}{j:Nat}{y:Int}(h:l[j]?=some y):(l.drop j).headD 0=y:=by have h1:=(List.getElem?_eq_some_iff.1 h);rw[List.drop_eq_getElem_cons h1.1];exact h1.2
theorem c8j(v:Int):-2147483648<=IntKind.i32.wrap v/\IntKind.i32.wrap v<=2147483647:=by unfold IntKind.wrap;simp[IntKind.bits,IntKind.signed];omega
theorem c0w(y:Int):TkL [A0 [80,82,79,67,69,83,83,79,82],⟨3,0,[],IntKind.i32.wrap y⟩]:=a8k (Y4 (by decide)) (λx hx=>by
 rw[List.mem_singleton]at hx;subst hx;exact⟨c8j y,Nat.zero_le _⟩)
theorem c2v{m:View}(hg:Glob m)(hp:Pow m)(p:Pr):PRC m p:=by
 refine Pr.ind (q:=λp=>PRC m p) (λp ih b a c st d h hP hv hd hn=>?_) p;have hV:=hv.own;have hO:=hP.own;have hkk:=(a0M p.k).2.2 hV.kd;have hls:=a7O p d;have hrl:=hO.l;have hrn:=hO.pn;have hrg:=hO.g;have hlx:=Nat.le_trans hrl.le hrl.mx;have hgx:=Nat.le_trans hrg.le hrg.mx;have hpl:L2 p=true:=by cases hv with|mk q _=>exact q
 refine cB [0,2,4,6,7,9,12,30,31,32,33,39,67,68,69,70] func14 λ_=>?_;refine xX λb4=>?_
 refine ZZ [0,3,0] ?_;refine wE ?_ ?_<;>intro c12
 have hrp:p.rep.name=[]:=by
  by_cases e:p.rep.name=[]
  ·exact e
  ·have:=hV.rp e;rw[c12]at this;cases this
 have hpn:=hV.pn hrp;rw[c12]at hpn;have hl1:p.ll.length=1:=by have e1:(B5 18).1.p0=1:=rfl;have e2:(B5 18).1.p1=1:=rfl;rw[e1,e2]at hpn;omega
 obtain⟨y,hy⟩:=A5 (l:=p.ll) (k:=0) (by omega);have hin:In y p:=.l (List.mem_of_getElem? hy);have hle:p.ll=[y]:=by
  cases hb:p.ll with
  |nil=>rw[hb]at hy;cases hy
  |cons z r=>
   rw[hb]at hy hl1;cases hy;cases r with
   |nil=>rfl
   |cons u v=>simp at hl1
 have hlt:=hin.lt;rw[if_pos c12]at hls;refine kA4 ?_;refine pP (prB b a c st) (prW a c st) ?_;refine xg (E3 Et Et Et) (c0E hg hp p.sp b a c st d _ (hO.sp.mono Sb) (hV.sp (by rw[c12];rfl)) (λx hx=>⟨(hP.sub (.s hx)).mono Sb,hv.sub (.s hx),ih x (.s hx),by have:=(In.s hx).lt;omega⟩) (by omega) hn) ?_;rintro _ _ ⟨a17,c17,rfl⟩;refine ZZ [0,3] ?_;refine xG (D8 T9.und T9.size T9.posz (Ev.tmp rfl) Ek Rr rfl (q:=0) (by omega)) ?_;refine kA2 ?_;refine pP (prB b a17 c17 (C1 st (J3 p.sp d))) (prW a17 c17 (C1 st (J3 p.sp d))) ?_;refine xg (E3 Et Et Et) (ih y hin b a17 c17 (C1 st (J3 p.sp d)) d _ ((hP.sub hin).mono Sb) (hv.sub hin) (by omega) (a0R _ hn)) ?_;rintro _ _ ⟨a24,c24,rfl⟩;rw[show C1 (C1 st (J3 p.sp d)) (D6 y d)=C1 st (D6 p d) by rw[hls,a0S,hle];rfl];refine Z0 ?_;refine WC.ret (b2V (h':=prB b a24 c24 (C1 st (D6 p d))::prW a24 c24 (C1 st (D6 p d))::h) (.inl rfl) rfl  Vl Sb ?_)
 exact⟨a24,c24,rfl⟩;rw[if_neg c12]at hls;have hTg:p.tg.l.length<=9:=by have h1:=hV.tn.2;have h2:=(a0M p.k).1;omega
 have hEx:p.ex.l.length<=9:=by have h1:=hV.en.2;have h2:=(a0M p.k).2.1;omega
 refine ZZ [0,3] ?_;refine pP (prB b a c st) (prW a c st) ?_;refine xg (E3 Et Et Et) (c3u hg hp p b a c st d _ (hO.mono Sb) hTg hEx (by omega) (b2p hO) hn) ?_;rintro _ _ ⟨a28,c28,rfl⟩;refine ZZ [0,4,0] ?_;refine B1 [0,2,4,30,31] rfl (λμ F' h'=>∃a9:Option Addr,∃c9:Nat,∃j:Nat,(j<=p.ll.length)/\p.ll.length-j=μ/\F'=[(32,.int .i64 j)]/\prB b a9 c9 (C1 (C8 st (d,fT p)) (F1 p.k p.pn.l (p.ll.take j) d))::prW a9 c9 (C1 (C8 st (d,fT p)) (F1 p.k p.pn.l (p.ll.take j) d))::.pt b4 (.cells (prE p).toArray 45 (0,0))::h=h') (p.ll.length-0) [(32,.int .i64 0)] (h0:=prB b a28 c28 (C1 (C8 st (d,fT p)) (F1 p.k p.pn.l (p.ll.take 0) d))::prW a28 c28 (C1 (C8 st (d,fT p)) (F1 p.k p.pn.l (p.ll.take 0) d))::.pt b4 (.cells (prE p).toArray 45 (0,0))::h) ?_ Sb ⟨a28,c28,0,Nat.zero_le _,rfl,rfl,rfl⟩ ?_;exact Su;rintro _ _ _ ⟨a9,c9,j,hj,rfl,rfl,rfl⟩;refine B2 rfl ?_;refine Z1 ?_
 refine wD ?_ ?_<;>intro c33
 obtain⟨x,hx⟩:=A5 (l:=p.ll) (k:=j) (by omega);have hin:In x p:=.l (List.mem_of_getElem? hx);have hlt:=hin.lt;have htk:=a4V (k:=p.k) (d:=d) (ns:=p.pn.l) hx;unfold c5Q at htk;have hnj:(C1 (C8 st (d,fT p)) (F1 p.k p.pn.l (p.ll.take j) d)).1.length<=2049:=a0R _ (W8 hn);refine ZZ [0,3] ?_;refine xW λb7=>?_;refine ZZ [2,3,0] ?_;refine wE ?_ ?_<;>intro c39
 have hpk:=b5t hpl c39;obtain⟨y,hy⟩:=A5 (l:=p.pn.l) (k:=j) (by omega);rw[if_pos c39,b8h hy]at htk;refine jE ?_;refine a1g [3,4,12,13,4096] (.op 0 (.op 1 (.op 2 (.op 5 (.op 6 (.op 7 (.op 8 (.op 9 (.op 10 (.op 11 (.op 3 (.op 4 (.op 12 (.op 13 .nil)))))))))))))) [14] _ [] C4 (λ_ _ _ h=>a2s h) [] (by kernel_rfl) ?_;refine kA2 ?_;refine yG rfl (L6 Et Ek (by omega)) ?_;refine kA5 ?_;refine yG rfl (PO.conv uu3 a1X Et) ?_;refine yG rfl (PO.build M4 rfl rfl rfl Eb (by exact rfl)) ?_;refine sB rfl P6 λb43=>?_
 refine C5 rfl rfl Ef (E1 (Ev.tmp rfl)) (λfr=>D1 hg _ 1 _ [[80,82,79,67,69,83,83,79,82]] _ (Rd.fr Rr fr) (by decide) (by decide)) Lb λa44 c44=>?_;refine sB rfl B3 λb52=>?_
 refine sB rfl H9 λb53=>?_;refine SR.nil rfl rfl ?_;refine kR a44 λp44 q44 r44=>?_
 refine pP (prB b a9 c9 (C1 (C8 st (d,fT p)) (F1 p.k p.pn.l (p.ll.take j) d))) (prW a9 c9 (C1 (C8 st (d,fT p)) (F1 p.k p.pn.l (p.ll.take j) d))) ?_;refine xg (E3 Et Et Et) (I6 hg hp b a9 c9 (C1 (C8 st (d,fT p)) (F1 p.k p.pn.l (p.ll.take j) d)) (d+1) _ 2 _ [⟨a44,c44,[A0 [80,82,79,67,69,83,83,79,82]]⟩,⟨some ⟨b52,0,none⟩,1,[⟨3,0,[],IntKind.i32.wrap y⟩]⟩] [A0 [80,82,79,67,69,83,83,79,82],⟨3,0,[],IntKind.i32.wrap y⟩] _ (Rd.ofPt rfl (by decide) Me) (A9 (iR r44 p44 q44) (A9 (Rd.ofPt rfl (show 1<=9223372036854775807 by decide) Me) F6)) (by decide) (A9 (by simp) (A9 (by simp) F6)) rfl (c0w y) hnj) ?_;rintro _ _ ⟨a54,c54,rfl⟩;refine ZZ [0,4] ?_
 refine pP (prB b a54 c54 (C8 (C1 (C8 st (d,fT p)) (F1 p.k p.pn.l (p.ll.take j) d)) (d+1,[A0 [80,82,79,67,69,83,83,79,82],⟨3,0,[],IntKind.i32.wrap y⟩]))) (prW a54 c54 (C8 (C1 (C8 st (d,fT p)) (F1 p.k p.pn.l (p.ll.take j) d)) (d+1,[A0 [80,82,79,67,69,83,83,79,82],⟨3,0,[],IntKind.i32.wrap y⟩]))) ?_;refine xg (E3 Et Et Et) (ih x hin b a54 c54 (C8 (C1 (C8 st (d,fT p)) (F1 p.k p.pn.l (p.ll.take j) d)) (d+1,[A0 [80,82,79,67,69,83,83,79,82],⟨3,0,[],IntKind.i32.wrap y⟩])) (d+2) _ ((hP.sub hin).mono Sb) (hv.sub hin) (by omega) (W8 hnj)) ?_;rintro _ _ ⟨a59,c59,rfl⟩;rw[show C1 (C8 (C1 (C8 st (d,fT p)) (F1 p.k p.pn.l (p.ll.take j) d)) (d+1,[A0 [80,82,79,67,69,83,83,79,82],⟨3,0,[],IntKind.i32.wrap y⟩])) (D6 x (d+2))=(C1 (C8 st (d,fT p)) (F1 p.k p.pn.l (p.ll.take (j+1)) d)) by rw[htk,a0S,a1D]];refine ZZ [0,0,2] ?_
 refine WL.nil (A6 (p.ll.length-(j+1)) [(32,.int .i64 (j+1))] (h'':=prB b a59 c59 (C1 (C8 st (d,fT p)) (F1 p.k p.pn.l (p.ll.take (j+1)) d))::prW a59 c59 (C1 (C8 st (d,fT p)) (F1 p.k p.pn.l (p.ll.take (j+1)) d))::.pt b4 (.cells (prE p).toArray 45 (0,0))::h) (by omega) ?_ Su Sb ⟨a59,c59,j+1,by omega,rfl,rfl,rfl⟩);exact Su;rw[if_neg c39]at htk;refine ZZ [0,4] ?_;refine pP (prB b a9 c9 (C1 (C8 st (d,fT p)) (F1 p.k p.pn.l (p.ll.take j) d))) (prW a9 c9 (C1 (C8 st (d,fT p)) (F1 p.k p.pn.l (p.ll.take j) d))) ?_;refine xg (E3 Et Et Et) (ih x hin b a9 c9 (C1 (C8 st (d,fT p)) (F1 p.k p.pn.l (p.ll.take j) d)) (d+1) _ ((hP.sub hin).mono Sb) (hv.sub hin) (by omega) hnj) ?_;rintro _ _ ⟨a64,c64,rfl⟩;rw[show C1 (C1 (C8 st (d,fT p)) (F1 p.k p.pn.l (p.ll.take j) d)) (D6 x (d+1))=(C1 (C8 st (d,fT p)) (F1 p.k p.pn.l (p.ll.take (j+1)) d)) by rw[htk,a0S]];refine ZZ [0,2] ?_
 refine WL.nil (A6 (p.ll.length-(j+1)) [(32,.int .i64 (j+1))] (h'':=prB b a64 c64 (C1 (C8 st (d,fT p)) (F1 p.k p.pn.l (p.ll.take (j+1)) d))::prW a64 c64 (C1 (C8 st (d,fT p)) (F1 p.k p.pn.l (p.ll.take (j+1)) d))::.pt b4 (.cells (prE p).toArray 45 (0,0))::h) (by omega) ?_ Su Sb ⟨a64,c64,j+1,by omega,rfl,rfl,rfl⟩);exact Su;rw[List.take_of_length_le (by omega)];refine ZZ [0,4,0] ?_
 refine B1 [0,2,67,68] rfl (λμ F' h'=>∃a9:Option Addr,∃c9:Nat,∃j:Nat,(j<=p.gl.length)/\p.gl.length-j=μ/\F'=[(69,.int .i64 j)]/\prB b a9 c9 (C1 (C1 (C8 st (d,fT p)) (F1 p.k p.pn.l p.ll d)) (H8 (p.gl.take j) (d+1)))::prW a9 c9 (C1 (C1 (C8 st (d,fT p)) (F1 p.k p.pn.l p.ll d)) (H8 (p.gl.take j) (d+1)))::.pt b4 (.cells (prE p).toArray 45 (0,0))::h=h') (p.gl.length-0) [(69,.int .i64 0)] (h0:=prB b a9 c9 (C1 (C1 (C8 st (d,fT p)) (F1 p.k p.pn.l p.ll d)) (H8 (p.gl.take 0) (d+1)))::prW a9 c9 (C1 (C1 (C8 st (d,fT p)) (F1 p.k p.pn.l p.ll d)) (H8 (p.gl.take 0) (d+1)))::.pt b4 (.cells (prE p).toArray 45 (0,0))::h) ?_ Sb ⟨a9,c9,0,Nat.zero_le _,rfl,rfl,rfl⟩ ?_;exact Su;rintro _ _ _ ⟨a9,c9,j,hj,rfl,rfl,rfl⟩;refine B2 rfl ?_;refine Z1 ?_;refine wD ?_ ?_<;>intro c70
 obtain⟨g,hg1⟩:=A5 (l:=p.gl) (k:=j) (by omega);have hgm:=List.mem_of_getElem? hg1;have hnj:(C1 (C1 (C8 st (d,fT p)) (F1 p.k p.pn.l p.ll d)) (H8 (p.gl.take j) (d+1))).1.length<=2049:=a0R _ (a0R _ (W8 hn));refine ZZ [0,2] ?_;refine xW λb9=>?_;refine ZZ [1,4] ?_;refine pP (prB b a9 c9 (C1 (C1 (C8 st (d,fT p)) (F1 p.k p.pn.l p.ll d)) (H8 (p.gl.take j) (d+1)))) (prW a9 c9 (C1 (C1 (C8 st (d,fT p)) (F1 p.k p.pn.l p.ll d)) (H8 (p.gl.take j) (d+1)))) ?_;refine xg (E3 Et Et Et) (b9q hg hp g b a9 c9 (C1 (C1 (C8 st (d,fT p)) (F1 p.k p.pn.l p.ll d)) (H8 (p.gl.take j) (d+1))) (d+1) _ ((hO.gs g hgm).mono Sb) (hV.gs g hgm).1 (λx hx=>⟨(hP.sub (.g hgm hx)).mono Sb,hv.sub (.g hgm hx),ih x (.g hgm hx),by have:=(In.g hgm hx).lt;omega⟩) (by have:=a2Y p;omega) hnj) ?_;rintro _ _ ⟨a77,c77,rfl⟩;rw[show C1 (C1 (C1 (C8 st (d,fT p)) (F1 p.k p.pn.l p.ll d)) (H8 (p.gl.take j) (d+1))) (U8 g (d+1))=(C1 (C1 (C8 st (d,fT p)) (F1 p.k p.pn.l p.ll d)) (H8 (p.gl.take (j+1)) (d+1))) by rw[a4K hg1,a0S]];refine ZZ [0,2] ?_
 refine WL.nil (A6 (p.gl.length-(j+1)) [(69,.int .i64 (j+1))] (h'':=prB b a77 c77 (C1 (C1 (C8 st (d,fT p)) (F1 p.k p.pn.l p.ll d)) (H8 (p.gl.take (j+1)) (d+1)))::prW a77 c77 (C1 (C1 (C8 st (d,fT p)) (F1 p.k p.pn.l p.ll d)) (H8 (p.gl.take (j+1)) (d+1)))::.pt b4 (.cells (prE p).toArray 45 (0,0))::h) (by omega) ?_ Su Sb ⟨a77,c77,j+1,by omega,rfl,rfl,rfl⟩);exact Su;rw[List.take_of_length_le (by omega),show C1 (C1 (C8 st (d,fT p)) (F1 p.k p.pn.l p.ll d)) (H8 p.gl (d+1))=C1 st (D6 p d) by rw[hls,a1D,a0S]];refine WC.exit (b2V (h':=prB b a9 c9 (C1 st (D6 p d))::prW a9 c9 (C1 st (D6 p d))::h) (.inr rfl) rfl  Vl Sb ?_);exact⟨a9,c9,rfl⟩
end
section
open Go.Eng Go.Pc Go.Sx Go
open Go.Xp hiding B C9
open Go.Ty (Ty Vr Tok eqT tyV I7 A3 B8 O4 zeroK M8 D3 encV D2)
open Go.Lx (encB encB_len textO)
open Go.Ly (Rw P4 F9)
theorem b4R(l:List Tok):(textO l).1.length<=256:=by
 unfold Go.Lx.textO;split
 ·exact Nat.zero_le _
 ·split
  ·exact Nat.zero_le _
  ·rename_i h
   simp only[decide_eq_true_eq]at h;show(Go.Lx.textL none l).length<=256;omega
theorem b7s{st:Ps}{x:Ln}(h:∀y∈st.1,y.text.length<=256):∀y∈(C8 st x).1,y.text.length<=256:=by
 unfold C8;split
 ·exact h
 ·intro y hy
  rcases List.mem_append.1 hy with q|q
  ·exact h y q
  ·rw[List.mem_singleton]at q
   subst q;exact b4R _
theorem a8D:∀(l:List Ln){st:Ps},(∀y∈st.1,y.text.length<=256)->∀y∈(C1 st l).1,y.text.length<=256
 | [],_,h=>h
 |x::l,_,h=>a8D l (b7s (x:=x) h)
abbrev c8W(m:View)(p:Pr)(h:List Res)(v:Value)(h':List Res):Prop:=
 ∃a c bl,v=.tuple #[.slice a (V8 p).1.length c,.int .i64 (V8 p).2]/\Rd m bl a (V8 p).1.length c 3 (fl P4 (V8 p).1)/\h'=bl++h/\((V8 p).2=0->bl=[.row (.slice a (V8 p).1.length c) 52 3 (V8 p).1.length (fl P4 (V8 p).1)])
theorem b5i{m:View}(hg:Glob m)(hp:Pow m)(p:Pr)(h:List Res)(hO:POk m h p) :
 CT prog 5 [prV p] h m (λv _ h'=>c8W m p h v h'):=by
 have hq:V8 p=if mayP p then(if(C1 ([],false) (D6 p 0)).2||!Go.Ly.mayP (C1 ([],false) (D6 p 0)).1 then([],3)else((C1 ([],false) (D6 p 0)).1,0))else([],2):=rfl
 have hsh:=a8D (D6 p 0) (st:=([],false)) nofun;obtain⟨ST,hST⟩:∃S,S=C1 ([],false) (D6 p 0):=⟨_,rfl⟩;rw[<-hST]at hq hsh;refine cB [1,2,3,4,7,24] func5 λ_=>?_
 refine xX λb1=>?_;refine ZZ [2,1] ?_;refine xf (E1 Et) (b3C hg p (hO.mono Sb)) ?_;refine Z1 ?_;refine wc ?_ ?_<;>intro c7
 have d7:mayP p=false:=by simpa using c7
 rw[if_neg (J8 d7)]at hq;refine Z2 ?_;refine w2 h ?_;exact⟨none,0,[],by rw[hq];rfl,by rw[hq];exact Rd.nilF P4 3 _ _,rfl,by rw[hq];intro e;cases e⟩;have d7:mayP p=true:=by simpa using c7
 rw[if_pos d7]at hq;obtain⟨hv,hc⟩:=b4C d7;refine ZZ [0,1] ?_;refine xX λb9=>?_
 refine ZZ [1,2] ?_;refine WL.addNil 52 3 ?_;refine pP (prB b9 none 0 ([],false)) (prW none 0 ([],false)) ?_;refine xg (E3 Et Et Ek) (c2v hg hp p b9 none 0 ([],false) 0 _ (hO.mono Sb) hv ⟨by omega,by omega⟩ (Nat.zero_le _)) ?_;rintro _ _ ⟨a12,c12,rfl⟩;rw[<-hST];refine kR a12 λp12 q12 r12=>?_;refine ZZ [0,6] ?_;refine zG (λhc=>PO.nilCheck (Eg hc)) ?_;refine kA2 ?_;refine A4 (GU.f rfl rfl) (λhc=>⟨Ef,(E1 (Eg hc)),Ly7.may_ct hg a12 _ c12 ST.1 _ (iR r12 p12 q12) (λx hx=>by have:=hsh x hx;omega)⟩) Lb ?_;refine Z2 ?_;refine wc ?_ ?_<;>intro c24
 rw[if_pos (by simpa using c24)]at hq;refine Z2 ?_;refine w2 h ?_;exact⟨none,0,[],by rw[hq];rfl,by rw[hq];exact Rd.nilF P4 3 _ _,rfl,by rw[hq];intro e;cases e⟩;rw[if_neg (by simpa using c24)]at hq;refine ZZ [0,6,0] ?_;refine w2 (prW a12 c12 ST::h) ?_;exact⟨a12,c12,[prW a12 c12 ST],by rw[hq],by rw[hq];exact Rd.ofRow r12 p12 q12 (List.mem_singleton.2 rfl),rfl,λ_=>by rw[hq]⟩
end
section
open Go.Eng Go.Xp Go
open Go.Lx (encB encB_len)
theorem c1T(k:Int)(h:List Res)(m:View):CT prog 358 [.int .u8 k] h m (A7 h (.bool (((k==1)||(k==2))||(k==3)))):=by
 refine cB [0,2] func358 λ_=>?_;refine ZZ [1,11,0] ?_;refine wT h ?_;exact⟨rfl,rfl⟩
theorem c84{m:View}(e:Ex)(hw:Wf e)(h:List Res):CT prog 342 [exV e] h m (A7 h (.bool (a3k e))):=by
 obtain⟨⟨hk,ho,ht⟩,hn,hs⟩:=hw.spec;have hs2:e.s.length<=9223372036854775807:=by omega
 refine cB [1,2,3,4,5,10,11,16,29,42,51,59,72,85] func342 λ_=>?_;refine xX λb1=>?_
 refine ZZ [1,3] ?_;refine xW λb3=>?_;refine ZZ [1,1,1,0] ?_;refine kP2 [1,3,4,5,10] ?_;refine F4 KKh [1,3] rfl (λF' h'=>∃f':Bool,∃n':Int,∃o':Int,∃t':Int,∃v':Int,∃s':B,(a3k e=a4U e f' n' o' t' v' s')/\F'=[(4,.int .i64 n'),(5,.bool f')]/\.pt b3 (.cells [.int .u8 e.k,.int .u8 o',.int .u8 t',.int .i32 v',str s',.slice none 0 0].toArray 28 (0,0))::.pt b1 (.cells (exE e).toArray 28 (0,0))::h=h') ?_ ?_;refine Z2 ?_;refine wE ?_ ?_<;>intro c11
 refine kA4 ?_;refine WL.nil (B4 [(4,.int .i64 0),(5,.bool true)] (h'':=.pt b3 (.cells [.int .u8 e.k,.int .u8 0,.int .u8 0,.int .i32 (e.n),str ([]),.slice none 0 0].toArray 28 (0,0))::.pt b1 (.cells (exE e).toArray 28 (0,0))::h) ?_ Su Sb ⟨true,0,0,0,e.n,[],c5f c11,rfl,rfl⟩);exact Su;refine Z2 ?_;refine wE ?_ ?_<;>intro c16
 refine ZZ [4,9] ?_;refine WL.nil (B4 [(4,.int .i64 0),(5,.bool ((decide (e.n>=0)&&decide (e.n<=255))))] (h'':=.pt b3 (.cells [.int .u8 e.k,.int .u8 0,.int .u8 0,.int .i32 (e.n),str ([]),.slice none 0 0].toArray 28 (0,0))::.pt b1 (.cells (exE e).toArray 28 (0,0))::h) ?_ Su Sb ⟨(decide (e.n>=0)&&decide (e.n<=255)),0,0,0,e.n,[],c0z hn c16,rfl,rfl⟩);exact Su;refine Z2 ?_;refine wE ?_ ?_<;>intro c29
 have q3:=c3z hn c29;refine ZZ [4,9] ?_;refine WL.nil (B4 [(4,.int .i64 0),(5,.bool (((e.n==0)||(e.n==1))))] (h'':=.pt b3 (.cells [.int .u8 e.k,.int .u8 0,.int .u8 0,.int .i32 (e.n),str ([]),.slice none 0 0].toArray 28 (0,0))::.pt b1 (.cells (exE e).toArray 28 (0,0))::h) ?_ Su Sb ⟨((e.n==0)||(e.n==1)),0,0,0,e.n,[],q3,rfl,rfl⟩);exact Su;skip
 refine Z2 ?_;refine wc ?_ ?_<;>intro c42
 have hk4:e.k=4:=b6O c42;refine Z0 ?_;refine wc ?_ ?_<;>intro c42
 have q4:=b5C (.inl hk4);refine ZZ [4,2] ?_;refine xf (E1 Et) (a06 _ _ _ (by assumption)) ?_;refine kA1 ?_;refine WL.nil (B4 [(4,.int .i64 0),(5,.bool ((Go.Lx.nameR e.s)))] (h'':=.pt b3 (.cells [.int .u8 e.k,.int .u8 0,.int .u8 0,.int .i32 0,str (e.s),.slice none 0 0].toArray 28 (0,0))::.pt b1 (.cells (exE e).toArray 28 (0,0))::h) ?_ Su Sb ⟨(Go.Lx.nameR e.s),0,0,0,0,e.s,q4,rfl,rfl⟩);exact Su;exact absurd hk4 (b3a c42);have n4:e.k≠4:=b3a c42;refine Z2 ?_;refine wc ?_ ?_<;>intro c42
 have q4:=b5C (.inr (b6O c42));refine ZZ [4,2] ?_;refine xf (E1 Et) (a06 _ _ _ (by assumption)) ?_;refine kA1 ?_;refine WL.nil (B4 [(4,.int .i64 0),(5,.bool ((Go.Lx.nameR e.s)))] (h'':=.pt b3 (.cells [.int .u8 e.k,.int .u8 0,.int .u8 0,.int .i32 0,str (e.s),.slice none 0 0].toArray 28 (0,0))::.pt b1 (.cells (exE e).toArray 28 (0,0))::h) ?_ Su Sb ⟨(Go.Lx.nameR e.s),0,0,0,0,e.s,q4,rfl,rfl⟩);exact Su;have n9:e.k≠9:=b3a c42;refine Z2 ?_;refine wE ?_ ?_<;>intro c51
 refine ZZ [4,2] ?_;refine xf (E1 Et) (a06 _ _ _ (by assumption)) ?_;refine ZZ [1,1] ?_;refine WL.nil (B4 [(4,.int .i64 1),(5,.bool ((Go.Lx.nameR e.s)))] (h'':=.pt b3 (.cells [.int .u8 e.k,.int .u8 0,.int .u8 0,.int .i32 0,str (e.s),.slice none 0 0].toArray 28 (0,0))::.pt b1 (.cells (exE e).toArray 28 (0,0))::h) ?_ Su Sb ⟨(Go.Lx.nameR e.s),1,0,0,0,e.s,b9w c51,rfl,rfl⟩);exact Su;refine Z2 ?_;refine wE ?_ ?_<;>intro c59
 refine ZZ [4,9,1] ?_;refine WL.nil (B4 [(4,.int .i64 1),(5,.bool ((decide (e.o>=23)&&decide (e.o<=26))))] (h'':=.pt b3 (.cells [.int .u8 e.k,.int .u8 (e.o),.int .u8 0,.int .i32 0,str ([]),.slice none 0 0].toArray 28 (0,0))::.pt b1 (.cells (exE e).toArray 28 (0,0))::h) ?_ Su Sb ⟨(decide (e.o>=23)&&decide (e.o<=26)),1,e.o,0,0,[],c4A ho c59,rfl,rfl⟩);exact Su;refine Z2 ?_;refine wE ?_ ?_<;>intro c72
 refine ZZ [4,9,1] ?_;refine WL.nil (B4 [(4,.int .i64 2),(5,.bool ((decide (e.o>=1)&&decide (e.o<=22))))] (h'':=.pt b3 (.cells [.int .u8 e.k,.int .u8 (e.o),.int .u8 0,.int .i32 0,str ([]),.slice none 0 0].toArray 28 (0,0))::.pt b1 (.cells (exE e).toArray 28 (0,0))::h) ?_ Su Sb ⟨(decide (e.o>=1)&&decide (e.o<=22)),2,e.o,0,0,[],c4x c72,rfl,rfl⟩);exact Su;refine Z2 ?_;refine wE ?_ ?_<;>intro c85
 have q8:=c3d c85;refine ZZ [4,2] ?_;refine xf (E1 Et) (c1T _ _ _) ?_;refine ZZ [1,1] ?_;refine WL.nil (B4 [(4,.int .i64 1),(5,.bool ((((e.t==1)||(e.t==2))||(e.t==3))))] (h'':=.pt b3 (.cells [.int .u8 e.k,.int .u8 0,.int .u8 (e.t),.int .i32 0,str ([]),.slice none 0 0].toArray 28 (0,0))::.pt b1 (.cells (exE e).toArray 28 (0,0))::h) ?_ Su Sb ⟨(((e.t==1)||(e.t==2))||(e.t==3)),1,0,e.t,0,[],q8,rfl,rfl⟩);exact Su;refine Z1 ?_;refine wT h ?_;exact⟨by rw[c1e c11 c16 c29 n4 n9 c51 c59 c72 c85],rfl⟩;rintro _ _ ⟨f',n',o',t',v',s',hJ,rfl,rfl⟩;refine B2 rfl ?_;refine a8L ?_;refine a8L ?_;refine b7f ?_;refine zG (λhc=>H3 (Eg hc) (Eg hc)) ?_;refine Z2 ?_;refine wT h ?_;exact⟨by rw[hJ];rfl,rfl⟩
theorem c4F(e:Ex):∀(h:List Res)(m:View)(a b:Int),TOk m h e->Wf e->(0<=a/\a<=32)->(0<=b/\b<=1000000) ->
 CT prog 284 [exV e,.int .i64 a,.int .i64 b] h m (A7 h (.int .i64 ((L3 (a+1) b e).getD (-1)))):=by
 refine Ex.ind (p:=λe=>∀(h:List Res)(m:View)(a b:Int),TOk m h e->Wf e->(0<=a/\a<=32)->(0<=b/\b<=1000000) ->
  CT prog 284 [exV e,.int .i64 a,.int .i64 b] h m (A7 h (.int .i64 ((L3 (a+1) b e).getD (-1))))) (λe ih h m a b hT hW ha hb=>?_) e
 have hr:=hT.rd;have hmx:=hr.mx;have hkx:=hr.le;have he:=a2z (a+1) b e;have hh:=b9I (e:=e) ha hb.1;refine cB [1,2,3,6,7,18,25,38] func284 λ_=>?_;refine xX λb3=>?_
 refine ZZ [1,7] ?_;refine zG (λ_=>pA a2i) ?_;refine A4 (GU.f rfl rfl) (λhc=>⟨Ef,(E1 (Eg hc)),c84 _ (by assumption) _⟩) Lb ?_;refine Z2 ?_;refine wc ?_ ?_<;>intro c18
 rw[hh.trans c18,if_pos rfl]at he;refine Z1 ?_;refine wT h ?_;exact⟨by rw[he];rfl,rfl⟩;have hno:=a8Q (hh.trans c18);rw[hh.trans c18,if_neg (by decide)]at he;refine ZZ [0,1] ?_;refine xG (Q4 Et Ek (by omega)) ?_;refine ZZ [1,1,0] ?_;refine B1 [1,3] rfl (λμ F' h'=>∃k:Nat,∃z:Int,((k<=e.l.length/\0<=z/\z<=b)/\L3 (a+1) b e=a0C (a+1+1) z (e.l.drop k))/\e.l.length-k=μ/\F'=[(2,.int .i64 z),(7,.int .i64 k)]/\.pt b3 (.cells (exE e).toArray 28 (0,0))::h=h') (e.l.length-0) [(2,.int .i64 (b-1)),(7,.int .i64 0)] (h0:=.pt b3 (.cells (exE e).toArray 28 (0,0))::h) ?_ Sb ⟨0,b-1,⟨⟨by omega,by omega,by omega⟩,he⟩,rfl,rfl,rfl⟩ ?_;exact Su;rintro _ _ _ ⟨k,z,⟨⟨hk,hz0,hz1⟩,hJ⟩,rfl,rfl,rfl⟩;refine B2 rfl ?_;have hrk:Rd m (.pt b3 (.cells (exE e).toArray 28 (0,0))::h) e.a e.l.length e.c 6 (fl exE e.l):=hr.mono Vl Sb;refine Z5 ?_;refine wD ?_ ?_<;>intro c25
 obtain⟨x,hx⟩:=A5 (l:=e.l) (k:=k) (by omega);have hxm:=List.mem_of_getElem? hx;rw[b2m hx]at hJ;refine ZZ [0,8] ?_;refine xf (E3 Et Et Et) (ih x hxm _ _ (a+1) z ((hT.part hxm).mono Sb) (hW.part hxm) (by omega) (by omega)) ?_;refine WL.val (v':=.int .i64 ((L3 (a+1+1) z x).getD (-1))) rfl ?_;refine ZZ [1,2,0] ?_;refine wD ?_ ?_<;>intro c38
 have hn:L3 (a+1+1) z x=none:=by
  cases hq:L3 (a+1+1) z x with
  |none=>rfl
  |some q=>have:=a4m _ _ _ _ hz0 hq;rw[hq]at c38;simp at c38;omega
 rw[hn]at hJ;refine Z1 ?_;refine wT h ?_;exact⟨by rw[hJ];rfl,rfl⟩;obtain⟨q,hq⟩:∃q,L3 (a+1+1) z x=some q:=by
  cases hq:L3 (a+1+1) z x with
  |none=>rw[hq]at c38;simp at c38
  |some q=>exact⟨q,rfl⟩
 have hrg:=a4m _ _ _ _ hz0 hq;rw[hq]at hJ;refine ZZ [0,3] ?_;refine WL.nil (A6 (e.l.length-(k+1)) [(2,.int .i64 (((L3 (a+1+1) z x).getD (-1)))),(7,.int .i64 (k+1))] (h'':=.pt b3 (.cells (exE e).toArray 28 (0,0))::h) (by omega) ?_ Su Sb ⟨k+1,((L3 (a+1+1) z x).getD (-1)),⟨⟨by omega,by rw[hq];exact hrg.1,by rw[hq];show q<=b;omega⟩,by rw[hJ,hq];rfl⟩,rfl,rfl,rfl⟩);exact Su;rw[List.drop_eq_nil_of_le (by omega)]at hJ;replace hJ:L3 (a+1) b e=some z:=hJ;refine ZZ [0,2,0] ?_;refine wT h ?_;exact⟨by rw[hJ];rfl,rfl⟩
theorem mayR_ct{m:View}(e:Ex)(h:List Res)(hT:TOk m h e)(hW:Wf e):CT prog 215 [exV e] h m (A7 h (.bool (F8 e))):=by
 have hq:decide ((L3 (0+1) 256 e).getD (-1)>=0)=F8 e:=by
  unfold F8;rw[show(0+1:Int)=1 from rfl];cases hv:L3 1 256 e with
  |none=>rfl
  |some q=>have:=a4m _ _ _ _ (by omega) hv;simpa using this.1
 refine cB [1,2] func215 λ_=>?_;refine xX λb1=>?_
 refine ZZ [1,1] ?_;refine xf (E3 Et Ek Ek) (c4F e _ _ 0 256 (hT.mono Sb) hW (by omega) (by omega)) ?_;refine Z2 ?_;refine wT h ?_;exact⟨by rw[<-hq],rfl⟩
theorem c1K(h:List Res)(m:View):CT prog 361 [] h m (λv _ h'=>∃b,v=.slice (some ⟨b,0,none⟩) 26 26/\h'=.pt b (.cells (fl encB (a1k.drop 1)).toArray 9 (0,0))::h):=by
 refine cB [0] func361 λ_=>?_;refine Z1 ?_;refine xY P6 Eb λb1=>?_
 refine Z1 ?_;refine wT (.pt b1 (.cells (fl encB (a1k.drop 1)).toArray 9 (0,0))::h) ?_;exact⟨_,rfl,rfl⟩
theorem c05(o:Int)(ho:0<=o/\o<=255)(h:List Res)(m:View):CT prog 353 [.int .u8 o] h m (A7 h (.tuple #[str (X2 o).1,.bool (X2 o).2])):=by
 have hq:((decide (o<1))||(decide (o>26)))=((o==0)||decide (o>=27)):=by rw[Bool.eq_iff_iff];simp;omega
 refine cB [0,2,3,9] func353 λ_=>?_;refine ZZ [2,6,0] ?_;refine wc ?_ ?_<;>intro c9
 have d9:=hq.symm.trans c9;refine Z2 ?_;refine w2 h ?_;exact⟨by unfold X2;rw[if_pos d9],rfl⟩;have d9:=hq.symm.trans c9;have ho2:o<27/\1<=o:=by simp at d9;omega
 obtain⟨p,hp⟩:∃p:Nat,o=p+1:=⟨(o-1).toNat,by omega⟩;subst hp;have hv:(a1k.drop 1)[p]?=some (a1k.getD (p+1) []):=by
  have:p<26:=by omega
  rw[List.getElem?_drop,List.getD_eq_getElem?_getD,Nat.add_comm 1 p,List.getElem?_eq_getElem (show p+1<a1k.length by show p+1<27;omega)];rfl
 refine Z0 ?_;refine xg E0 (c1K _ _) ?_;rintro _ _ ⟨b10,rfl,rfl⟩;have hrd:Rd m (.pt b10 (.cells (fl encB (a1k.drop 1)).toArray 9 (0,0))::h) (some ⟨b10,0,none⟩) 26 26 1 (fl encB (a1k.drop 1)):=Rd.ofPt rfl (by decide) (List.Mem.head _);refine kA2 ?_;refine WL.val (v':=.int .u8 (p:Nat)) (congrArg (Value.int .u8) (by unfold IntKind.wrap;simp[IntKind.bits,IntKind.signed];omega)) ?_;refine Z4 ?_;refine w2 h ?_;exact⟨by unfold X2;rw[d9];rfl,rfl⟩
end
section
open Go.Eng Go.Pc Go
open Go.Xp hiding B C9
open Go.Ty (Ty Vr eqT tyV I7 PrOk VOk prL encV D2 M8 D3)
open Go.Lx (encB encB_len)
theorem b3D{α:Type}{l:List α}{i:Nat}{x:α}(h:l[i]?=some x)(q:α->Bool):(l.drop i).any q=(q x||(l.drop (i+1)).any q):=by obtain⟨hi,rfl⟩:=List.getElem?_eq_some_iff.1 h;rw[List.drop_eq_getElem_cons hi,List.any_cons]
theorem a6W{α:Type}{l:List α}{lo hi:Int}{q:α->Bool}(h:(decide ((l.length:Int)<lo)||decide ((l.length:Int)>hi))=true):E7 l lo hi q=false:=by
 unfold E7 a3j;simp only[Bool.or_eq_true,decide_eq_true_eq]at h;by_cases h1:(l.length:Int)>=lo
 ·have h2:¬(l.length:Int)<=hi:=by omega
  simp[h2]
 ·simp[h1]
theorem a5G{α:Type}{l:List α}{lo hi:Int}{q:α->Bool}(h:(decide ((l.length:Int)<lo)||decide ((l.length:Int)>hi))=false):E7 l lo hi q=!(l.any λx=>!q x):=by
 unfold E7 a3j;simp only[Bool.or_eq_false_iff,decide_eq_false_iff_not]at h;have h1:(l.length:Int)>=lo:=by omega
 have h2:(l.length:Int)<=hi:=by omega
 simp[h1,h2]
theorem b94(m:View)(h:List Res):TOk m h A2:=.mk (Rd.nilF exE 6 m h) (λ_ hx=>by cases hx)
theorem a1W{m:View}{h:List Res}(e:Ex)(hE:EOk m h e):CT prog 163 [exV e] h m (A7 h (.bool (F5 e))):=by
 have hT:=hE.t;have hW:=hE.w;refine cB [1,2] func163 λ_=>?_;refine xX λb1=>?_
 refine ZZ [1,9] ?_;refine zG (λ_=>pA a2i) ?_;refine A4 (GU.t rfl rfl) (λhc=>⟨Ef,(E1 (Eg hc)),mayR_ct e _ (hT.mono Sb) hW⟩) Lb ?_;refine Z2 ?_;refine wT h ?_;exact⟨rfl,rfl⟩
theorem a9g{m:View}{h:List Res}(e:Ex)(hT:TOk m h e):CT prog 258 [exV e] h m (A7 h (.bool (H4 e))):=by
 refine cB [1,2] func258 λ_=>?_;refine xX λb1=>?_
 refine ZZ [1,2] ?_;refine xf (E2 Et Et) (a1p e A2 _ _ (hT.mono Sb) (b94 _ _)) ?_;refine Z1 ?_;refine wT h ?_;exact⟨rfl,rfl⟩
theorem a6O(a:Option Addr)(k c:Nat)(l:List Ex)(lo hi:Int)(h:List Res)(m:View)(hL:Rd m h a k c 6 (fl exE l))(hok:∀x∈l,EOk m h x) :
 CT prog 161 [.slice a k c,.int .i64 lo,.int .i64 hi] h m (A7 h (.bool (E7 l lo hi F5))):=by
 have hl:=hL.lenF a1h (by decide);subst hl;have hmx:=hL.mx;have hle:=hL.le;refine cB [0,1,2,6,7,17,21,29] func161 λ_=>?_;refine ZZ [1,10,0] ?_;refine wc ?_ ?_<;>intro c17
 refine Z1 ?_;refine wT h ?_;exact⟨by rw[a6W c17],rfl⟩;have d17:=a5G (q:=F5) c17;refine ZZ [0,1,0] ?_;refine B1 [0] rfl (λμ F' h'=>∃i:Nat,(i<=l.length/\E7 l lo hi F5=!((l.drop i).any λx=>!F5 x))/\l.length-i=μ/\F'=[(7,.int .i64 i)]/\h=h') (l.length-0) [(7,.int .i64 0)] (h0:=h) ?_ Sb ⟨0,⟨by omega,d17⟩,rfl,rfl,rfl⟩ ?_;exact Su;rintro _ _ _ ⟨i,⟨hk,hJ⟩,rfl,rfl,rfl⟩;refine B2 rfl ?_;refine Z4 ?_;refine wD ?_ ?_<;>intro c21
 obtain⟨x,hx⟩:=A5 (l:=l) (k:=i) (by omega);rw[b3D hx]at hJ;have hxo:=hok x (List.mem_of_getElem? hx);refine ZZ [0,4] ?_;refine xf (E1 Et) (a1W x ⟨hxo.t.mono Sb,hxo.w⟩) ?_;refine Z1 ?_;refine wc ?_ ?_<;>intro c29
 have d29:(!F5 x)=true:=c29;rw[d29]at hJ;refine Z1 ?_;refine wT h ?_;exact⟨by rw[hJ];rfl,rfl⟩;have d29:(!F5 x)=false:=c29;rw[d29]at hJ;refine ZZ [0,3] ?_;refine WL.nil (A6 (l.length-(i+1)) [(7,.int .i64 (i+1))] (h'':=h) (by omega) ?_ Su Sb ⟨i+1,⟨by omega,by simpa using hJ⟩,rfl,rfl,rfl⟩);exact Su;rw[List.drop_eq_nil_of_le (by omega)]at hJ;refine ZZ [0,1,0] ?_;refine wT h ?_;exact⟨by rw[hJ];rfl,rfl⟩
theorem a4A(a:Option Addr)(k c:Nat)(l:List Ex)(lo hi:Int)(h:List Res)(m:View)(hL:Rd m h a k c 6 (fl exE l))(hok:∀x∈l,EOk m h x) :
 CT prog 162 [.slice a k c,.int .i64 lo,.int .i64 hi] h m (A7 h (.bool (E7 l lo hi F8))):=by
 have hl:=hL.lenF a1h (by decide);subst hl;have hmx:=hL.mx;have hle:=hL.le;refine cB [0,1,2,6,7,17,21,29] func162 λ_=>?_;refine ZZ [1,10,0] ?_;refine wc ?_ ?_<;>intro c17
 refine Z1 ?_;refine wT h ?_;exact⟨by rw[a6W c17],rfl⟩;have d17:=a5G (q:=F8) c17;refine ZZ [0,1,0] ?_;refine B1 [0] rfl (λμ F' h'=>∃i:Nat,(i<=l.length/\E7 l lo hi F8=!((l.drop i).any λx=>!F8 x))/\l.length-i=μ/\F'=[(7,.int .i64 i)]/\h=h') (l.length-0) [(7,.int .i64 0)] (h0:=h) ?_ Sb ⟨0,⟨by omega,d17⟩,rfl,rfl,rfl⟩ ?_;exact Su;rintro _ _ _ ⟨i,⟨hk,hJ⟩,rfl,rfl,rfl⟩;refine B2 rfl ?_;refine Z4 ?_;refine wD ?_ ?_<;>intro c21
 obtain⟨x,hx⟩:=A5 (l:=l) (k:=i) (by omega);rw[b3D hx]at hJ;have hxo:=hok x (List.mem_of_getElem? hx);refine ZZ [0,4] ?_;refine xf (E1 Et) (mayR_ct x _ (hxo.t.mono Sb) hxo.w) ?_;refine Z1 ?_;refine wc ?_ ?_<;>intro c29
 have d29:(!F8 x)=true:=c29;rw[d29]at hJ;refine Z1 ?_;refine wT h ?_;exact⟨by rw[hJ];rfl,rfl⟩;have d29:(!F8 x)=false:=c29;rw[d29]at hJ;refine ZZ [0,3] ?_;refine WL.nil (A6 (l.length-(i+1)) [(7,.int .i64 (i+1))] (h'':=h) (by omega) ?_ Su Sb ⟨i+1,⟨by omega,by simpa using hJ⟩,rfl,rfl,rfl⟩);exact Su;rw[List.drop_eq_nil_of_le (by omega)]at hJ;refine ZZ [0,1,0] ?_;refine wT h ?_;exact⟨by rw[hJ];rfl,rfl⟩
theorem a7r(a:Option Addr)(k c:Nat)(l:List B)(lo hi:Int)(h:List Res)(m:View)(hL:Rd m h a k c 1 (fl encB l))(hok:∀x∈l,x.length<=Big) :
 CT prog 213 [.slice a k c,.int .i64 lo,.int .i64 hi] h m (A7 h (.bool (E7 l lo hi Go.Lx.name))):=by
 have hl:=hL.lenF encB_len (by decide);subst hl;have hmx:=hL.mx;have hle:=hL.le;refine cB [0,1,2,6,7,17,21,29] func213 λ_=>?_;refine ZZ [1,10,0] ?_;refine wc ?_ ?_<;>intro c17
 refine Z1 ?_;refine wT h ?_;exact⟨by rw[a6W c17],rfl⟩;have d17:=a5G (q:=Go.Lx.name) c17;refine ZZ [0,1,0] ?_;refine B1 [0] rfl (λμ F' h'=>∃i:Nat,(i<=l.length/\E7 l lo hi Go.Lx.name=!((l.drop i).any λx=>!Go.Lx.name x))/\l.length-i=μ/\F'=[(7,.int .i64 i)]/\h=h') (l.length-0) [(7,.int .i64 0)] (h0:=h) ?_ Sb ⟨0,⟨by omega,d17⟩,rfl,rfl,rfl⟩ ?_;exact Su;rintro _ _ _ ⟨i,⟨hk,hJ⟩,rfl,rfl,rfl⟩;refine B2 rfl ?_;refine Z4 ?_;refine wD ?_ ?_<;>intro c21
 obtain⟨x,hx⟩:=A5 (l:=l) (k:=i) (by omega);rw[b3D hx]at hJ;have hxo:=hok x (List.mem_of_getElem? hx);refine ZZ [0,4] ?_;refine xf (E1 Et) (CT.val (a06 x _ _ (Nat.le_trans hxo (by decide))) (congrArg Value.bool (Go.Lx.name_eq x).symm)) ?_;refine Z1 ?_;refine wc ?_ ?_<;>intro c29
 have d29:(!Go.Lx.name x)=true:=c29;rw[d29]at hJ;refine Z1 ?_;refine wT h ?_;exact⟨by rw[hJ];rfl,rfl⟩;have d29:(!Go.Lx.name x)=false:=c29;rw[d29]at hJ;refine ZZ [0,3] ?_;refine WL.nil (A6 (l.length-(i+1)) [(7,.int .i64 (i+1))] (h'':=h) (by omega) ?_ Su Sb ⟨i+1,⟨by omega,by simpa using hJ⟩,rfl,rfl,rfl⟩);exact Su;rw[List.drop_eq_nil_of_le (by omega)]at hJ;refine ZZ [0,1,0] ?_;refine wT h ?_;exact⟨by rw[hJ];rfl,rfl⟩
theorem c3s{t:Ty}(h:Go.Ty.mayR t=true):decide (t.kind<=3)=Go.Ty.prim t.kind:=by
 cases hp:Go.Ty.prim t.kind with
 |true=>unfold Go.Ty.prim at hp;simp only[Bool.or_eq_true,beq_iff_eq]at hp;simp only[decide_eq_true_eq];omega
 |false=>
  unfold Go.Ty.mayR at h;rw[hp]at h;by_cases hf:Go.Ty.far t=true
  ·rw[if_pos hf]at h;cases h
  rw[if_neg hf,if_neg (by decide)]at h;by_cases h4:(t.kind==4)=true
  ·rw[beq_iff_eq]at h4
   rw[h4];rfl
  ·rw[if_neg h4]at h
   have:=(Go.Ty.eqT_iff t Go.Ty.timer).1 h;rw[this];rfl
theorem c1w(t:Ty):X3 t=(Go.Ty.mayR t&&Go.Ty.prim t.kind&&(t.dim==0)):=by
 unfold X3;rw[Go.Ty.may_eq];cases hm:Go.Ty.mayR t with
 |false=>rfl
 |true=>rw[c3s hm,Bool.true_and,Bool.true_and];exact Bool.and_comm _ _
theorem a7V(t:Ty)(h:List Res)(m:View)(hs:t.proto.length<=9223372036854775807):CT prog 214 [tyV t] h m (A7 h (.bool (X3 t))):=by
 refine cB [1,2] func214 λ_=>?_;refine xX λb1=>?_
 refine ZZ [1,1] ?_;refine xf (E1 Et) (Ty9.mayR_ct t _ _ hs) ?_;refine kA3 ?_;refine A4 (GU.t rfl rfl) (λhc=>⟨Ef,(E1 (Eg hc)),Ty9.prim_ct t.kind _ _⟩) Lb ?_;refine Z7 ?_;refine wT h ?_;exact⟨by rw[c1w],rfl⟩
theorem c8v{m:View}{h:List Res}(f:Fo)(hw:FoW f):CT prog 209 [foV f] h m (A7 h (.bool (foP f))):=by
 have hn2:f.name.length<=9223372036854775807:=Nat.le_trans hw.n (by decide);have hp2:f.ty.proto.length<=9223372036854775807:=Nat.le_trans hw.t.p (by decide);refine cB [1,2] func209 λ_=>?_;refine xX λb1=>?_
 refine ZZ [1,2] ?_;refine xf (E1 Et) (a06 f.name _ _ hn2) ?_;refine kA3 ?_;refine A4 (GU.t rfl rfl) (λhc=>⟨Ef,(E1 (Eg hc)),Ty9.mayR_ct f.ty _ _ hp2⟩) Lb ?_;refine kA8 ?_;refine A4 (a4P rfl rfl) (λhc=>⟨Ef,(E1 (Eg hc)),a7V f.ty _ _ hp2⟩) Lb ?_;refine zG (λhc=>S0 hc rfl rfl) ?_;refine Z2 ?_;refine wT h ?_;exact⟨by unfold foP;rw[Go.Lx.name_eq,Go.Ty.may_eq],rfl⟩
theorem c6a{m:View}{h:List Res}(r:Rp)(hn:r.name.length<=Big)(hb:EOk m h r.base)(hcn:EOk m h r.count):CT prog 165 [rpV r] h m (A7 h (.bool (O6 r))):=by
 have hn2:r.name.length<=9223372036854775807:=Nat.le_trans hn (by decide);refine cB [1,2,5] func165 λ_=>?_;refine xX λb1=>?_
 refine ZZ [1,2] ?_;refine xG (H3 Et Ek) ?_;refine Z0 ?_;refine wc ?_ ?_<;>intro c5
 have hR:O6 r=(H4 r.base&&H4 r.count):=by unfold O6;rw[if_pos c5]
 refine kA2 ?_;refine xf (E1 Et) (a9g r.base (hb.t.mono Sb)) ?_;refine kA3 ?_;refine A4 (GU.t rfl rfl) (λhc=>⟨Ef,(E1 (Eg hc)),a9g r.count (hcn.t.mono Sb)⟩) Lb ?_;refine Z2 ?_;refine wT h ?_;exact⟨by rw[hR],rfl⟩;have hR:O6 r=(Go.Lx.nameR r.name&&F8 r.base&&F8 r.count):=by unfold O6;rw[if_neg (by rw[c5];decide),Go.Lx.name_eq]
 refine ZZ [0,2] ?_;refine xf (E1 Et) (a06 r.name _ _ hn2) ?_;refine kA3 ?_;refine A4 (GU.t rfl rfl) (λhc=>⟨Ef,(E1 (Eg hc)),mayR_ct r.base _ (hb.t.mono Sb) hb.w⟩) Lb ?_;refine kA4 ?_;refine A4 (GU.t rfl rfl) (λhc=>⟨Ef,(E1 (Eg hc)),mayR_ct r.count _ (hcn.t.mono Sb) hcn.w⟩) Lb ?_;refine Z2 ?_;refine wT h ?_;exact⟨by rw[hR],rfl⟩
end
section
open Go.Eng Go.Pc Go
open Go.Xp hiding B C9
open Go.Ty (Ty Vr eqT tyV I7 PrOk VOk encV D2 M8 D3 eqI a2J a3c)
open Go.Lx (encB encB_len)
def eqB(x y:B):Bool:=x==y
theorem c7K{x y:B}(h:(!(x==y))=true):eqB x y=false:=by simpa [eqB]using h
theorem c8h{x y:B}(h:(!(x==y))=false):eqB x y=true:=by simpa [eqB]using h
theorem b7r(s1 s2:Option Addr)(n1 c1 n2 c2:Nat)(xs ys:List _)(h:List Res)(m:View)(h1:Rd m h s1 n1 c1 1 (fl encB xs))(h2:Rd m h s2 n2 c2 1 (fl encB ys)) :
 CT prog 59 [.slice s1 n1 c1,.slice s2 n2 c2] h m (A7 h (.bool (eqL eqB xs ys))):=by
 have l1:=h1.lenF encB_len (by decide);have l2:=h2.lenF encB_len (by decide);have m1:=h1.mx;have m2:=h2.mx;have k1:=h1.le;have k2:=h2.le;refine cB [0,1,4,5,10,14,25] func59 λ_=>?_;refine ZZ [1,5,0] ?_;refine wN ?_ ?_<;>intro c10
 refine Z1 ?_;refine wT h ?_;exact⟨by rw[U4 _ _ _ (by omega)],rfl⟩;refine ZZ [0,1,0] ?_;refine B1 [0,1] rfl (λμ F' h'=>∃k:Nat,(k<=n1/\eqL eqB xs ys=eqL eqB (xs.drop k) (ys.drop k))/\n1-k=μ/\F'=[(5,.int .i64 k)]/\h=h') (n1-0) [(5,.int .i64 0)] (h0:=h) ?_ Sb ⟨0,⟨by omega,by simp⟩,rfl,rfl,rfl⟩ ?_;exact Su;rintro _ _ _ ⟨k,⟨hk,hJ⟩,rfl,rfl,rfl⟩;refine B2 rfl ?_;refine Z4 ?_;refine wD ?_ ?_<;>intro c14
 obtain⟨x,hx⟩:=A5 (l:=xs) (k:=k) (by omega);obtain⟨y,hy⟩:=A5 (l:=ys) (k:=k) (by omega);rw[R9 _ hx hy]at hJ;refine Z0 ?_;refine dS [] (.op 0 (.op 1 (.op 2 (.op 3 (.op 4 (.op 5 (.op 6 (.op 7 .nil)))))))) [8] C4 ?_;refine kA8 ?_;refine SR.nil rfl rfl ?_;refine xG (S2 Et Et) ?_;refine Z0 ?_;refine wc ?_ ?_<;>intro c25
 refine Z1 ?_;refine wT h ?_;exact⟨by rw[hJ,c7K c25];rfl,rfl⟩;rw[c8h c25,Bool.true_and]at hJ;refine ZZ [0,3] ?_;refine WL.nil (A6 (n1-(k+1)) [(5,.int .i64 (k+1))] (h'':=h) (by omega) ?_ Su Sb ⟨k+1,⟨by omega,hJ⟩,rfl,rfl,rfl⟩);exact Su;refine ZZ [0,1,0] ?_;refine wT h ?_;exact⟨by rw[hJ,List.drop_eq_nil_of_le (by omega),List.drop_eq_nil_of_le (by omega)];rfl,rfl⟩
theorem a8q(s1 s2:Option Addr)(n1 c1 n2 c2:Nat)(xs ys:List _)(h:List Res)(m:View)(h1:Rd m h s1 n1 c1 1 (fl M8 xs))(h2:Rd m h s2 n2 c2 1 (fl M8 ys)) :
 CT prog 128 [.slice s1 n1 c1,.slice s2 n2 c2] h m (A7 h (.bool (eqL eqI xs ys))):=by
 have l1:=h1.lenF D3 (by decide);have l2:=h2.lenF D3 (by decide);have m1:=h1.mx;have m2:=h2.mx;have k1:=h1.le;have k2:=h2.le;refine cB [0,1,4,5,10,14,25] func128 λ_=>?_;refine ZZ [1,5,0] ?_;refine wN ?_ ?_<;>intro c10
 refine Z1 ?_;refine wT h ?_;exact⟨by rw[U4 _ _ _ (by omega)],rfl⟩;refine ZZ [0,1,0] ?_;refine B1 [0,1] rfl (λμ F' h'=>∃k:Nat,(k<=n1/\eqL eqI xs ys=eqL eqI (xs.drop k) (ys.drop k))/\n1-k=μ/\F'=[(5,.int .i64 k)]/\h=h') (n1-0) [(5,.int .i64 0)] (h0:=h) ?_ Sb ⟨0,⟨by omega,by simp⟩,rfl,rfl,rfl⟩ ?_;exact Su;rintro _ _ _ ⟨k,⟨hk,hJ⟩,rfl,rfl,rfl⟩;refine B2 rfl ?_;refine Z4 ?_;refine wD ?_ ?_<;>intro c14
 obtain⟨x,hx⟩:=A5 (l:=xs) (k:=k) (by omega);obtain⟨y,hy⟩:=A5 (l:=ys) (k:=k) (by omega);rw[R9 _ hx hy]at hJ;refine Z0 ?_;refine dS [] (.op 0 (.op 1 (.op 2 (.op 3 (.op 4 (.op 5 (.op 6 (.op 7 .nil)))))))) [8] C4 ?_;refine kA8 ?_;refine SR.nil rfl rfl ?_;refine Z1 ?_;refine wc ?_ ?_<;>intro c25
 refine Z1 ?_;refine wT h ?_;exact⟨by rw[hJ,a3c c25];rfl,rfl⟩;rw[a2J c25,Bool.true_and]at hJ;refine ZZ [0,3] ?_;refine WL.nil (A6 (n1-(k+1)) [(5,.int .i64 (k+1))] (h'':=h) (by omega) ?_ Su Sb ⟨k+1,⟨by omega,hJ⟩,rfl,rfl,rfl⟩);exact Su;refine ZZ [0,1,0] ?_;refine wT h ?_;exact⟨by rw[hJ,List.drop_eq_nil_of_le (by omega),List.drop_eq_nil_of_le (by omega)];rfl,rfl⟩
structure GK(m:View)(h:List Res)(g:Gu):Prop where
 o:GOk m h g
 b:∀x∈g.bl,POk m h x
theorem GK.mono{m:View}{h h':List Res}{g:Gu}(q:GK m h g)(r:h.Sublist h'):GK m h' g:=⟨q.o.mono r,λx hx=>(q.b x hx).mono r⟩
theorem a3D(xs:List Ex)(ys:List Ex)(s1 s2:Option Addr)(n1 c1 n2 c2:Nat)(h:List Res)(m:View)(h1:Rd m h s1 n1 c1 6 (fl exE xs))(h2:Rd m h s2 n2 c2 6 (fl exE ys))(o1:∀x∈xs,TOk m h x)(o2:∀x∈ys,TOk m h x) :
 CT prog 27 [.slice s1 n1 c1,.slice s2 n2 c2] h m (A7 h (.bool (eqL E5 xs ys))):=by
 have l1:=h1.lenF a1h (by decide);have l2:=h2.lenF a1h (by decide);have m1:=h1.mx;have m2:=h2.mx;have k1:=h1.le;have k2:=h2.le;refine cB [0,1,4,5,10,14,26] func27 λ_=>?_;refine ZZ [1,5,0] ?_;refine wN ?_ ?_<;>intro c10
 refine Z1 ?_;refine wT h ?_;exact⟨by rw[U4 _ _ _ (by omega)],rfl⟩;refine ZZ [0,1,0] ?_;refine B1 [0,1] rfl (λμ F' h'=>∃k:Nat,(k<=n1/\eqL E5 xs ys=eqL E5 (xs.drop k) (ys.drop k))/\n1-k=μ/\F'=[(5,.int .i64 k)]/\h=h') (n1-0) [(5,.int .i64 0)] (h0:=h) ?_ Sb ⟨0,⟨by omega,by simp⟩,rfl,rfl,rfl⟩ ?_;exact Su;rintro _ _ _ ⟨k,⟨hk,hJ⟩,rfl,rfl,rfl⟩;refine B2 rfl ?_;refine Z4 ?_;refine wD ?_ ?_<;>intro c14
 obtain⟨x,hx⟩:=A5 (l:=xs) (k:=k) (by omega);obtain⟨y,hy⟩:=A5 (l:=ys) (k:=k) (by omega);rw[R9 _ hx hy]at hJ;have hxm:=List.mem_of_getElem? hx;have hxo:=o1 x hxm;have hyo:=o2 y (List.mem_of_getElem? hy);refine Z0 ?_;refine dS [] (.op 0 (.op 1 (.op 2 (.op 3 (.op 4 (.op 5 (.op 6 (.op 7 .nil)))))))) [8,9] C4 ?_;refine kA8 ?_;refine SR.nil rfl rfl ?_;refine xf (E2 Et Et) (a1p x y _ _ (hxo.mono Sb) (hyo.mono Sb)) ?_;refine Z1 ?_;refine wc ?_ ?_<;>intro c26
 have d26:E5 x y=false:=by simpa using c26
 rw[d26]at hJ;refine Z1 ?_;refine wT h ?_;exact⟨by rw[hJ];rfl,rfl⟩;have d26:E5 x y=true:=by simpa using c26
 rw[d26,Bool.true_and]at hJ;refine ZZ [0,3] ?_;refine WL.nil (A6 (n1-(k+1)) [(5,.int .i64 (k+1))] (h'':=h) (by omega) ?_ Su Sb ⟨k+1,⟨by omega,hJ⟩,rfl,rfl,rfl⟩);exact Su;refine ZZ [0,1,0] ?_;refine wT h ?_;exact⟨by rw[hJ,List.drop_eq_nil_of_le (by omega),List.drop_eq_nil_of_le (by omega)];rfl,rfl⟩
theorem a5f(xs:List Pr)(ih:∀x∈xs,∀(y:Pr)(h:List Res)(m:View),POk m h x->POk m h y->CT prog 12 [prV x,prV y] h m (A7 h (.bool (H6 x y))))(ys:List Pr)(s1 s2:Option Addr)(n1 c1 n2 c2:Nat)(h:List Res)(m:View)(h1:Rd m h s1 n1 c1 42 (fl prE xs))(h2:Rd m h s2 n2 c2 42 (fl prE ys))(o1:∀x∈xs,POk m h x)(o2:∀x∈ys,POk m h x) :
 CT prog 29 [.slice s1 n1 c1,.slice s2 n2 c2] h m (A7 h (.bool (eqL H6 xs ys))):=by
 have l1:=h1.lenF a2r (by decide);have l2:=h2.lenF a2r (by decide);have m1:=h1.mx;have m2:=h2.mx;have k1:=h1.le;have k2:=h2.le;refine cB [0,1,4,5,10,14,26] func29 λ_=>?_;refine ZZ [1,5,0] ?_;refine wN ?_ ?_<;>intro c10
 refine Z1 ?_;refine wT h ?_;exact⟨by rw[U4 _ _ _ (by omega)],rfl⟩;refine ZZ [0,1,0] ?_;refine B1 [0,1] rfl (λμ F' h'=>∃k:Nat,(k<=n1/\eqL H6 xs ys=eqL H6 (xs.drop k) (ys.drop k))/\n1-k=μ/\F'=[(5,.int .i64 k)]/\h=h') (n1-0) [(5,.int .i64 0)] (h0:=h) ?_ Sb ⟨0,⟨by omega,by simp⟩,rfl,rfl,rfl⟩ ?_;exact Su;rintro _ _ _ ⟨k,⟨hk,hJ⟩,rfl,rfl,rfl⟩;refine B2 rfl ?_;refine Z4 ?_;refine wD ?_ ?_<;>intro c14
 obtain⟨x,hx⟩:=A5 (l:=xs) (k:=k) (by omega);obtain⟨y,hy⟩:=A5 (l:=ys) (k:=k) (by omega);rw[R9 _ hx hy]at hJ;have hxm:=List.mem_of_getElem? hx;have hxo:=o1 x hxm;have hyo:=o2 y (List.mem_of_getElem? hy);refine Z0 ?_;refine dS [] (.op 0 (.op 1 (.op 2 (.op 3 (.op 4 (.op 5 (.op 6 (.op 7 .nil)))))))) [8,9] C4 ?_;refine kA8 ?_;refine SR.nil rfl rfl ?_;refine xf (E2 Et Et) (ih x hxm y _ _ (hxo.mono Sb) (hyo.mono Sb)) ?_;refine Z1 ?_;refine wc ?_ ?_<;>intro c26
 have d26:H6 x y=false:=by simpa using c26
 rw[d26]at hJ;refine Z1 ?_;refine wT h ?_;exact⟨by rw[hJ];rfl,rfl⟩;have d26:H6 x y=true:=by simpa using c26
 rw[d26,Bool.true_and]at hJ;refine ZZ [0,3] ?_;refine WL.nil (A6 (n1-(k+1)) [(5,.int .i64 (k+1))] (h'':=h) (by omega) ?_ Su Sb ⟨k+1,⟨by omega,hJ⟩,rfl,rfl,rfl⟩);exact Su;refine ZZ [0,1,0] ?_;refine wT h ?_;exact⟨by rw[hJ,List.drop_eq_nil_of_le (by omega),List.drop_eq_nil_of_le (by omega)];rfl,rfl⟩
theorem c3P(x y:Int):eqI x y=true↔x=y:=by simp[eqI]
theorem c1k(xs ys:List Int):eqL eqI xs ys=(xs==ys):=by rw[Bool.eq_iff_iff,b3s c3P];simp
theorem c3q{m:View}{h:List Res}{v:Vr}(q:VOk m h v):Rd m h v.a v.n v.c 1 (fl M8 v.items):=q.rd
theorem b1e(u1 u2:Bool)(s1 s2:Option Addr)(n1 c1 n2 c2:Nat)(xs ys:List Vr)(h:List Res)(m:View)(p1:PrOk m h s1 n1 c1 xs)(p2:PrOk m h s2 n2 c2 ys) :
 CT prog 60 [.agg #[.bool u1,.slice s1 n1 c1],.agg #[.bool u2,.slice s2 n2 c2]] h m (A7 h (.bool (a2e u1 xs u2 ys))):=by
 have h1:=p1.rd;have h2:=p2.rd;have l1:=h1.lenF D2 (by decide);have l2:=h2.lenF D2 (by decide);have m1:=h1.mx;have m2:=h2.mx;have k1:=h1.le;have k2:=h2.le;have e0:a2e u1 xs u2 ys=((u1==u2)&&eqL P2 xs ys):=rfl;refine cB [2,3,4,5,19,24,55] func60 λ_=>?_;refine xX λb2=>?_
 refine xX λb3=>?_;refine ZZ [1,4] ?_;refine xG (c5s uu4 Et Et) ?_;refine Z9 ?_;refine wc ?_ ?_<;>intro c19
 have d19:a2e u1 xs u2 ys=false:=by
  rw[e0];rcases Bool.or_eq_true_iff.1 c19 with c|c
  ·have:(u1==u2)=false:=by simpa using c
   rw[this];rfl
  ·rw[U4 P2 xs ys (by simp at c;omega),Bool.and_false]
 refine Z1 ?_;refine wT h ?_;exact⟨by rw[d19],rfl⟩;have d19:(u1==u2)=true/\n1=n2:=by have:=Bool.or_eq_false_iff.1 c19;exact⟨by simpa using this.1,by have:=this.2;simp at this;omega⟩
 rw[d19.1,Bool.true_and]at e0;refine ZZ [0,1,0] ?_;refine B1 [2,3] rfl (λμ F' h'=>∃k:Nat,(k<=n1/\a2e u1 xs u2 ys=eqL P2 (xs.drop k) (ys.drop k))/\n1-k=μ/\F'=[(5,.int .i64 k)]/\.pt b3 (.cells [.bool u2,.slice s2 n2 c2].toArray 40 (0,0))::.pt b2 (.cells [.bool u1,.slice s1 n1 c1].toArray 40 (0,0))::h=h') (n1-0) [(5,.int .i64 0)] (h0:=.pt b3 (.cells [.bool u2,.slice s2 n2 c2].toArray 40 (0,0))::.pt b2 (.cells [.bool u1,.slice s1 n1 c1].toArray 40 (0,0))::h) ?_ Sb ⟨0,⟨by omega,by rw[e0];simp⟩,rfl,rfl,rfl⟩ ?_;exact Su;rintro _ _ _ ⟨k,⟨hk,hJ⟩,rfl,rfl,rfl⟩;refine B2 rfl ?_;refine Z5 ?_;refine wD ?_ ?_<;>intro c24
 obtain⟨x,hx⟩:=A5 (l:=xs) (k:=k) (by omega);obtain⟨y,hy⟩:=A5 (l:=ys) (k:=k) (by omega);rw[R9 _ hx hy]at hJ;have hxo:=c3q (p1.ok x (List.mem_of_getElem? hx));have hyo:=c3q (p2.ok y (List.mem_of_getElem? hy));have hi:=c1k x.items y.items;refine Z0 ?_;refine dS [] (.op 0 (.op 1 (.op 2 (.op 3 (.op 4 (.op 5 (.op 6 (.op 7 (.op 8 (.op 9 (.op 10 (.op 11 (.op 12 (.op 13 (.op 14 (.op 15 (.op 16 (.op 17 (.op 18 (.op 19 (.op 20 (.op 21 (.op 22 (.op 23 (.op 24 (.op 25 .nil)))))))))))))))))))))))))) [26,27,28] C4 ?_;refine a8L ?_;refine yG rfl (S2 Et Et) ?_;refine kA1 ?_;refine C0 rfl rfl (GU.f rfl rfl) (λhc=>PO.fieldAddr b9P rfl (Nat.ne_of_beq_eq_false rfl) Et) Lb ?_;refine C0 rfl rfl (GU.f rfl rfl) (λhc=>E9 c6l rfl (Eg hc) Me rfl) Lb ?_;refine C0 rfl rfl (GU.f rfl rfl) (λhc=>PO.move Et) Lb ?_
 refine C0 rfl rfl (GU.f rfl rfl) (λhc=>D8 a0m.und a0m.size a0m.posz (Eg hc) (Eg hc) (h1.mono Vl Sb) rfl (by omega)) Lb ?_;refine C0 rfl rfl (GU.f rfl rfl) (λhc=>G6 a7p rfl (Nat.ne_of_beq_eq_false rfl) D2 (Nat.succ_pos _) (h1.mono Vl Sb) (by assumption) (Eg hc)) Lb ?_;refine C0 rfl rfl (GU.f rfl rfl) (λhc=>G8 a9J rfl D2 (h1.mono Vl Sb) (Eg hc) (by assumption) rfl) Lb ?_;refine C0 rfl rfl (GU.f rfl rfl) (λhc=>PO.fieldAddr b9P rfl (Nat.ne_of_beq_eq_false rfl) Et) Lb ?_;refine C0 rfl rfl (GU.f rfl rfl) (λhc=>E9 c6l rfl (Eg hc) Me rfl) Lb ?_;refine C0 rfl rfl (GU.f rfl rfl) (λhc=>PO.move Et) Lb ?_;refine C0 rfl rfl (GU.f rfl rfl) (λhc=>D8 a0m.und a0m.size a0m.posz (Eg hc) (Eg hc) (h2.mono Vl Sb) rfl (by omega)) Lb ?_;refine C0 rfl rfl (GU.f rfl rfl) (λhc=>G6 a7p rfl (Nat.ne_of_beq_eq_false rfl) D2 (Nat.succ_pos _) (h2.mono Vl Sb) (by assumption) (Eg hc)) Lb ?_
 refine C0 rfl rfl (GU.f rfl rfl) (λhc=>G8 a9J rfl D2 (h2.mono Vl Sb) (Eg hc) (by assumption) rfl) Lb ?_;refine SR.nil rfl rfl ?_;refine A4 (GU.f rfl rfl) (λhc=>⟨Ef,(E2 (Eg hc) (Eg hc)),a8q _ _ _ _ _ _ x.items y.items _ _ (hxo.mono Vl Sb) (hyo.mono Vl Sb)⟩) Lb ?_;refine Z2 ?_;refine wc ?_ ?_<;>intro c55
 replace c55:((!(x.tag==y.tag))||!(eqL eqI x.items y.items))=true:=c55;have d55:P2 x y=false:=by unfold P2;rw[<-hi];cases hq:(x.tag==y.tag)<;>cases hr:eqL eqI x.items y.items<;>simp_all
 rw[d55]at hJ;refine Z1 ?_;refine wT h ?_;exact⟨by rw[hJ];rfl,rfl⟩;replace c55:((!(x.tag==y.tag))||!(eqL eqI x.items y.items))=false:=c55;have d55:P2 x y=true:=by unfold P2;rw[<-hi];cases hq:(x.tag==y.tag)<;>cases hr:eqL eqI x.items y.items<;>simp_all
 rw[d55,Bool.true_and]at hJ;refine ZZ [0,3] ?_;refine WL.nil (A6 (n1-(k+1)) [(5,.int .i64 (k+1))] (h'':=.pt b3 (.cells [.bool u2,.slice s2 n2 c2].toArray 40 (0,0))::.pt b2 (.cells [.bool u1,.slice s1 n1 c1].toArray 40 (0,0))::h) (by omega) ?_ Su Sb ⟨k+1,⟨by omega,hJ⟩,rfl,rfl,rfl⟩);exact Su;refine ZZ [0,1,0] ?_;refine wT h ?_;exact⟨by rw[hJ,List.drop_eq_nil_of_le (by omega),List.drop_eq_nil_of_le (by omega)];rfl,rfl⟩
theorem a6m(x:Gu)(ih:∀z∈x.bl,∀(y:Pr)(h:List Res)(m:View),POk m h z->POk m h y->CT prog 12 [prV z,prV y] h m (A7 h (.bool (H6 z y))))(y:Gu)(h:List Res)(m:View)(hx:GK m h x)(hy:GK m h y) :
 CT prog 58 [guV x,guV y] h m (A7 h (.bool (S5 x y))):=by
 have v0:=View.le.refl m;refine cB [2,3,4] func58 λ_=>?_;refine xX λb2=>?_
 refine xX λb3=>?_;refine ZZ [1,10] ?_;refine zG (λhc=>H3 (Eg hc) (Eg hc)) ?_;refine kA6 ?_;refine A4 (GU.t rfl rfl) (λhc=>⟨Ef,(E2 (Eg hc) (Eg hc)),a1p x.cond y.cond _ _ (hx.o.cond.t.mono Sb) (hy.o.cond.t.mono Sb)⟩) Lb ?_;refine kA6 ?_;refine A4 (GU.t rfl rfl) (λhc=>⟨Ef,(E2 (Eg hc) (Eg hc)),a1p x.ch y.ch _ _ (hx.o.ch.t.mono Sb) (hy.o.ch.t.mono Sb)⟩) Lb ?_;refine kA6 ?_;refine A4 (GU.t rfl rfl) (λhc=>⟨Ef,(E2 (Eg hc) (Eg hc)),a1p x.time y.time _ _ (hx.o.time.t.mono Sb) (hy.o.time.t.mono Sb)⟩) Lb ?_;refine kA6 ?_;refine A4 (GU.t rfl rfl) (λhc=>⟨Ef,(E2 (Eg hc) (Eg hc)),a3D x.tg.l y.tg.l _ _ _ _ _ _ _ _ (hx.o.tg.rd.mono v0 Sb) (hy.o.tg.rd.mono v0 Sb) (λz hz=>(hx.o.tg.ok z hz).t.mono Sb) (λz hz=>(hy.o.tg.ok z hz).t.mono Sb)⟩) Lb ?_;refine kA6 ?_
 refine A4 (GU.t rfl rfl) (λhc=>⟨Ef,(E2 (Eg hc) (Eg hc)),a3D x.vl.l y.vl.l _ _ _ _ _ _ _ _ (hx.o.vl.rd.mono v0 Sb) (hy.o.vl.rd.mono v0 Sb) (λz hz=>(hx.o.vl.ok z hz).t.mono Sb) (λz hz=>(hy.o.vl.ok z hz).t.mono Sb)⟩) Lb ?_;refine kA6 ?_;refine A4 (GU.t rfl rfl) (λhc=>⟨Ef,(E2 (Eg hc) (Eg hc)),a5f x.bl ih y.bl _ _ _ _ _ _ _ _ (hx.o.b.mono v0 Sb) (hy.o.b.mono v0 Sb) (λz hz=>(hx.b z hz).mono Sb) (λz hz=>(hy.b z hz).mono Sb)⟩) Lb ?_;refine Z2 ?_;refine wT h ?_;exact⟨by rw[a7f],rfl⟩
theorem a9Z(xs:List Gu)(ih:∀x∈xs,∀z∈x.bl,∀(y:Pr)(h:List Res)(m:View),POk m h z->POk m h y->CT prog 12 [prV z,prV y] h m (A7 h (.bool (H6 z y))))(ys:List Gu)(s1 s2:Option Addr)(n1 c1 n2 c2:Nat)(h:List Res)(m:View)(h1:Rd m h s1 n1 c1 23 (fl guE xs))(h2:Rd m h s2 n2 c2 23 (fl guE ys))(o1:∀x∈xs,GK m h x)(o2:∀x∈ys,GK m h x) :
 CT prog 28 [.slice s1 n1 c1,.slice s2 n2 c2] h m (A7 h (.bool (eqL S5 xs ys))):=by
 have l1:=h1.lenF a1J (by decide);have l2:=h2.lenF a1J (by decide);have m1:=h1.mx;have m2:=h2.mx;have k1:=h1.le;have k2:=h2.le;refine cB [0,1,4,5,10,14,26] func28 λ_=>?_;refine ZZ [1,5,0] ?_;refine wN ?_ ?_<;>intro c10
 refine Z1 ?_;refine wT h ?_;exact⟨by rw[U4 _ _ _ (by omega)],rfl⟩;refine ZZ [0,1,0] ?_;refine B1 [0,1] rfl (λμ F' h'=>∃k:Nat,(k<=n1/\eqL S5 xs ys=eqL S5 (xs.drop k) (ys.drop k))/\n1-k=μ/\F'=[(5,.int .i64 k)]/\h=h') (n1-0) [(5,.int .i64 0)] (h0:=h) ?_ Sb ⟨0,⟨by omega,by simp⟩,rfl,rfl,rfl⟩ ?_;exact Su;rintro _ _ _ ⟨k,⟨hk,hJ⟩,rfl,rfl,rfl⟩;refine B2 rfl ?_;refine Z4 ?_;refine wD ?_ ?_<;>intro c14
 obtain⟨x,hx⟩:=A5 (l:=xs) (k:=k) (by omega);obtain⟨y,hy⟩:=A5 (l:=ys) (k:=k) (by omega);rw[R9 _ hx hy]at hJ;have hxm:=List.mem_of_getElem? hx;have hxo:=o1 x hxm;have hyo:=o2 y (List.mem_of_getElem? hy);refine Z0 ?_;refine dS [] (.op 0 (.op 1 (.op 2 (.op 3 (.op 4 (.op 5 (.op 6 (.op 7 .nil)))))))) [8,9] C4 ?_;refine kA8 ?_;refine SR.nil rfl rfl ?_;refine xf (E2 Et Et) (a6m x (ih x hxm) y _ _ (hxo.mono Sb) (hyo.mono Sb)) ?_;refine Z1 ?_;refine wc ?_ ?_<;>intro c26
 have d26:S5 x y=false:=by simpa using c26
 rw[d26]at hJ;refine Z1 ?_;refine wT h ?_;exact⟨by rw[hJ];rfl,rfl⟩;have d26:S5 x y=true:=by simpa using c26
 rw[d26,Bool.true_and]at hJ;refine ZZ [0,3] ?_;refine WL.nil (A6 (n1-(k+1)) [(5,.int .i64 (k+1))] (h'':=h) (by omega) ?_ Su Sb ⟨k+1,⟨by omega,hJ⟩,rfl,rfl,rfl⟩);exact Su;refine ZZ [0,1,0] ?_;refine wT h ?_;exact⟨by rw[hJ,List.drop_eq_nil_of_le (by omega),List.drop_eq_nil_of_le (by omega)];rfl,rfl⟩
structure SK(m:View)(h:List Res)(s:Sp):Prop where
 o:SOk m h s
 b:∀x∈s.bl,POk m h x
theorem SK.mono{m:View}{h h':List Res}{s:Sp}(q:SK m h s)(r:h.Sublist h'):SK m h' s:=⟨q.o.mono r,λx hx=>(q.b x hx).mono r⟩
theorem c3g{x y:Fo}(h:(!(a0s x y))=true):a0s x y=false:=by simpa using h
theorem c3i{x y:Fo}(h:(!(a0s x y))=false):a0s x y=true:=by simpa using h
theorem a79(x:Sp)(ih:∀z∈x.bl,∀(y:Pr)(h:List Res)(m:View),POk m h z->POk m h y->CT prog 12 [prV z,prV y] h m (A7 h (.bool (H6 z y))))(y:Sp)(h:List Res)(m:View)(hx:SK m h x)(hy:SK m h y) :
 CT prog 30 [spV x,spV y] h m (A7 h (.bool (Y7 x y))):=by
 have v0:=View.le.refl m;have f1:=hx.o.fr;have f2:=hy.o.fr;have m1:=f1.mx;have m2:=f2.mx;have k1:=f1.le;have k2:=f2.le;refine cB [2,3,4,5,26,31,44] func30 λ_=>?_;refine xX λb2=>?_
 refine xX λb3=>?_;refine ZZ [1,10] ?_;refine E8 (GU.f rfl rfl) (λhc=>b3c a8H (by kernel_rfl) (by kernel_rfl) (Eg hc) (Eg hc) rfl) Lb ?_;refine Z10 ?_;refine wc ?_ ?_<;>intro c26
 have d26:Y7 x y=false:=b9O c26;refine Z1 ?_;refine wT h ?_;exact⟨by rw[d26],rfl⟩;have d26:=b7g (x:=x) (y:=y) c26;obtain⟨hlen,e0⟩:=d26;refine ZZ [0,1,0] ?_;refine B1 [2,3] rfl (λμ F' h'=>∃k:Nat,(k<=x.fs.l.length/\eqL a0s x.fs.l y.fs.l=eqL a0s (x.fs.l.drop k) (y.fs.l.drop k))/\x.fs.l.length-k=μ/\F'=[(5,.int .i64 k)]/\.pt b3 (.cells (spE y).toArray 43 (0,0))::.pt b2 (.cells (spE x).toArray 43 (0,0))::h=h') (x.fs.l.length-0) [(5,.int .i64 0)] (h0:=.pt b3 (.cells (spE y).toArray 43 (0,0))::.pt b2 (.cells (spE x).toArray 43 (0,0))::h) ?_ Sb ⟨0,⟨by omega,by simp⟩,rfl,rfl,rfl⟩ ?_;exact Su;rintro _ _ _ ⟨k,⟨hk,hJ⟩,rfl,rfl,rfl⟩;refine B2 rfl ?_;refine Z5 ?_;refine wD ?_ ?_<;>intro c31
 obtain⟨u,hu⟩:=A5 (l:=x.fs.l) (k:=k) (by omega);obtain⟨v,hv⟩:=A5 (l:=y.fs.l) (k:=k) (by omega);rw[R9 _ hu hv]at hJ;refine Z0 ?_;refine dS [] (.op 0 (.op 1 (.op 2 (.op 3 (.op 4 (.op 5 (.op 6 (.op 7 (.op 8 (.op 9 .nil)))))))))) [10] C4 ?_;refine b7f ?_;refine SR.nil rfl rfl ?_;refine xG (b59 (o:=36) b2i (by kernel_rfl) (by kernel_rfl) Et Et (by kernel_rfl) rfl) ?_;refine Z0 ?_;refine wc ?_ ?_<;>intro c44
 rw[c3g (x:=u) (y:=v) c44]at hJ;refine Z1 ?_;refine wT h ?_;exact⟨by rw[e0,hJ];rfl,rfl⟩;rw[c3i (x:=u) (y:=v) c44,Bool.true_and]at hJ;refine ZZ [0,3] ?_;refine WL.nil (A6 (x.fs.l.length-(k+1)) [(5,.int .i64 (k+1))] (h'':=.pt b3 (.cells (spE y).toArray 43 (0,0))::.pt b2 (.cells (spE x).toArray 43 (0,0))::h) (by omega) ?_ Su Sb ⟨k+1,⟨by omega,hJ⟩,rfl,rfl,rfl⟩);exact Su;rw[List.drop_eq_nil_of_le (by omega),List.drop_eq_nil_of_le (by omega)]at hJ;refine ZZ [0,4] ?_;refine xf (E2 Et Et) (b7r _ _ _ _ _ _ x.names.l y.names.l _ _ (hx.o.nr.mono v0 Sb) (hy.o.nr.mono v0 Sb)) ?_;refine kA5 ?_;refine A4 (GU.t rfl rfl) (λhc=>⟨Ef,(E2 (Eg hc) (Eg hc)),a1p x.e y.e _ _ (hx.o.e.t.mono Sb) (hy.o.e.t.mono Sb)⟩) Lb ?_;refine kA6 ?_;refine A4 (GU.t rfl rfl) (λhc=>⟨Ef,(E2 (Eg hc) (Eg hc)),b1e x.cs y.cs _ _ _ _ _ _ x.vs.l y.vs.l _ _ (hx.o.v.mono v0 Sb) (hy.o.v.mono v0 Sb)⟩) Lb ?_;refine kA6 ?_
 refine A4 (GU.t rfl rfl) (λhc=>⟨Ef,(E2 (Eg hc) (Eg hc)),a5f x.bl ih y.bl _ _ _ _ _ _ _ _ (hx.o.b.mono v0 Sb) (hy.o.b.mono v0 Sb) (λz hz=>(hx.b z hz).mono Sb) (λz hz=>(hy.b z hz).mono Sb)⟩) Lb ?_;refine Z2 ?_;refine wT h ?_;exact⟨by rw[e0,hJ];rfl,rfl⟩
theorem b1H{m:View}{h:List Res}{p:Pr}(q:POk m h p):∀g∈p.gl,GK m h g:=λg hg=>⟨q.own.gs g hg,λ_ hx=>q.sub (.g hg hx)⟩
theorem c3f{m:View}{h:List Res}{p:Pr}(q:POk m h p):SK m h p.sp:=⟨q.own.sp,λ_ hx=>q.sub (.s hx)⟩
theorem b07(p:Pr):∀(q:Pr)(h:List Res)(m:View),POk m h p->POk m h q->CT prog 12 [prV p,prV q] h m (A7 h (.bool (H6 p q))):=by
 refine Pr.ind (q:=λp=>∀(q:Pr)(h:List Res)(m:View),POk m h p->POk m h q->CT prog 12 [prV p,prV q] h m (A7 h (.bool (H6 p q)))) (λp ih q h m hp hq=>?_) p;have v0:=View.le.refl m;have e0:=a7i p q;have x1:=hp.own;have y1:=hq.own;have f1:=x1.pn;have f2:=y1.pn;have m1:=f1.mx;have m2:=f2.mx;have k1:=f1.le;have k2:=f2.le;refine cB [2,3,4,5,6,13,18,31] func12 λ_=>?_;refine xX λb2=>?_
 refine xX λb3=>?_;refine ZZ [1,7,0] ?_;refine wN ?_ ?_<;>intro c13
 rw[U4 _ p.pn.l q.pn.l (by omega),Bool.false_and]at e0;refine Z1 ?_;refine wT h ?_;exact⟨by rw[e0],rfl⟩;refine ZZ [0,1,0] ?_;refine B1 [2,3] rfl (λμ F' h'=>∃k:Nat,(k<=p.pn.l.length/\eqL (λa b:Int=>a==b) p.pn.l q.pn.l=eqL (λa b:Int=>a==b) (p.pn.l.drop k) (q.pn.l.drop k))/\p.pn.l.length-k=μ/\F'=[(5,.int .i64 k)]/\.pt b3 (.cells (prE q).toArray 45 (0,0))::.pt b2 (.cells (prE p).toArray 45 (0,0))::h=h') (p.pn.l.length-0) [(5,.int .i64 0)] (h0:=.pt b3 (.cells (prE q).toArray 45 (0,0))::.pt b2 (.cells (prE p).toArray 45 (0,0))::h) ?_ Sb ⟨0,⟨by omega,by simp⟩,rfl,rfl,rfl⟩ ?_;exact Su;rintro _ _ _ ⟨k,⟨hk,hJ⟩,rfl,rfl,rfl⟩;refine B2 rfl ?_;refine Z5 ?_;refine wD ?_ ?_<;>intro c18
 obtain⟨u,hu⟩:=A5 (l:=p.pn.l) (k:=k) (by omega);obtain⟨v,hv⟩:=A5 (l:=q.pn.l) (k:=k) (by omega);rw[R9 _ hu hv]at hJ;refine Z0 ?_;refine dS [] (.op 0 (.op 1 (.op 2 (.op 3 (.op 4 (.op 5 (.op 6 (.op 7 (.op 8 (.op 9 .nil)))))))))) [10] C4 ?_;refine b7f ?_;refine SR.nil rfl rfl ?_;refine Z1 ?_;refine wN ?_ ?_<;>intro c31
 rw[show(u==v)=false by simpa using c31]at hJ;refine Z1 ?_;refine wT h ?_;exact⟨by rw[e0,hJ];rfl,rfl⟩;rw[show(u==v)=true by simpa using c31,Bool.true_and]at hJ;refine ZZ [0,3] ?_;refine WL.nil (A6 (p.pn.l.length-(k+1)) [(5,.int .i64 (k+1))] (h'':=.pt b3 (.cells (prE q).toArray 45 (0,0))::.pt b2 (.cells (prE p).toArray 45 (0,0))::h) (by omega) ?_ Su Sb ⟨k+1,⟨by omega,hJ⟩,rfl,rfl,rfl⟩);exact Su;rw[List.drop_eq_nil_of_le (by omega),List.drop_eq_nil_of_le (by omega)]at hJ;refine ZZ [0,6] ?_;refine xG (H3 Et Et) ?_;refine kA7 ?_;refine A4 (GU.t rfl rfl) (λhc=>⟨Ef,(E2 (Eg hc) (Eg hc)),a1p p.rep.base q.rep.base _ _ (x1.rb.t.mono Sb) (y1.rb.t.mono Sb)⟩) Lb ?_;refine kA8 ?_;refine A4 (GU.t rfl rfl) (λhc=>⟨Ef,(E2 (Eg hc) (Eg hc)),a1p p.rep.count q.rep.count _ _ (x1.rc.t.mono Sb) (y1.rc.t.mono Sb)⟩) Lb ?_;refine ZZ [2,10] ?_;refine zG (λhc=>H3 (Eg hc) (Eg hc)) ?_;refine kA9 ?_
 refine A4 (GU.t rfl rfl) (λhc=>⟨Ef,(E2 (Eg hc) (Eg hc)),a1p p.ch q.ch _ _ (x1.ch.t.mono Sb) (y1.ch.t.mono Sb)⟩) Lb ?_;refine kA6 ?_;refine A4 (GU.t rfl rfl) (λhc=>⟨Ef,(E2 (Eg hc) (Eg hc)),a3D p.tg.l q.tg.l _ _ _ _ _ _ _ _ (x1.tg.rd.mono v0 Sb) (y1.tg.rd.mono v0 Sb) (λz hz=>(x1.tg.ok z hz).t.mono Sb) (λz hz=>(y1.tg.ok z hz).t.mono Sb)⟩) Lb ?_;refine kA6 ?_;refine A4 (GU.t rfl rfl) (λhc=>⟨Ef,(E2 (Eg hc) (Eg hc)),a3D p.ex.l q.ex.l _ _ _ _ _ _ _ _ (x1.ex.rd.mono v0 Sb) (y1.ex.rd.mono v0 Sb) (λz hz=>(x1.ex.ok z hz).t.mono Sb) (λz hz=>(y1.ex.ok z hz).t.mono Sb)⟩) Lb ?_;refine kA6 ?_;refine A4 (GU.t rfl rfl) (λhc=>⟨Ef,(E2 (Eg hc) (Eg hc)),a9Z p.gl (λg hg z hz=>ih z (.g hg hz)) q.gl _ _ _ _ _ _ _ _ (x1.g.mono v0 Sb) (y1.g.mono v0 Sb) (λz hz=>(b1H hp z hz).mono Sb) (λz hz=>(b1H hq z hz).mono Sb)⟩) Lb ?_;refine kA6 ?_
 refine A4 (GU.t rfl rfl) (λhc=>⟨Ef,(E2 (Eg hc) (Eg hc)),a5f p.ll (λz hz=>ih z (.l hz)) q.ll _ _ _ _ _ _ _ _ (x1.l.mono v0 Sb) (y1.l.mono v0 Sb) (λz hz=>(hp.sub (.l hz)).mono Sb) (λz hz=>(hq.sub (.l hz)).mono Sb)⟩) Lb ?_;refine kA6 ?_;refine A4 (GU.t rfl rfl) (λhc=>⟨Ef,(E2 (Eg hc) (Eg hc)),a79 p.sp (λz hz=>ih z (.s hz)) q.sp _ _ ((c3f hp).mono Sb) ((c3f hq).mono Sb)⟩) Lb ?_;refine Z2 ?_;refine wT h ?_;exact⟨by rw[e0,hJ];rfl,rfl⟩
end
section
open Go.Eng Go.Pc Go.Sx Go
open Go.Xp hiding B C9
open Go.Ty (Ty Vr Tok eqT tyV I7 A3 B8 O4 zeroK M8 D3 encV D2 VOk PrOk)
open Go.Lx (encB encB_len textO)
open Go.Ly (Rw P4 F9 eqR b2O b3u b3t)
theorem c0c{m m':View}(g:Glob m)(h:m.le m'):Glob m':=
 ⟨by obtain⟨x,hx⟩:=g.max;exact⟨x,h.cell hx⟩,λj v e=>h.cell (g.prim j v e),λj v e=>h.cell (g.sOne j v e),λj v e=>h.cell (g.sSome j v e),λj v e=>h.cell (g.sAll j v e)⟩
section
variable {m m':View}{h h':List Res}
theorem c7E(V:Vw m' h' m h){e:Ex}(q:TOk m' h' e):TOk m h e:=by
 induction q with
 |mk hr _ ih=>exact .mk (V _ _ _ _ _ hr) ih
theorem a5t(V:Vw m' h' m h){e:Ex}(q:EOk m' h' e):EOk m h e:=⟨c7E V q.t,q.w⟩
theorem b2Z(V:Vw m' h' m h){s:Sli Ex}(q:LOk m' h' s):LOk m h s:=⟨V _ _ _ _ _ q.rd,λx hx=>a5t V (q.ok x hx)⟩
theorem c8l(V:Vw m' h' m h){a:Option Addr}{k c:Nat}{l:List Vr}(q:PrOk m' h' a k c l):PrOk m h a k c l:=⟨V _ _ _ _ _ q.rd,λv hv=>⟨V _ _ _ _ _ (q.ok v hv).rd⟩,q.tag⟩
theorem c7J(V:Vw m' h' m h){s:Sp}(q:SOk m' h' s):SOk m h s:=⟨q.k,q.ty,V _ _ _ _ _ q.nr,q.nw,a5t V q.e,c8l V q.v,q.vw,V _ _ _ _ _ q.fr,q.fw,V _ _ _ _ _ q.b⟩
theorem c7d(V:Vw m' h' m h){g:Gu}(q:GOk m' h' g):GOk m h g:=⟨q.k,q.n,a5t V q.cond,a5t V q.ch,b2Z V q.tg,b2Z V q.vl,a5t V q.time,V _ _ _ _ _ q.b⟩
theorem c9Q(V:Vw m' h' m h){p:Pr}(q:P1 m' h' p):P1 m h p:=⟨q.k,q.n,a5t V q.ch,b2Z V q.tg,b2Z V q.ex,q.rn,a5t V q.rb,a5t V q.rc,V _ _ _ _ _ q.g,λx hx=>c7d V (q.gs x hx),V _ _ _ _ _ q.l,V _ _ _ _ _ q.pn,q.pw,c7J V q.sp⟩
theorem c8y(V:Vw m' h' m h){p:Pr}(q:POk m' h' p):POk m h p:=by
 induction q with
 |mk o _ ih=>exact .mk (c9Q V o) ih
end
theorem b8V{m:View}(hg:Glob m)(ra:Option Addr)(rc:Nat)(R:List Rw)(h:List Res)(ht:∀x∈R,x.text.length<=140737488355328) :
 CT prog 9 [.slice ra R.length rc] (.row (.slice ra R.length rc) 52 3 R.length (fl P4 R)::h) m (λv _ h'=>∃x hx bl,v=.tuple #[prV x,.int .i64 ((T7 R).2.1:Nat),.int .i64 (T7 R).2.2]/\stP x=(T7 R).1/\POk m (hx++(bl++h)) x/\Rd m hx ra R.length rc 3 (fl P4 R)/\h'=hx++(bl++h)):=
 (CT.lendRow call9 λm' hle hr=>b4O (c0c hg hle) ra rc R h hr ht).mono (by
  rintro v m2 h2-⟨m',hx,h3,⟨x,bl,h1,h4,h5,rfl⟩,rfl,V,hr⟩;exact⟨x,hx,bl,h1,h4,c8y V (h5.mono (List.sublist_append_left _ _)),hr,rfl⟩)
theorem b1W{m:View}(hg:Glob m)(ra:Option Addr)(rc:Nat)(R:List Rw)(h:List Res)(ht:∀x∈R,x.text.length<=140737488355328) :
 CT prog 9 [.slice ra R.length rc] (.row (.slice ra R.length rc) 52 3 R.length (fl P4 R)::h) m (λv _ h'=>∃x hh,v=.tuple #[prV x,.int .i64 ((T7 R).2.1:Nat),.int .i64 (T7 R).2.2]/\stP x=(T7 R).1/\POk m (hh++h) x/\h'=hh++h):=
 (b8V hg ra rc R h ht).mono (by
  rintro v m2 h2-⟨x,hx,bl,h1,h4,h5,-,rfl⟩;exact⟨x,hx++bl,h1,h4,by rw[List.append_assoc];exact h5,by rw[List.append_assoc]⟩)
theorem b8Z(s:B):(Lib.splitB ⟨#[47]⟩ 0 (Lib.countB ⟨s.toArray⟩ ⟨#[47]⟩) ⟨s.toArray⟩).map (·.data.toList)=O7 s:=by rw[Lib.splitB_data];rfl
theorem b7d{m:View}(hg:Glob m)(s:B)(hs:s.length<4294967281)(h:List Res):CT prog 102 [str s,str [47]] h m
 (λv _ h'=>∃b,v=.slice (some ⟨b,0,none⟩) (O7 s).length (O7 s).length/\h'=.pt b (.cells (fl encB (O7 s)).toArray 9 (0,0))::h):=by
 obtain⟨x,hx⟩:=hg.max;refine⟨call102,λw st=>Calls.mono (Tryz.strings_Split ⟨s.toArray⟩ ⟨#[47]⟩ x w hs (st.cell hx) (by decide)) ?_⟩;rintro e w' ⟨rfl,rfl⟩;have h1:=b8Z s;have h2:Lib.countB ⟨s.toArray⟩ ⟨#[47]⟩+1=(O7 s).length:=by rw[<-h1,List.length_map,Lib.splitB_all ⟨#[47]⟩ (by decide) 0 _ ⟨s.toArray⟩ rfl]
 have h3:(Lib.splitB ⟨#[47]⟩ 0 (Lib.countB ⟨s.toArray⟩ ⟨#[47]⟩) ⟨s.toArray⟩).map Value.string=fl encB (O7 s):=by
  rw[<-h1];generalize Lib.splitB ⟨#[47]⟩ 0 (Lib.countB ⟨s.toArray⟩ ⟨#[47]⟩) ⟨s.toArray⟩=l;induction l with
  |nil=>rfl
  |cons y l ih=>rw[List.map_cons,List.map_cons,ih];rfl
 rw[h2,h3];exact⟨_,m,_,rfl,Vl,st.alloc _,w.heap.size,rfl,rfl⟩
theorem b9s(s:B)(h:List Res)(m:View):CT prog 103 [str s,str [46]] h m (A7 h (str (Lib.trimLeftB s 46))):=
 CT.ofCalls call103 λw _=>Tryz.strings_TrimLeft_one ⟨s.toArray⟩ 46 (by decide) w
theorem b3L{m:View}(hg:Glob m)(s:B)(hs:s.length<4294967281)(hl:(O7 s).length<=1000)(hp:∀x∈O7 s,x.length<=100000)(h:List Res) :
 CT prog 48 [str s] h m (λv _ h'=>b3K P4 52 3 h (a0T s) v h'):=by
 refine cB [0,2,3,4,5,6,8,9,10,11] func48 λ_=>?_;refine Z1 ?_;refine WL.addNil 52 3 ?_;refine ZZ [1,1] ?_;refine xg (E2 Et Ek) (b7d hg s hs _) ?_;rintro _ _ ⟨b8,rfl,rfl⟩;refine Z2 ?_;refine B1 [8,9] rfl (λμ F' h'=>∃a3:Option Addr,∃c3:Nat,∃j:Nat,∃r:List Rw,((j<=(O7 s).length/\r.length=j)/\r=a6I 0 ((O7 s).take j))/\(O7 s).length-j=μ/\F'=[(3,.slice a3 r.length c3),(10,.int .i64 j)]/\.pt b8 (.cells (fl encB (O7 s)).toArray 9 (0,0))::.row (.slice a3 r.length c3) 52 3 r.length (fl P4 r)::h=h') ((O7 s).length-0) [(3,.slice none ([]).length 0),(10,.int .i64 0)] (h0:=.pt b8 (.cells (fl encB (O7 s)).toArray 9 (0,0))::.row (.slice none ([]).length 0) 52 3 ([]).length (fl P4 ([]))::h) ?_ Sb ⟨none,0,0,[],⟨⟨by omega,rfl⟩,rfl⟩,rfl,rfl,rfl⟩ ?_;exact Su;rintro _ _ _ ⟨a3,c3,j,r,⟨⟨hj,hr⟩,hJ⟩,rfl,rfl,rfl⟩;refine B2 rfl ?_;refine Z1 ?_;refine wD ?_ ?_<;>intro c11
 obtain⟨x,hx⟩:=A5 (l:=O7 s) (k:=j) (by omega);have hxl:=hp x (List.mem_of_getElem? hx);have htl:(Lib.trimLeftB x 46).length<=x.length:=(List.dropWhile_sublist _).length_le;have htk:a6I 0 ((O7 s).take (j+1))=a6I 0 ((O7 s).take j)++[a7a j x]:=by rw[b0p hx,Nat.zero_add]
 have hln:(r++[a7a j x]).length=r.length+1:=List.length_append;have hrd:Rd m (.pt b8 (.cells (fl encB (O7 s)).toArray 9 (0,0))::.row (.slice a3 r.length c3) 52 3 r.length (fl P4 r)::h) (some ⟨b8,0,none⟩) (O7 s).length (O7 s).length 1 (fl encB (O7 s)):=Rd.ofPt (by rw[a8f encB_len]) (by omega) Me;refine ZZ [0,5,1] ?_;refine xf (E2 Et Ek) (b9s x _ _) ?_;refine ZZ [1,4] ?_;refine xG (I8 uu9 Et) ?_;refine kA1 ?_;refine xG (I8 uu9 Et) ?_;refine xG (Q4 Et Et (by omega)) ?_;refine kA2 ?_;refine xY a0J Eb λb27=>?_;refine xD a0J (Ev.tmp rfl) (Ev.tmp rfl) (show r.length+1=(r++[a7a j x]).length by simp) (D4 (enc:=P4) _ (a7a j x)) λa28 c28=>?_
 refine ZZ [1,2] ?_;refine WL.nil (A6 ((O7 s).length-(j+1)) [(3,.slice a28 (r++[a7a j x]).length c28),(10,.int .i64 (j+1))] (h'':=.pt b8 (.cells (fl encB (O7 s)).toArray 9 (0,0))::.row (.slice a28 (r++[a7a j x]).length c28) 52 3 (r++[a7a j x]).length (fl P4 (r++[a7a j x]))::h) (by omega) ?_ Su Sb ⟨a28,c28,j+1,r++[a7a j x],⟨⟨by omega,by omega⟩,by rw[htk,hJ]⟩,rfl,rfl,rfl⟩);exact Su;rw[List.take_of_length_le (by omega)]at hJ;subst hJ;refine ZZ [0,2,0] ?_;refine wT (.row (.slice a3 (a0T s).length c3) 52 3 (a0T s).length (fl P4 (a0T s))::h) ?_;exact⟨_,_,_,rfl,rfl,rfl⟩
theorem b1G(s1 s2:Option Addr)(n1 c1 n2 c2:Nat)(xs ys:List _)(h:List Res)(m:View)(h1:Rd m h s1 n1 c1 3 (fl P4 xs))(h2:Rd m h s2 n2 c2 3 (fl P4 ys)) :
 CT prog 7 [.slice s1 n1 c1,.slice s2 n2 c2] h m (A7 h (.bool (eqL eqR xs ys))):=by
 have l1:=h1.lenF F9 (by decide);have l2:=h2.lenF F9 (by decide);have m1:=h1.mx;have m2:=h2.mx;have k1:=h1.le;have k2:=h2.le;refine cB [0,1,4,5,10,12,13,14,24] func7 λ_=>?_;refine ZZ [1,5,0] ?_;refine wN ?_ ?_<;>intro c10
 refine Z1 ?_;refine wT h ?_;exact⟨by rw[U4 _ _ _ (by omega)],rfl⟩;refine ZZ [0,3,0] ?_;refine B1 [0,1,12] rfl (λμ F' h'=>∃k:Nat,(k<=n1/\eqL eqR xs ys=eqL eqR (xs.drop k) (ys.drop k))/\n1-k=μ/\F'=[(13,.int .i64 k)]/\h=h') (n1-0) [(13,.int .i64 0)] (h0:=h) ?_ Sb ⟨0,⟨by omega,by simp⟩,rfl,rfl,rfl⟩ ?_;exact Su;rintro _ _ _ ⟨k,⟨hk,hJ⟩,rfl,rfl,rfl⟩;refine B2 rfl ?_;refine Z1 ?_;refine wD ?_ ?_<;>intro c14
 obtain⟨x,hx⟩:=A5 (l:=xs) (k:=k) (by omega);obtain⟨y,hy⟩:=A5 (l:=ys) (k:=k) (by omega);rw[R9 _ hx hy]at hJ;refine ZZ [0,2,0] ?_;refine dS [] (.op 0 (.op 1 (.op 2 (.op 3 (.op 4 (.op 5 (.op 6 (.op 7 .nil)))))))) [8] C4 ?_;refine kA8 ?_;refine SR.nil rfl rfl ?_;refine xG (b3c b2K (by kernel_rfl) (by kernel_rfl) Et Et rfl) ?_;refine Z0 ?_;refine wc ?_ ?_<;>intro c24
 refine Z1 ?_;refine wT h ?_;exact⟨by rw[hJ,b3u c24];rfl,rfl⟩;rw[b2O c24,Bool.true_and]at hJ;refine ZZ [0,2] ?_;refine WL.nil (A6 (n1-(k+1)) [(13,.int .i64 (k+1))] (h'':=h) (by omega) ?_ Su Sb ⟨k+1,⟨by omega,hJ⟩,rfl,rfl,rfl⟩);exact Su;refine ZZ [0,1,0] ?_;refine wT h ?_;exact⟨by rw[hJ,List.drop_eq_nil_of_le (by omega),List.drop_eq_nil_of_le (by omega)];rfl,rfl⟩
end
section
open Go.Eng Go.Pc Go.Sx Go
open Go.Xp hiding B C9
open Go.Ty (Ty Vr Tok eqT tyV I7 A3 B8 O4 zeroK M8 D3 encV D2 VOk PrOk)
open Go.Lx (encB encB_len textO)
open Go.Ly (Rw P4 F9 eqR b2O b3u b3t)
structure TxtOk(s:B):Prop where
 n:s.length<4294967281
 l:(O7 s).length<=1000
 p:∀x∈O7 s,x.length<=100000
 t:∀x∈a0T s,x.text.length<=140737488355328
def a6F(s:B):Bool:=decide (s.length<1000)&&decide ((O7 s).length<=1000)&&(O7 s).all (λx=>decide (x.length<=1000))&&(a0T s).all (λx=>decide (x.text.length<=1000))
theorem a1C{s:B}(h:a6F s=true):TxtOk s:=by unfold a6F at h;simp only[Bool.and_eq_true,decide_eq_true_eq,List.all_eq_true]at h;obtain⟨⟨⟨h1,h2⟩,h3⟩,h4⟩:=h;exact⟨by omega,h2,λx hx=>by have:=h3 x hx;omega,λx hx=>by have:=h4 x hx;omega⟩
theorem a3Q{m:View}(hg:Glob m)(hp:Pow m)(s:B)(k:Int)(hT:TxtOk s)(hM:a4s s k=true)(h:List Res) :
 CT prog 20 [str s,.int .u8 k] h m (A7 h (.bool true)):=by
 unfold a4s at hM;simp only[Bool.and_eq_true,beq_iff_eq]at hM;obtain⟨⟨⟨⟨hM1,hM2⟩,hM3⟩,hM4⟩,hM5⟩:=hM;refine cB [0,1,4,5,6,7,8,9] func20 λ_=>?_;refine ZZ [1,1] ?_;refine xJ (E1 Et) (b3L hg s hT.n hT.l hT.p _) λa12 c12=>?_
 refine xg (E1 Et) (b1W hg _ _ (a0T s) _ hT.t) ?_;rintro _ _ ⟨x,hh,rfl,hst,hok,rfl⟩;rw[hM2,hM3];have hxk:x.k=k:=by rw[<-(a9D x).1,hst];exact hM1
 have hpx:V8 x=V8 (T7 (a0T s)).1:=by rw[<-hst,c1L]
 refine kA4 ?_;refine xW λb5=>?_;refine ZZ [3,1] ?_;refine xg (E1 Et) (b5i hg hp x _ (hok.mono Sb)) ?_;rintro _ _ ⟨a19,c19,bl2,rfl,hrd,rfl,-⟩;rw[hpx,hM4];rw[hpx]at hrd;refine WL.perm List.perm_middle ?_;refine ZZ [5,4] ?_;refine wV (b':=true) (by simpa using hxk) ?_;refine kA1 ?_;refine zU ?_;refine kA1 ?_;refine zU ?_;refine kA3 ?_;refine zU ?_;refine kA1 ?_;refine zU ?_;refine kA3 ?_;refine zU ?_;refine kA1 ?_;refine zU ?_;refine kA3 ?_;refine zU ?_;refine kA1 ?_;refine zU ?_;refine kA1 ?_;refine zU ?_;refine xJ (E1 Et) (b3L hg s hT.n hT.l hT.p _) λa41 c41=>?_
 refine kR a41 λp41 q41 r41=>?_;refine zU ?_;refine xf (E2 Et Et) ((b1G _ _ _ _ _ _ (V8 (T7 (a0T s)).1).1 (a0T s) _ _ (hrd.mono Vl (((List.sublist_append_left _ _).cons _).cons _)) (iR r41 p41 q41)).val (congrArg Value.bool hM5)) ?_;refine Z2 ?_;refine wT h ?_;exact⟨rfl,rfl⟩
end
section
open Go.Eng Go.Pc Go
open Go.Xp hiding B C9
open Go.Ty (Ty Vr eqT tyV I7 PrOk VOk encV D2 M8 D3 eqI a2J a3c)
open Go.Lx (encB encB_len)
theorem c7q{P:Program}{n:Cx}{F:Fm}{h:List Res}{m:View}{ty:TypeId}{pos:String}{after:Array Edge}{dst:Option Tmp}{g:Option (Nat×Bool)}{x y:Operand}{i j:Int}{t t':TypeId}(ex:Ev n F x (.int .i64 i))(ey:Ev n F y (.int .i64 j))(_:(0:Int)<=1) :
 PO P ⟨dst,.binOp .add t x y t',ty,pos,after,g⟩ n F h m (.int .i64 (IntKind.i64.wrap (i+j))):=P0 ex ey (by simp[iop])
abbrev W64(v:Int):Int:=IntKind.i64.wrap v
theorem c9T(a b:Int):W64 (W64 a+W64 b)=W64 (a+b):=by unfold W64;rw[IntKind.wrap_i64,IntKind.wrap_i64,IntKind.wrap_i64,IntKind.wrap_i64];omega
theorem a4p{x:Pr}:∀{l:List Pr}{j:Nat},l[j]?=some x->N6 (l.take (j+1))=N6 (l.take j)+P9 x
 | [],_,h=>by cases h
 |y::l,0,h=>by
  cases h;show P9 _+N6 (l.take 0)=N6 []+_;rw[List.take_zero];unfold N6;omega
 |y::l,j+1,h=>by
  have ih:=a4p (l:=l) (j:=j) (by simpa using h);show P9 y+N6 (l.take (j+1))=(P9 y+N6 (l.take j))+_;omega
theorem a9Y{g:Gu}:∀{l:List Gu}{j:Nat},l[j]?=some g->a1l (l.take (j+1))=a1l (l.take j)+N6 g.bl
 | [],_,h=>by cases h
 |y::l,0,h=>by
  cases h;show b3n _+a1l (l.take 0)=a1l []+_;rw[List.take_zero,a8W];unfold a1l;omega
 |y::l,j+1,h=>by
  have ih:=a9Y (l:=l) (j:=j) (by simpa using h);show b3n y+a1l (l.take (j+1))=(b3n y+a1l (l.take j))+_;omega
theorem b6T{v:Int}{a b:Nat}{c:Int}{x:Pr}(hv:v=W64 (c+(a:Int)))(hb:b=a+P9 x):W64 (v+W64 (P9 x))=W64 (c+(b:Int)):=by
 subst hv hb;rw[c9T];congr 1
 omega
theorem c5H(p:Pr):∀(h:List Res)(m:View),POk m h p->CT prog 22 [prV p] h m (A7 h (.int .i64 (W64 (P9 p)))):=by
 refine Pr.ind (q:=λp=>∀(h:List Res)(m:View),POk m h p->CT prog 22 [prV p] h m (A7 h (.int .i64 (W64 (P9 p))))) (λp ih h m hP=>?_) p;have hO:=hP.own;have hrl:=hO.l;have hrg:=hO.g;have hrb:=hO.sp.b;have hlx:=Nat.le_trans hrl.le hrl.mx;have hgx:=Nat.le_trans hrg.le hrg.mx;have hbx:=Nat.le_trans hrb.le hrb.mx;have hce:=a6Y p;rw[a6J]at hce;refine cB [1,2,3,5,7,9,11,13,14,15,16,26,27,28,29,38,39,40,41,45,46,47,48] func22 λ_=>?_
 refine xX λb1=>?_;refine ZZ [1,1,4,0] ?_;refine B1 [1,13,14] rfl (λμ F' h'=>∃v:Int,∃j:Nat,(j<=p.ll.length/\v=W64 (1+(N6 (p.ll.take j):Nat)))/\p.ll.length-j=μ/\F'=[(3,.int .i64 v),(15,.int .i64 j)]/\.pt b1 (.cells (prE p).toArray 45 (0,0))::h=h') (p.ll.length-0) [(3,.int .i64 1),(15,.int .i64 0)] (h0:=.pt b1 (.cells (prE p).toArray 45 (0,0))::h) ?_ Sb ⟨1,0,⟨Nat.zero_le _,rfl⟩,rfl,rfl,rfl⟩ ?_;exact Su;rintro _ _ _ ⟨v,j,⟨hj,hv⟩,rfl,rfl,rfl⟩;refine B2 rfl ?_;refine Z1 ?_;refine wD ?_ ?_<;>intro c16
 obtain⟨x,hx⟩:=A5 (l:=p.ll) (k:=j) (by omega);have hin:In x p:=.l (List.mem_of_getElem? hx);refine ZZ [0,2] ?_;refine xW λb5=>?_;refine ZZ [1,2] ?_;refine xf (E1 Et) (ih x hin _ m ((hP.sub hin).mono Sb)) ?_;refine xG (c7q Et Et (by omega)) ?_;refine ZZ [1,2] ?_;refine WL.nil (A6 (p.ll.length-(j+1)) [(3,.int .i64 (W64 (v+W64 (P9 x)))),(15,.int .i64 (j+1))] (h'':=.pt b1 (.cells (prE p).toArray 45 (0,0))::h) (by omega) ?_ Su Sb ⟨W64 (v+W64 (P9 x)),j+1,⟨by omega,b6T hv (a4p (l:=p.ll) hx)⟩,rfl,rfl,rfl⟩);exact Su;rw[List.take_of_length_le (by omega)]at hv;refine ZZ [0,5,0] ?_;refine B1 [1,26,27] rfl (λμ F' h'=>∃v:Int,∃j:Nat,(j<=p.sp.bl.length/\v=W64 ((1+(N6 p.ll:Int))+(N6 (p.sp.bl.take j):Nat)))/\p.sp.bl.length-j=μ/\F'=[(3,.int .i64 v),(28,.int .i64 j)]/\.pt b1 (.cells (prE p).toArray 45 (0,0))::h=h') (p.sp.bl.length-0) [(3,.int .i64 v),(28,.int .i64 0)] (h0:=.pt b1 (.cells (prE p).toArray 45 (0,0))::h) ?_ Sb ⟨v,0,⟨Nat.zero_le _,by rw[hv,List.take_zero];congr 1⟩,rfl,rfl,rfl⟩ ?_;exact Su
 rintro _ _ _ ⟨v,j,⟨hj,hv⟩,rfl,rfl,rfl⟩;refine B2 rfl ?_;refine Z1 ?_;refine wD ?_ ?_<;>intro c29
 obtain⟨x,hx⟩:=A5 (l:=p.sp.bl) (k:=j) (by omega);have hin:In x p:=.s (List.mem_of_getElem? hx);refine ZZ [0,2] ?_;refine xW λb7=>?_;refine ZZ [1,2] ?_;refine xf (E1 Et) (ih x hin _ m ((hP.sub hin).mono Sb)) ?_;refine xG (c7q Et Et (by omega)) ?_;refine ZZ [1,2] ?_;refine WL.nil (A6 (p.sp.bl.length-(j+1)) [(3,.int .i64 (W64 (v+W64 (P9 x)))),(28,.int .i64 (j+1))] (h'':=.pt b1 (.cells (prE p).toArray 45 (0,0))::h) (by omega) ?_ Su Sb ⟨W64 (v+W64 (P9 x)),j+1,⟨by omega,b6T hv (a4p (l:=p.sp.bl) hx)⟩,rfl,rfl,rfl⟩);exact Su;rw[List.take_of_length_le (by omega)]at hv;refine ZZ [0,4,0] ?_;refine B1 [38,39] rfl (λμ F' h'=>∃v:Int,∃j:Nat,(j<=p.gl.length/\v=W64 (((1+(N6 p.ll:Int))+(N6 p.sp.bl:Nat))+(a1l (p.gl.take j):Nat)))/\p.gl.length-j=μ/\F'=[(3,.int .i64 v),(40,.int .i64 j)]/\.pt b1 (.cells (prE p).toArray 45 (0,0))::h=h') (p.gl.length-0) [(3,.int .i64 v),(40,.int .i64 0)] (h0:=.pt b1 (.cells (prE p).toArray 45 (0,0))::h) ?_ Sb ⟨v,0,⟨Nat.zero_le _,by rw[hv,List.take_zero];congr 1⟩,rfl,rfl,rfl⟩ ?_;exact Su
 rintro _ _ _ ⟨v,j,⟨hj,hv⟩,rfl,rfl,rfl⟩;refine B2 rfl ?_;refine Z1 ?_;refine wD ?_ ?_<;>intro c41
 obtain⟨g,hg1⟩:=A5 (l:=p.gl) (k:=j) (by omega);have hgm:=List.mem_of_getElem? hg1;have hgb:=(hO.gs g hgm).b;have hgbx:=Nat.le_trans hgb.le hgb.mx;refine ZZ [0,2] ?_;refine xW λb9=>?_;refine ZZ [1,4,0] ?_;refine B1 [38,39,40,45,46] rfl (λμ F' h'=>∃w:Int,∃i:Nat,(i<=g.bl.length/\w=W64 ((((1+(N6 p.ll:Int))+(N6 p.sp.bl:Nat))+(a1l (p.gl.take j):Nat))+(N6 (g.bl.take i):Nat)))/\g.bl.length-i=μ/\F'=[(3,.int .i64 w),(47,.int .i64 i)]/\.pt b1 (.cells (prE p).toArray 45 (0,0))::h=h') (g.bl.length-0) [(3,.int .i64 v),(47,.int .i64 0)] (h0:=.pt b1 (.cells (prE p).toArray 45 (0,0))::h) ?_ Sb ⟨v,0,⟨Nat.zero_le _,by rw[hv,List.take_zero];congr 1⟩,rfl,rfl,rfl⟩ ?_;exact Su;rintro _ _ _ ⟨w,i,⟨hi,hw⟩,rfl,rfl,rfl⟩;refine B2 rfl ?_;refine Z1 ?_;refine wD ?_ ?_<;>intro c48
 obtain⟨x,hx⟩:=A5 (l:=g.bl) (k:=i) (by omega);have hin:In x p:=.g hgm (List.mem_of_getElem? hx);refine ZZ [0,2] ?_;refine xW λb11=>?_;refine ZZ [1,2] ?_;refine xf (E1 Et) (ih x hin _ m ((hP.sub hin).mono Sb)) ?_;refine xG (c7q Et Et (by omega)) ?_;refine ZZ [1,2] ?_;refine WL.nil (A6 (g.bl.length-(i+1)) [(3,.int .i64 (W64 (w+W64 (P9 x)))),(47,.int .i64 (i+1))] (h'':=.pt b1 (.cells (prE p).toArray 45 (0,0))::h) (by omega) ?_ Su Sb ⟨W64 (w+W64 (P9 x)),i+1,⟨by omega,b6T hw (a4p (l:=g.bl) hx)⟩,rfl,rfl,rfl⟩);exact Su;rw[List.take_of_length_le (l:=g.bl) (by omega)]at hw;refine ZZ [0,2] ?_;refine WL.nil (A6 (p.gl.length-(j+1)) [(3,.int .i64 w),(40,.int .i64 (j+1))] (h'':=.pt b1 (.cells (prE p).toArray 45 (0,0))::h) (by omega) ?_ Su Sb ⟨w,j+1,⟨by omega,by rw[hw,a9Y hg1];congr 1;omega⟩,rfl,rfl,rfl⟩);exact Su;rw[List.take_of_length_le (by omega)]at hv;refine ZZ [0,2,0] ?_;refine wT h ?_;exact⟨by rw[hv,hce];congr 2;omega,rfl⟩
end
section
open Go.Eng Go.Pc Go
open Go.Xp hiding B C9
open Go.Ty (Ty Vr eqT tyV I7 PrOk VOk encV D2 M8 D3 eqI a2J a3c)
open Go.Lx (encB encB_len)
theorem a2m(m:View)(h:List Res):EOk m h A2:=⟨.mk (Rd.nilF exE 6 m h) (λ_ hx=>(List.not_mem_nil hx).elim),.mk (by decide) (by decide) (by decide) (by decide) (by decide) λ_ hx=>(List.not_mem_nil hx).elim⟩
theorem a8i(m:View)(h:List Res):LOk m h B0:=⟨Rd.nilF exE 6 m h,λ_ hx=>(List.not_mem_nil hx).elim⟩
theorem a8B{m:View}{h:List Res}{nm:B}{c ch tm:Ex}{tg vl:Sli Ex}(hn:nm.length<=Big)(hc:EOk m h c)(hch:EOk m h ch)(ht:LOk m h tg)(hv:LOk m h vl)(htm:EOk m h tm):GK m h (.mk 0 nm c ch tg vl tm none 0 []):=
 ⟨⟨by show 0<=(0:Int)/\(0:Int)<=255;decide,hn,hc,hch,ht,hv,htm,Rd.nilF prE 42 m h⟩,λ_ hx=>(List.not_mem_nil hx).elim⟩
theorem d02(m:View)(h:List Res):GK m h a6o:=a8B (by decide) (a2m m h) (a2m m h) (a8i m h) (a8i m h) (a2m m h)
theorem c8e{u w:Int}{x:Gu}(h:((decide (x.k<u)||decide (x.k>w))||!(guP x))=true):(!gQ u w x)=true:=by
 show(!((decide (x.k>=u)&&decide (x.k<=w))&&guP x))=true;cases hg:guP x with
 |false=>simp
 |true=>rw[hg]at h;simp only[Bool.not_true,Bool.or_false,Bool.or_eq_true,decide_eq_true_eq]at h;simp only[Bool.and_true,Bool.not_eq_true',Bool.and_eq_false_iff,decide_eq_false_iff_not];omega
theorem c4m{u w:Int}{x:Gu}(h:((decide (x.k<u)||decide (x.k>w))||!(guP x))=false):(!gQ u w x)=false:=by
 show(!((decide (x.k>=u)&&decide (x.k<=w))&&guP x))=false;simp only[Bool.or_eq_false_iff,decide_eq_false_iff_not,Bool.not_eq_false']at h;obtain⟨⟨h1,h2⟩,h3⟩:=h;have a1:x.k>=u:=by omega
 have a2:x.k<=w:=by omega
 simp[a1,a2,h3]
theorem c1h{α:Type}{l:List α}{i:Nat}{x:α}(h:l[i]?=some x)(q:α->Bool):(l.drop i).all q=(q x&&(l.drop (i+1)).all q):=by obtain⟨hi,rfl⟩:=List.getElem?_eq_some_iff.1 h;rw[List.drop_eq_getElem_cons hi,List.all_cons]
theorem b91(g:Gu)(h:List Res)(m:View)(hG:GK m h g):CT prog 257 [guV g] h m (A7 h (.bool (guP g))):=by
 have hO:=hG.o;have v0:=View.le.refl m;have hn2:g.name.length<=9223372036854775807:=Nat.le_trans hO.n (by decide);refine cB [1,2,3,4,5,18,27,45,64,70,72] func257 λ_=>?_;refine xX λb1=>?_
 refine ZZ [1,1] ?_;refine xW λb3=>?_;refine ZZ [1,2,2,1,2] ?_;refine xf (E1 Et) (a9g g.cond (hO.cond.t.mono Sb)) ?_;refine kA3 ?_;refine A4 (GU.f rfl rfl) (λhc=>⟨Ef,(E1 (Eg hc)),mayR_ct g.cond _ (hO.cond.t.mono Sb) hO.cond.w⟩) Lb ?_;refine Z2 ?_;refine kP2 [1,3,4,5,18] ?_;refine F4 KKh [1,3] rfl (λF' h'=>∃fb:Bool,∃xg:Gu,((GK m h xg/\xg.bl=[])/\guP g=((fb&&((g.bl.length:Int)==1))&&S5 xg a6o))/\F'=[(4,.bool fb)]/\.pt b3 (.cells (guE xg).toArray 100 (0,0))::.pt b1 (.cells (guE g).toArray 100 (0,0))::h=h') ?_ ?_;refine kP2 [1,3,4,5,18,19] ?_;refine F4 KKh [1,3,4,5,18] rfl (λF' h'=>∃b9:Bool,((b9=true↔(g.k=1\/g.k=2)))/\F'=[(19,.bool b9)]/\.pt b3 (.cells (guE (.mk 0 g.name g.cond g.ch g.tg g.vl g.time none 0 [])).toArray 100 (0,0))::.pt b1 (.cells (guE g).toArray 100 (0,0))::h=h') ?_ ?_;refine jE ?_;refine wE ?_ ?_<;>intro c19
 refine WC.skip (B4 [(19,.bool ((g.k==1)))] (h'':=.pt b3 (.cells (guE (.mk 0 g.name g.cond g.ch g.tg g.vl g.time none 0 [])).toArray 100 (0,0))::.pt b1 (.cells (guE g).toArray 100 (0,0))::h) ?_ Su Sb ⟨(g.k==1),⟨λ_=>.inl c19,λ_=>by simpa using c19⟩,rfl,rfl⟩);exact Su;refine kA2 ?_;refine WL.nil (B4 [(19,.bool ((g.k==2)))] (h'':=.pt b3 (.cells (guE (.mk 0 g.name g.cond g.ch g.tg g.vl g.time none 0 [])).toArray 100 (0,0))::.pt b1 (.cells (guE g).toArray 100 (0,0))::h) ?_ Su Sb ⟨(g.k==2),⟨λhk=>.inr (by simpa using hk),λhk=>hk.elim (λh1=>absurd h1 c19) (λh1=>by simpa using h1)⟩,rfl,rfl⟩);exact Su;rintro _ _ ⟨b9,hb9,rfl,rfl⟩;refine B2 rfl ?_;refine jE ?_;refine wc ?_ ?_<;>intro c19
 have hk:=hb9.1 c19;refine kA2 ?_;refine xf (E1 Et) (mayR_ct g.cond _ (hO.cond.t.mono Sb) hO.cond.w) ?_;refine ZZ [1,3] ?_;refine WL.nil (B4 [(4,.bool (F8 g.cond))] (h'':=.pt b3 (.cells (guE (Gu.mk 0 g.name A2 g.ch g.tg g.vl g.time none 0 [])).toArray 100 (0,0))::.pt b1 (.cells (guE g).toArray 100 (0,0))::h) ?_ Su Sb ⟨F8 g.cond,Gu.mk 0 g.name A2 g.ch g.tg g.vl g.time none 0 [],⟨⟨a8B hO.n (a2m m h) hO.ch hO.tg hO.vl hO.time,rfl⟩,c9S hk⟩,rfl,rfl⟩);exact Su;have hk12:¬(g.k=1\/g.k=2):=λq=>by rw[hb9.2 q]at c19;cases c19
 refine Z2 ?_;refine wE ?_ ?_<;>intro c27
 refine kA4 ?_;refine A4 (GU.t rfl rfl) (λhc=>⟨Ef,(E1 (Eg hc)),a1W g.ch ⟨hO.ch.t.mono Sb,hO.ch.w⟩⟩) Lb ?_;refine kA4 ?_;refine A4 (GU.t rfl rfl) (λhc=>⟨Ef,(E3 (Eg hc) Ek Ek),a6O _ _ _ g.tg.l 1 8 _ _ (hO.tg.rd.mono v0 Sb) (λx hx=>⟨(hO.tg.ok x hx).t.mono Sb,(hO.tg.ok x hx).w⟩)⟩) Lb ?_;refine ZZ [2,3,3,2] ?_;refine WL.nil (B4 [(4,.bool ((((H4 g.cond||F8 g.cond)&&F5 g.ch)&&E7 g.tg.l 1 8 F5)))] (h'':=.pt b3 (.cells (guE (Gu.mk 0 g.name A2 A2 B0 g.vl g.time none 0 [])).toArray 100 (0,0))::.pt b1 (.cells (guE g).toArray 100 (0,0))::h) ?_ Su Sb ⟨(((H4 g.cond||F8 g.cond)&&F5 g.ch)&&E7 g.tg.l 1 8 F5),Gu.mk 0 g.name A2 A2 B0 g.vl g.time none 0 [],⟨⟨a8B hO.n (a2m m h) (a2m m h) (a8i m h) hO.vl hO.time,rfl⟩,d0i c27⟩,rfl,rfl⟩);exact Su;refine Z2 ?_;refine wE ?_ ?_<;>intro c45
 refine kA4 ?_;refine A4 (GU.t rfl rfl) (λhc=>⟨Ef,(E1 (Eg hc)),a1W g.ch ⟨hO.ch.t.mono Sb,hO.ch.w⟩⟩) Lb ?_;refine kA4 ?_;refine A4 (GU.t rfl rfl) (λhc=>⟨Ef,(E1 (Eg hc)),mayR_ct g.time _ (hO.time.t.mono Sb) hO.time.w⟩) Lb ?_;refine ZZ [2,3,3,3] ?_;refine WL.nil (B4 [(4,.bool ((((H4 g.cond||F8 g.cond)&&F5 g.ch)&&F8 g.time)))] (h'':=.pt b3 (.cells (guE (Gu.mk 0 g.name A2 A2 g.tg g.vl A2 none 0 [])).toArray 100 (0,0))::.pt b1 (.cells (guE g).toArray 100 (0,0))::h) ?_ Su Sb ⟨(((H4 g.cond||F8 g.cond)&&F5 g.ch)&&F8 g.time),Gu.mk 0 g.name A2 A2 g.tg g.vl A2 none 0 [],⟨⟨a8B hO.n (a2m m h) (a2m m h) hO.tg hO.vl (a2m m h),rfl⟩,d0d c45⟩,rfl,rfl⟩);exact Su;refine Z2 ?_;refine wE ?_ ?_<;>intro c64
 refine kA2 ?_;refine xf (E3 Et Ek Ek) (a4A _ _ _ g.vl.l 1 8 _ _ (hO.vl.rd.mono v0 Sb) (λx hx=>⟨(hO.vl.ok x hx).t.mono Sb,(hO.vl.ok x hx).w⟩)) ?_;refine ZZ [1,2] ?_;refine WL.nil (B4 [(4,.bool (E7 g.vl.l 1 8 F8))] (h'':=.pt b3 (.cells (guE (Gu.mk 0 g.name g.cond g.ch g.tg B0 g.time none 0 [])).toArray 100 (0,0))::.pt b1 (.cells (guE g).toArray 100 (0,0))::h) ?_ Su Sb ⟨E7 g.vl.l 1 8 F8,Gu.mk 0 g.name g.cond g.ch g.tg B0 g.time none 0 [],⟨⟨a8B hO.n hO.cond hO.ch hO.tg (a8i m h) hO.time,rfl⟩,d0t c64⟩,rfl,rfl⟩);exact Su;refine Z2 ?_;refine wE ?_ ?_<;>intro c70
 refine kA1 ?_;refine WL.nil (B4 [(4,.bool true)] (h'':=.pt b3 (.cells (guE (Gu.mk 0 g.name g.cond g.ch g.tg g.vl g.time none 0 [])).toArray 100 (0,0))::.pt b1 (.cells (guE g).toArray 100 (0,0))::h) ?_ Su Sb ⟨true,Gu.mk 0 g.name g.cond g.ch g.tg g.vl g.time none 0 [],⟨⟨a8B hO.n hO.cond hO.ch hO.tg hO.vl hO.time,rfl⟩,d0f c70⟩,rfl,rfl⟩);exact Su;refine Z2 ?_;refine wE ?_ ?_<;>intro c72
 refine kA2 ?_;refine xf (E1 Et) (CT.val (a06 g.name _ _ hn2) (congrArg Value.bool (Go.Lx.name_eq g.name).symm)) ?_;refine kA3 ?_;refine A4 (GU.t rfl rfl) (λhc=>⟨Ef,(E3 (Eg hc) Ek Ek),a6O _ _ _ g.tg.l 0 8 _ _ (hO.tg.rd.mono v0 Sb) (λx hx=>⟨(hO.tg.ok x hx).t.mono Sb,(hO.tg.ok x hx).w⟩)⟩) Lb ?_;refine ZZ [2,2,2] ?_;refine WL.nil (B4 [(4,.bool ((Go.Lx.name g.name&&E7 g.tg.l 0 8 F5)))] (h'':=.pt b3 (.cells (guE (Gu.mk 0 [] g.cond g.ch B0 g.vl g.time none 0 [])).toArray 100 (0,0))::.pt b1 (.cells (guE g).toArray 100 (0,0))::h) ?_ Su Sb ⟨(Go.Lx.name g.name&&E7 g.tg.l 0 8 F5),Gu.mk 0 [] g.cond g.ch B0 g.vl g.time none 0 [],⟨⟨a8B (by decide) hO.cond hO.ch (a8i m h) hO.vl hO.time,rfl⟩,d03 c72⟩,rfl,rfl⟩);exact Su
 refine WC.skip (B4 [(4,.bool false)] (h'':=.pt b3 (.cells (guE (Gu.mk 0 g.name g.cond g.ch g.tg g.vl g.time none 0 [])).toArray 100 (0,0))::.pt b1 (.cells (guE g).toArray 100 (0,0))::h) ?_ Su Sb ⟨false,Gu.mk 0 g.name g.cond g.ch g.tg g.vl g.time none 0 [],⟨⟨a8B hO.n hO.cond hO.ch hO.tg hO.vl hO.time,rfl⟩,c9D hO.k.1 hk12 c27 c45 c64 c70 c72 _⟩,rfl,rfl⟩);exact Su;rintro _ _ ⟨fb,xg,hfb,rfl,rfl⟩;refine B2 rfl ?_;refine kA8 ?_;refine zG (λ_=>pA a3w) ?_;refine zG (λ_=>PO.build a3w rfl rfl rfl EvP.nil rfl) ?_;refine A4 (GU.t rfl rfl) (λhc=>⟨Ef,(E2 (Eg hc) (Eg hc)),a6m xg (λz hz=>by rw[hfb.1.2]at hz;cases hz) a6o _ _ (hfb.1.1.mono Sb) ((d02 m h).mono Sb)⟩) Lb ?_;refine Z2 ?_;refine wT h ?_;exact⟨by rw[hfb.2],rfl⟩
theorem a4q(a:Option Addr)(k c:Nat)(l:List Gu)(lo hi u w:Int)(h:List Res)(m:View)(hL:Rd m h a k c 23 (fl guE l))(hok:∀x∈l,GK m h x) :
 CT prog 164 [.slice a k c,.int .i64 lo,.int .i64 hi,.int .u8 u,.int .u8 w] h m (A7 h (.bool (E7 l lo hi (gQ u w)))):=by
 have hl:=hL.lenF a1J (by decide);subst hl;have hmx:=hL.mx;have hle:=hL.le;refine cB [0,1,2,3,4,10,11,21,25,51] func164 λ_=>?_;refine ZZ [1,10,0] ?_;refine wc ?_ ?_<;>intro c21
 refine Z1 ?_;refine wT h ?_;exact⟨by rw[a6W c21],rfl⟩;have d21:=a5G (q:=gQ u w) c21;refine ZZ [0,1,0] ?_;refine B1 [0,3,4] rfl (λμ F' h'=>∃i:Nat,(i<=l.length/\E7 l lo hi (gQ u w)=!((l.drop i).any λx=>!gQ u w x))/\l.length-i=μ/\F'=[(11,.int .i64 i)]/\h=h') (l.length-0) [(11,.int .i64 0)] (h0:=h) ?_ Sb ⟨0,⟨by omega,d21⟩,rfl,rfl,rfl⟩ ?_;exact Su;rintro _ _ _ ⟨i,⟨hk,hJ⟩,rfl,rfl,rfl⟩;refine B2 rfl ?_;refine Z4 ?_;refine wD ?_ ?_<;>intro c25
 obtain⟨x,hx⟩:=A5 (l:=l) (k:=i) (by omega);rw[b3D hx]at hJ;have hxo:=hok x (List.mem_of_getElem? hx);refine ZZ [0,10] ?_;refine E8 (GU.f rfl rfl) (λhc=>D8 b2Y.und b2Y.size b2Y.posz (Eg hc) (Eg hc) Rr rfl (by omega)) Lb ?_;refine zG (λhc=>G6 a3w rfl (Nat.ne_of_beq_eq_false rfl) a1J (Nat.succ_pos _) Rr (by assumption) (Eg hc)) ?_;refine zG (λhc=>G8 b8U rfl a1J Rr (Eg hc) (by assumption) rfl) ?_;refine kA6 ?_;refine E8 (GU.f rfl rfl) (λhc=>D8 b2Y.und b2Y.size b2Y.posz (Eg hc) (Eg hc) Rr rfl (by omega)) Lb ?_;refine zG (λhc=>a0Y a3w rfl rfl a1J Rr (Eg hc) (by assumption) rfl rfl (Nat.succ_pos _)) ?_;refine A4 (GU.f rfl rfl) (λhc=>⟨Ef,(E1 (Eg hc)),b91 x _ _ (hxo.mono Sb)⟩) Lb ?_;refine Z2 ?_;refine wc ?_ ?_<;>intro c51
 have d51:(!gQ u w x)=true:=c8e c51;rw[d51]at hJ;refine Z1 ?_;refine wT h ?_;exact⟨by rw[hJ];rfl,rfl⟩;have d51:(!gQ u w x)=false:=c4m c51;rw[d51]at hJ;refine ZZ [0,3] ?_;refine WL.nil (A6 (l.length-(i+1)) [(11,.int .i64 (i+1))] (h'':=h) (by omega) ?_ Su Sb ⟨i+1,⟨by omega,by simpa using hJ⟩,rfl,rfl,rfl⟩);exact Su;rw[List.drop_eq_nil_of_le (by omega)]at hJ;refine ZZ [0,1,0] ?_;refine wT h ?_;exact⟨by rw[hJ];rfl,rfl⟩
theorem c6O(m:View)(h:List Res):PrOk m h none 0 0 []:=⟨Rd.nilF encV 2 m h,λ_ hx=>(List.not_mem_nil hx).elim,λ_ hx=>(List.not_mem_nil hx).elim⟩
theorem b8C:TyW Go.Ty.zeroT:=⟨by decide,by decide,by decide,by decide⟩
structure SpF(m:View)(h:List Res)(ty:Ty)(e:Ex)(vs:Sli Vr)(fs:Sli Fo):Prop where
 t:TyW ty
 e:EOk m h e
 v:PrOk m h vs.a vs.l.length vs.c vs.l
 vw:∀x∈vs.l,x.items.length=x.n
 f:Rd m h fs.a fs.l.length fs.c 6 (fl foE fs.l)
 fw:∀x∈fs.l,FoW x
theorem b0h{m:View}{h:List Res}{k:Int}{ty:Ty}{nm:Sli B}{e:Ex}{cs:Bool}{vs:Sli Vr}{fs:Sli Fo}{ba:Option Addr}{bc:Nat}{bl:List Pr}(hk:0<=k/\k<=255)(q:SpF m h ty e vs fs)(hn:Rd m h nm.a nm.l.length nm.c 1 (fl encB nm.l))(hw:∀x∈nm.l,x.length<=Big)
 (hb:Rd m h ba bl.length bc 42 (fl prE bl)) (hp:∀x∈bl,POk m h x):SK m h (.mk k ty nm e cs vs fs ba bc bl):=⟨⟨hk,q.t,hn,hw,q.e,q.v,q.vw,q.f,q.fw,hb⟩,hp⟩
theorem a4c{α:Type}{p:α->Prop}:∀x∈(B0:Sli α).l,p x:=λ_ hx=>(List.not_mem_nil hx).elim
theorem c8a(m:View)(h:List Res):SK m h C3:=b0h (by decide) ⟨b8C,a2m m h,c6O m h,a4c,Rd.nilF foE 6 m h,a4c⟩ (Rd.nilF encB 1 m h) a4c (Rd.nilF prE 42 m h) (λ_ hx=>(List.not_mem_nil hx).elim)
abbrev spX(b:Nat)(s:Sp):Res:=.pt b (.cells (spE s).toArray 43 (0,0))
theorem c3k(s:Sp)(h:List Res)(m:View)(hS:SK m h s):CT prog 119 [spV s] h m (A7 h (.bool (spP s))):=by
 have hO:=hS.o;have v0:=View.le.refl m;have hp2:s.ty.proto.length<=9223372036854775807:=Nat.le_trans hO.ty.p (by decide);have hzk:(0:Int)<=0/\(0:Int)<=255:=by decide
 have f1:=hO.fr;have fm:=f1.mx;have fl1:=f1.le;refine cB [1,2,3,4,5,9,10,22,41,60,72,93] func119 λ_=>?_;refine xX λb1=>?_
 refine ZZ [1,1] ?_;refine xW λb3=>?_;refine ZZ [1,2,1,0] ?_;refine kP2 [1,3,4,9] ?_;refine F4 KKh [3] rfl (λF' h'=>∃fb:Bool,∃xs:Sp,(SK m h (.mk 0 xs.ty B0 xs.e xs.cs xs.vs xs.fs xs.ba xs.bc xs.bl)/\spP s=(fb&&Y7 (.mk 0 xs.ty B0 xs.e xs.cs xs.vs xs.fs xs.ba xs.bc xs.bl) C3))/\F'=[(4,.bool fb)]/\spX b3 (.mk 0 xs.ty s.names xs.e xs.cs xs.vs xs.fs xs.ba xs.bc xs.bl)::spX b1 s::h=h') ?_ ?_;refine Z2 ?_;refine wE ?_ ?_<;>intro c10
 refine kA2 ?_;refine xf (E1 Et) (CT.val (Ty9.mayR_ct s.ty _ _ hp2) (congrArg Value.bool (Go.Ty.may_eq s.ty).symm)) ?_;refine kA3 ?_;refine A4 (GU.t rfl rfl) (λhc=>⟨Ef,(E3 (Eg hc) Ek Ek),a7r _ _ _ s.names.l 1 8 _ _ (hO.nr.mono v0 Sb) hO.nw⟩) Lb ?_;refine ZZ [2,3] ?_
 refine WL.nil (B4 [(4,.bool ((Go.Ty.may s.ty&&E7 s.names.l 1 8 Go.Lx.name)))] (h'':=spX b3 (.mk 0 (Sp.mk 0 Go.Ty.zeroT B0 s.e s.cs s.vs s.fs s.ba s.bc s.bl).ty s.names (Sp.mk 0 Go.Ty.zeroT B0 s.e s.cs s.vs s.fs s.ba s.bc s.bl).e (Sp.mk 0 Go.Ty.zeroT B0 s.e s.cs s.vs s.fs s.ba s.bc s.bl).cs (Sp.mk 0 Go.Ty.zeroT B0 s.e s.cs s.vs s.fs s.ba s.bc s.bl).vs (Sp.mk 0 Go.Ty.zeroT B0 s.e s.cs s.vs s.fs s.ba s.bc s.bl).fs (Sp.mk 0 Go.Ty.zeroT B0 s.e s.cs s.vs s.fs s.ba s.bc s.bl).ba (Sp.mk 0 Go.Ty.zeroT B0 s.e s.cs s.vs s.fs s.ba s.bc s.bl).bc (Sp.mk 0 Go.Ty.zeroT B0 s.e s.cs s.vs s.fs s.ba s.bc s.bl).bl)::spX b1 s::h) ?_ Su Sb ⟨(Go.Ty.may s.ty&&E7 s.names.l 1 8 Go.Lx.name),Sp.mk 0 Go.Ty.zeroT B0 s.e s.cs s.vs s.fs s.ba s.bc s.bl,⟨b0h hzk ⟨b8C,hO.e,hO.v,hO.vw,hO.fr,hO.fw⟩ (Rd.nilF encB 1 m h) a4c hO.b hS.b,d0m c10⟩,rfl,rfl⟩);exact Su;refine Z2 ?_;refine wE ?_ ?_<;>intro c22
 refine kA2 ?_;refine xf (E1 Et) (a7V s.ty _ _ hp2) ?_;refine kA3 ?_;refine A4 (GU.t rfl rfl) (λhc=>⟨Ef,(E3 (Eg hc) Ek Ek),a7r _ _ _ s.names.l 1 1 _ _ (hO.nr.mono v0 Sb) hO.nw⟩) Lb ?_;refine kA4 ?_;refine A4 (GU.t rfl rfl) (λhc=>⟨Ef,(E1 (Eg hc)),mayR_ct s.e _ (hO.e.t.mono Sb) hO.e.w⟩) Lb ?_;refine ZZ [2,3,3] ?_
 refine WL.nil (B4 [(4,.bool (((X3 s.ty&&E7 s.names.l 1 1 Go.Lx.name)&&F8 s.e)))] (h'':=spX b3 (.mk 0 (Sp.mk 0 Go.Ty.zeroT B0 A2 s.cs s.vs s.fs s.ba s.bc s.bl).ty s.names (Sp.mk 0 Go.Ty.zeroT B0 A2 s.cs s.vs s.fs s.ba s.bc s.bl).e (Sp.mk 0 Go.Ty.zeroT B0 A2 s.cs s.vs s.fs s.ba s.bc s.bl).cs (Sp.mk 0 Go.Ty.zeroT B0 A2 s.cs s.vs s.fs s.ba s.bc s.bl).vs (Sp.mk 0 Go.Ty.zeroT B0 A2 s.cs s.vs s.fs s.ba s.bc s.bl).fs (Sp.mk 0 Go.Ty.zeroT B0 A2 s.cs s.vs s.fs s.ba s.bc s.bl).ba (Sp.mk 0 Go.Ty.zeroT B0 A2 s.cs s.vs s.fs s.ba s.bc s.bl).bc (Sp.mk 0 Go.Ty.zeroT B0 A2 s.cs s.vs s.fs s.ba s.bc s.bl).bl)::spX b1 s::h) ?_ Su Sb ⟨((X3 s.ty&&E7 s.names.l 1 1 Go.Lx.name)&&F8 s.e),Sp.mk 0 Go.Ty.zeroT B0 A2 s.cs s.vs s.fs s.ba s.bc s.bl,⟨b0h hzk ⟨b8C,a2m m h,hO.v,hO.vw,hO.fr,hO.fw⟩ (Rd.nilF encB 1 m h) a4c hO.b hS.b,d0h c22⟩,rfl,rfl⟩);exact Su;refine Z2 ?_;refine wE ?_ ?_<;>intro c41
 refine kA2 ?_;refine xf (E1 Et) (a7V s.ty _ _ hp2) ?_;refine kA3 ?_;refine A4 (GU.t rfl rfl) (λhc=>⟨Ef,(E3 (Eg hc) Ek Ek),a7r _ _ _ s.names.l 1 1 _ _ (hO.nr.mono v0 Sb) hO.nw⟩) Lb ?_;refine kA4 ?_;refine A4 (GU.t rfl rfl) (λhc=>⟨Ef,(E1 (Eg hc)),a1W s.e ⟨hO.e.t.mono Sb,hO.e.w⟩⟩) Lb ?_;refine ZZ [2,3,3] ?_
 refine WL.nil (B4 [(4,.bool (((X3 s.ty&&E7 s.names.l 1 1 Go.Lx.name)&&F5 s.e)))] (h'':=spX b3 (.mk 0 (Sp.mk 0 Go.Ty.zeroT B0 A2 s.cs s.vs s.fs s.ba s.bc s.bl).ty s.names (Sp.mk 0 Go.Ty.zeroT B0 A2 s.cs s.vs s.fs s.ba s.bc s.bl).e (Sp.mk 0 Go.Ty.zeroT B0 A2 s.cs s.vs s.fs s.ba s.bc s.bl).cs (Sp.mk 0 Go.Ty.zeroT B0 A2 s.cs s.vs s.fs s.ba s.bc s.bl).vs (Sp.mk 0 Go.Ty.zeroT B0 A2 s.cs s.vs s.fs s.ba s.bc s.bl).fs (Sp.mk 0 Go.Ty.zeroT B0 A2 s.cs s.vs s.fs s.ba s.bc s.bl).ba (Sp.mk 0 Go.Ty.zeroT B0 A2 s.cs s.vs s.fs s.ba s.bc s.bl).bc (Sp.mk 0 Go.Ty.zeroT B0 A2 s.cs s.vs s.fs s.ba s.bc s.bl).bl)::spX b1 s::h) ?_ Su Sb ⟨((X3 s.ty&&E7 s.names.l 1 1 Go.Lx.name)&&F5 s.e),Sp.mk 0 Go.Ty.zeroT B0 A2 s.cs s.vs s.fs s.ba s.bc s.bl,⟨b0h hzk ⟨b8C,a2m m h,hO.v,hO.vw,hO.fr,hO.fw⟩ (Rd.nilF encB 1 m h) a4c hO.b hS.b,d07 c41⟩,rfl,rfl⟩);exact Su;refine Z2 ?_;refine wE ?_ ?_<;>intro c60
 refine kA2 ?_;refine xf (E3 Et Ek Ek) (a7r _ _ _ s.names.l 1 1 _ _ (hO.nr.mono v0 Sb) hO.nw) ?_;refine kA3 ?_;refine A4 (GU.t rfl rfl) (λhc=>⟨Ef,(E1 (Eg hc)),Ty9.mayProtoR_ct s.cs _ _ _ s.vs.l _ _ (hO.v.mono v0 Sb)⟩) Lb ?_;refine ZZ [2,3] ?_
 refine WL.nil (B4 [(4,.bool ((E7 s.names.l 1 1 Go.Lx.name&&Go.Ty.mayPr s.cs s.vs.l)))] (h'':=spX b3 (.mk 0 (Sp.mk 0 s.ty B0 s.e false B0 s.fs s.ba s.bc s.bl).ty s.names (Sp.mk 0 s.ty B0 s.e false B0 s.fs s.ba s.bc s.bl).e (Sp.mk 0 s.ty B0 s.e false B0 s.fs s.ba s.bc s.bl).cs (Sp.mk 0 s.ty B0 s.e false B0 s.fs s.ba s.bc s.bl).vs (Sp.mk 0 s.ty B0 s.e false B0 s.fs s.ba s.bc s.bl).fs (Sp.mk 0 s.ty B0 s.e false B0 s.fs s.ba s.bc s.bl).ba (Sp.mk 0 s.ty B0 s.e false B0 s.fs s.ba s.bc s.bl).bc (Sp.mk 0 s.ty B0 s.e false B0 s.fs s.ba s.bc s.bl).bl)::spX b1 s::h) ?_ Su Sb ⟨(E7 s.names.l 1 1 Go.Lx.name&&Go.Ty.mayPr s.cs s.vs.l),Sp.mk 0 s.ty B0 s.e false B0 s.fs s.ba s.bc s.bl,⟨b0h hzk ⟨hO.ty,hO.e,c6O m h,a4c,hO.fr,hO.fw⟩ (Rd.nilF encB 1 m h) a4c hO.b hS.b,d0u c60⟩,rfl,rfl⟩);exact Su;refine Z2 ?_;refine wE ?_ ?_<;>intro c72
 refine kA2 ?_;refine xf (E3 Et Ek Ek) (a7r _ _ _ s.names.l 1 1 _ _ (hO.nr.mono v0 Sb) hO.nw) ?_;refine a8L ?_;refine ZZ [1,1,0] ?_;refine B1 [1,3] rfl (λμ F' h'=>∃i:Nat,∃v:Bool,(i<=s.fs.l.length/\((((E7 s.names.l 1 1 Go.Lx.name&&decide ((s.fs.l.length:Int)<=8))&&((s.bl.length:Int)==1))&&s.fs.l.all foP)=(v&&(s.fs.l.drop i).all foP)))/\s.fs.l.length-i=μ/\F'=[(4,.bool v),(5,.int .i64 i)]/\spX b3 (.mk 0 s.ty s.names s.e s.cs s.vs s.fs s.ba s.bc s.bl)::spX b1 s::h=h') (s.fs.l.length-0) [(4,.bool (((E7 s.names.l 1 1 Go.Lx.name&&decide ((s.fs.l.length:Int)<=8))&&((s.bl.length:Int)==1)))),(5,.int .i64 0)] (h0:=spX b3 (.mk 0 s.ty s.names s.e s.cs s.vs s.fs s.ba s.bc s.bl)::spX b1 s::h) ?_ Sb ⟨0,((E7 s.names.l 1 1 Go.Lx.name&&decide ((s.fs.l.length:Int)<=8))&&((s.bl.length:Int)==1)),⟨by omega,rfl⟩,rfl,rfl,rfl⟩ ?_;exact Su;rintro _ _ _ ⟨i,v,⟨hi,hJ⟩,rfl,rfl,rfl⟩;refine B2 rfl ?_
 refine Z5 ?_;refine wD ?_ ?_<;>intro c93
 obtain⟨x,hx⟩:=A5 (l:=s.fs.l) (k:=i) (by omega);have hxw:=hO.fw x (List.mem_of_getElem? hx);refine ZZ [0,5] ?_;refine E8 (GU.t rfl rfl) (λhc=>D8 b6Z.und b6Z.size b6Z.posz (Eg hc) (Eg hc) Rr rfl (by omega)) Lb ?_;refine zG (λhc=>a0Y b2i rfl rfl a2w Rr (Eg hc) (by assumption) rfl rfl (Nat.succ_pos _)) ?_;refine A4 (GU.t rfl rfl) (λhc=>⟨Ef,(E1 (Eg hc)),c8v x hxw⟩) Lb ?_;refine ZZ [2,3] ?_;refine WL.nil (A6 (s.fs.l.length-(i+1)) [(4,.bool ((v&&foP x))),(5,.int .i64 (i+1))] (h'':=spX b3 (.mk 0 s.ty s.names s.e s.cs s.vs s.fs s.ba s.bc s.bl)::spX b1 s::h) (by omega) ?_ Su Sb ⟨i+1,(v&&foP x),⟨by omega,by rw[hJ,c1h hx,Bool.and_assoc]⟩,rfl,rfl,rfl⟩);exact Su;rw[List.drop_eq_nil_of_le (by omega),List.all_nil,Bool.and_true]at hJ;refine ZZ [0,2,2] ?_
 refine WL.nil (B4 [(4,.bool v)] (h'':=spX b3 (.mk 0 (Sp.mk 0 s.ty B0 s.e s.cs s.vs B0 none 0 []).ty s.names (Sp.mk 0 s.ty B0 s.e s.cs s.vs B0 none 0 []).e (Sp.mk 0 s.ty B0 s.e s.cs s.vs B0 none 0 []).cs (Sp.mk 0 s.ty B0 s.e s.cs s.vs B0 none 0 []).vs (Sp.mk 0 s.ty B0 s.e s.cs s.vs B0 none 0 []).fs (Sp.mk 0 s.ty B0 s.e s.cs s.vs B0 none 0 []).ba (Sp.mk 0 s.ty B0 s.e s.cs s.vs B0 none 0 []).bc (Sp.mk 0 s.ty B0 s.e s.cs s.vs B0 none 0 []).bl)::spX b1 s::h) ?_ Su Sb ⟨v,Sp.mk 0 s.ty B0 s.e s.cs s.vs B0 none 0 [],⟨b0h hzk ⟨hO.ty,hO.e,hO.v,hO.vw,Rd.nilF foE 6 m h,a4c⟩ (Rd.nilF encB 1 m h) a4c (Rd.nilF prE 42 m h) (λ_ hx=>(List.not_mem_nil hx).elim),by rw[d0g c72,hJ];rfl⟩,rfl,rfl⟩);exact Su
 refine WC.skip (B4 [(4,.bool false)] (h'':=spX b3 (.mk 0 (Sp.mk 0 s.ty B0 s.e s.cs s.vs s.fs s.ba s.bc s.bl).ty s.names (Sp.mk 0 s.ty B0 s.e s.cs s.vs s.fs s.ba s.bc s.bl).e (Sp.mk 0 s.ty B0 s.e s.cs s.vs s.fs s.ba s.bc s.bl).cs (Sp.mk 0 s.ty B0 s.e s.cs s.vs s.fs s.ba s.bc s.bl).vs (Sp.mk 0 s.ty B0 s.e s.cs s.vs s.fs s.ba s.bc s.bl).fs (Sp.mk 0 s.ty B0 s.e s.cs s.vs s.fs s.ba s.bc s.bl).ba (Sp.mk 0 s.ty B0 s.e s.cs s.vs s.fs s.ba s.bc s.bl).bc (Sp.mk 0 s.ty B0 s.e s.cs s.vs s.fs s.ba s.bc s.bl).bl)::spX b1 s::h) ?_ Su Sb ⟨false,Sp.mk 0 s.ty B0 s.e s.cs s.vs s.fs s.ba s.bc s.bl,⟨b0h hzk ⟨hO.ty,hO.e,hO.v,hO.vw,hO.fr,hO.fw⟩ (Rd.nilF encB 1 m h) a4c hO.b hS.b,d00 c10 c22 c41 c60 c72 _⟩,rfl,rfl⟩);exact Su;rintro _ _ ⟨fb,xs,hfb,rfl,rfl⟩;refine B2 rfl ?_;refine ZZ [2,2] ?_;refine zG (λ_=>pA a7B) ?_;refine zG (λ_=>PO.build a7B rfl rfl rfl EvP.nil rfl) ?_
 refine A4 (GU.t rfl rfl) (λhc=>⟨Ef,(E2 (Eg hc) (Eg hc)),a79 (.mk 0 xs.ty B0 xs.e xs.cs xs.vs xs.fs xs.ba xs.bc xs.bl) (λz hz y h m p1 p2=>b07 z y h m p1 p2) C3 _ _ (hfb.1.mono Sb) ((c8a m h).mono Sb)⟩) Lb ?_;refine Z2 ?_;refine wT h ?_;exact⟨by rw[hfb.2],rfl⟩
end
end Go.Proofs.YtkgfanibfkdbfaaGreatDoor
