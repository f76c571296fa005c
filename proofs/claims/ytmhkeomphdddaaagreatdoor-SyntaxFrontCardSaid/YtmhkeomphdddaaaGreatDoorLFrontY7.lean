import Derived.Test.YtmhkeomphdddaaaGreatDoorLFrontY6
import Derived.SevenTiedAt
import Derived.Test.YtmhkeomphdddaaaGreatDoorCards
import Derived.Test.YtmhkeomphdddaaaGreatDoorTie
import Derived.ChangeMaps5
set_option maxRecDepth 100000
set_option maxHeartbeats 2000000
namespace Go.Proofs.YtmhkeomphdddaaaGreatDoor
section
open Go.Eng Go.Pc Go.Sx Go
open Go.Xp hiding B C2
open Go.Ly (Rw I6 C6)
def Law:Value->View->List Res->Prop:=fun v _ _=>v=.bool true
theorem c0B (p q:Pr):K2 p (stP q)=K2 p q:=by rw[a8v,b6r,a8v]
theorem b8h (s:Option Addr) (k c:Nat) (xs:List Rw) (h:List Res) (m:View) (hs:Rd m h s k c 3 (fl I6 xs)) (hb:k<=4398046511103):CT Tryz.prog 7 [.slice s k c] h m (fun v _ h'=>b4N I6 53 3 h xs v h'):=by
 have hl:=hs.lenF C6 (by decide);refine CT.body Tryz.call7 Tryz.func7 rfl Tryz.ntmps7 Lb rfl ?_;refine kQ1 [0] ?_;refine kA1 ?_;refine xG (b8u a7G Et Ek) ?_;refine kQ0 [0,4] ?_;refine wc (fun c4=>?_) fun c4=>?_
 have:s=none:=by simpa using c4
 subst this;refine b6U (A:=fl I6 xs=[]) (fun w st=>?_) fun h0=>?_
 ·cases hx:fl I6 xs with
  | nil=>rfl
  | cons y ys=>obtain⟨b,off,e,_⟩:=hs.at_ w st 0 y (by rw[hx];rfl);cases e
 have e0:xs=[]:=by cases xs <;> simp_all [fl,I6]
 subst e0;refine WC.addNil 53 3 ?_;refine kQ1 [2] ?_;refine wT (.row (.slice none 0 0) 53 3 0 []::h) ?_;exact⟨none,0,0,rfl,rfl,rfl⟩;refine kQ0 [0] ?_;refine a9v S0 Lb fun b5=>?_
 refine kA1 ?_;refine xD S0 (Ev.tmp rfl) (Ev.tmp rfl) (Nat.zero_add _) (List.nil_append _) fun a7 c7=>?_
 refine kQ1 [2] ?_;refine wT _ ?_;exact⟨a7,c7,_,hl.symm,rfl,rfl⟩
theorem c4D (z:Int):∀ {l:List Rw} {i:Nat} {r:Rw},l[i]?=some r->(fl I6 l).set (i * 3+0) (.int .i64 z)=fl I6 (l.set i ⟨z,r.depth,r.text⟩)
 | x::l,0,r,h=>by
  obtain rfl:x=r:=by simpa using h
  rfl
 | x::l,i+1,r,h=>by
  have e:fl I6 (x::l)=I6 x++fl I6 l:=by simp[fl]
  have e2:fl I6 ((x::l).set (i+1) ⟨z,r.depth,r.text⟩)=I6 x++fl I6 (l.set i ⟨z,r.depth,r.text⟩):=by simp[fl]
  rw[e,e2,List.set_append_right _ _ (by rw[C6];omega),C6,show(i+1) * 3+0 - 3=i * 3+0 by omega,c4D z (l:=l) (i:=i) (by simpa using h)]
theorem b7R {m:View} (hg:Glob m) (ra:Option Addr) (n rc:Nat) (R:List Rw) (hn:R.length=n) (h:List Res) (ht:∀ x ∈ R,x.text.length<=140737488355328) :
 CT Tryz.prog 5 [.slice ra n rc] (.row (.slice ra n rc) 53 3 n (fl I6 R)::h) m (fun v _ h'=>∃ x hx bl,v=.tuple #[prV x,.int .i64 ((G1 R).2.1:Nat),.int .i64 (G1 R).2.2]/\stP x=(G1 R).1/\POk m (hx++(bl++h)) x/\Rd m hx ra n rc 3 (fl I6 R)/\h'=hx++(bl++h)):=by
 subst hn;exact b0o hg ra rc R h ht
end
section
open Go.Eng Go.Pc Go.Sx Go
open Go.Xp hiding B C2
open Go.Ly (Rw I6 C6)
theorem c3c {R S:List Rw} (h:a3Y S=a3Y R) {i:Nat} {r:Rw} (hr:S[i]?=some r) (z:Int):a3Y (S.set i ⟨z,r.depth,r.text⟩)=a3Y R:=by
 rw[<- h];unfold a3Y;rw[List.map_set];refine List.ext_getElem? fun j=>?_
 by_cases hj:i=j
 ·subst hj
  have hi:=(List.getElem?_eq_some_iff.1 hr).1;rw[List.getElem?_set_self (by simpa using hi),List.getElem?_map,hr];rfl
 ·rw[List.getElem?_set_ne hj]
theorem b9e {R S:List Rw} (h:a3Y S=a3Y R) {n:Nat} (hR:∀ x ∈ R,x.text.length<=n):∀ x ∈ S,x.text.length<=n:=fun x hx=>by
 obtain⟨i,hi⟩:=List.getElem?_of_mem hx;have h1:(a3Y S)[i]?=(a3Y R)[i]?:=by rw[h]
 unfold a3Y at h1;rw[List.getElem?_map,List.getElem?_map,hi] at h1;cases hr:R[i]? with
 | none=>rw[hr] at h1;cases h1
 | some y=>
  rw[hr] at h1;have h2:=Option.some.inj h1;have h3:=hR y (List.mem_of_getElem? hr);have h4:x.text=y.text:=congrArg Prod.snd h2;rw[h4];exact h3
end
section
open Go.Eng Go.Pc Go.Sx Go
open Go.Xp hiding B C2
open Go.Ly (Rw I6 C6)
theorem b5d {R S M:List Rw} {k:Nat} (hk:k<=R.length) (h:a3Y M=a3Y (R.take k++S)):a9h k R M:=fun i hi=>by
 have h1:(a3Y M)[i]?=(a3Y (R.take k++S))[i]?:=by rw[h]
 unfold a3Y at h1;rw[List.getElem?_map,List.getElem?_map,List.getElem?_append_left (by rw[List.length_take];omega),List.getElem?_take,if_pos hi] at h1;exact h1.symm
theorem b04 {m:View} (hg:Glob m) (a:Option Addr) (c k:Nat) (R:List Rw) (h:List Res) (hR:Rd m [] a R.length c 3 (fl I6 R)) (ht:∀ x ∈ R,x.text.length<=140737488355328) (hk:k<=R.length) :
 CT Tryz.prog 5 [.slice (sl1 a 0 c 3) k c] h m (fun v _ h'=>c7c m (R.take k) h v h'):=by
 have hlen:(R.take k).length=k:=by rw[List.length_take];omega
 have h1:=hR.takeF C6 hk;have h2:=a6v hg (sl1 a 0 c 3) c (R.take k) h (by rw[hlen];exact h1) fun x hx=>ht x (List.mem_of_mem_take hx)
 rw[hlen] at h2;exact h2
theorem b8E {m:View} (hg:Glob m) (hp:Pow m) (a:Option Addr) (n c:Nat) (R:List Rw) (b:Option Addr) (k d:Nat) (S:List Rw) (h:List Res) (hR:Rd m [] a n c 3 (fl I6 R)) (hB:∀ x ∈ R,RwB x) (hn:n<=4398046511103) (hS:Rd m [] b k d 3 (fl I6 S)) (hC:∀ x ∈ S,RwB x) (hk:k<=4398046511103) :
 CT Tryz.prog 3 [.slice a n c,.slice b k d] h m Law:=by
 have hl:=hR.lenF C6 (by decide);have hkl:=hS.lenF C6 (by decide);subst hl;subst hkl;have ht:∀ x ∈ R,x.text.length<=140737488355328:=fun x hx=>(hB x hx).2
 have hle:=hR.le;obtain⟨p0,hM1⟩:∃ p,(G1 R).1=p:=⟨_,rfl⟩;obtain⟨r,hM2⟩:∃ r,(G1 R).2.1=r:=⟨_,rfl⟩;obtain⟨e,hM3⟩:∃ e,(G1 R).2.2=e:=⟨_,rfl⟩;have hM:G1 R=(p0,r,e):=by rw[<- hM1,<- hM2,<- hM3]
 refine CT.body Tryz.call3 Tryz.func3 rfl Tryz.ntmps3 Lb rfl ?_;refine kQ1 [0,1] ?_;refine kA1 ?_;refine xg (E1 Et) (a6v hg a c R _ hR ht) ?_;rintro _ _ ⟨x,bl,rfl,-,-,rfl⟩;rw[hM2,hM3];refine kA4 ?_;refine xW fun b5=>?_
 refine kQ3 [0,1,6,7] ?_;refine c7O [0,1,6,7,30] ?_;refine wc (fun c30=>?_) fun c30=>?_
 refine j0 ?_;refine xf E0 (b2Q hg hp _) ?_;refine kQ1 [4] ?_;refine wT h ?_;rfl;have hc:=c30;simp only[Bool.or_eq_false_iff,beq_eq_false_iff_ne,decide_eq_false_iff_not] at hc;obtain⟨⟨he0,he2⟩,hr0⟩:=hc;have hr:r < R.length:=by omega
 have hcut:=b7n hM he0 he2 hr;obtain⟨hmR,-⟩:=a6Q hM he0 he2;have hmx:=(Go.Ly.mayP_all hmR).1;have hs0:=a5z hM he0 he2 (b2t (r+1) hmR) (a8p R (r+1));have hs1:(G1 (R.take (r+1))).2.1=r:=by rw[hs0]
 have hs2:(G1 (R.take (r+1))).2.2=e:=by rw[hs0]
 have hlen:(R.take (r+1)).length=r+1:=by rw[List.length_take];omega
 refine kQ0 [0,1,6,7] ?_;refine kQ2 [0,1,6,7,33] ?_;refine wc (fun c33=>?_) fun c33=>?_
 exact absurd (of_decide_eq_true c33) (by omega);replace c33:=dF c33;refine kQ0 [0,1,6,7] ?_;refine kA3 ?_;refine WL.val (v':=.int .i64 ((r+1:Nat):Int)) (congrArg (Value.int .i64) (by omega)) ?_;refine xG (a1E S0.und S0.size Et Et rfl (by omega)) ?_;refine xg (E1 Et) (b04 hg a c (r+1) R _ hR ht (by omega)) ?_;rintro _ _ ⟨x2,bl2,rfl,-,-,rfl⟩;rw[hs1,hs2];refine kA4 ?_;refine xW fun b8=>?_
 refine kQ3 [0,1,6,7,9,10] ?_;refine kQ8 [0,1,6,7,50] ?_;refine wc (fun c50=>?_) fun c50=>?_
 simp at c50;refine kQ0 [0,1,6,7] ?_;refine kA3 ?_;refine WL.val (v':=.int .i64 ((r+1:Nat):Int)) (congrArg (Value.int .i64) (by omega)) ?_;refine xG (a1E S0.und S0.size Et Et rfl (by omega)) ?_;refine xg (E1 Et) (b8h (sl1 a 0 c 3) (r+1) c (R.take (r+1)) _ _ ((hR.takeF C6 (by omega)).mono Vl (List.nil_sublist _)) (by omega)) ?_;rintro _ _ ⟨a55,c55,_,rfl,rfl,rfl⟩;rw[hlen];refine kA1 ?_;refine b4V S0 Et Et (hS.mono Vl (List.nil_sublist _)) On rfl (a3d _ _).symm (by omega) (by omega) (by omega) (fun v'=>Up) Lb fun a57 c57=>?_
 refine kQ1 [0,6,7,11] ?_;refine kQ3 [0,6,7,11,59,60] ?_;refine B0 [0,6,7,11,59] rfl (fun μ F' h'=>∃ i:Nat,∃ s:List Rw,((i<=r+1+S.length/\s.length=r+1+S.length)/\a3Y s=a3Y (R.take (r+1)++S))/\(r+1+S.length) - i=μ/\F'=[(60,.int .i64 i)]/\.row (.slice a57 (r+1+S.length) c57) 53 3 (r+1+S.length) (fl I6 s)::h=h') ((r+1+S.length) - 0) [(60,.int .i64 0)] (h0:=.row (.slice a57 (r+1+S.length) c57) 53 3 (r+1+S.length) (fl I6 (R.take (r+1)++S))::h) ?_ Sb ⟨0,R.take (r+1)++S,⟨⟨by omega,by rw[List.length_append,hlen]⟩,rfl⟩,rfl,rfl,rfl⟩ ?_;exact Su;rintro _ _ _ ⟨i,s,⟨⟨hi,hsl⟩,hbr⟩,rfl,rfl,rfl⟩;refine B2 rfl ?_;refine kQ1 [0,6,7,11,59,60,61] ?_;refine wc (fun c61=>?_) fun c61=>?_
 replace c61:=dT c61;obtain⟨y,hy⟩:=A3 (l:=s) (k:=i) (by omega);refine kQ0 [0,6,7,11,59,60] ?_;refine kQ2 [0,6,7,11,12,59,60] ?_;refine a9r (a:=a57) (by (repeat (first | exact b7s _ | apply b7v | apply List.mem_append_right))) fun p13 q13 r13=>?_
 refine kA4 ?_;refine xG (F2 S0.und S0.size S0.posz Et Et (Rd.inRow (by (repeat (first | exact b7s _ | apply b7v | apply List.mem_append_right))) r13 p13 q13) rfl (by omega)) ?_;refine xG (F6 a9y rfl (Nat.ne_of_beq_eq_false rfl) C6 (Nat.succ_pos _) (Rd.inRow (by (repeat (first | exact b7s _ | apply b7v | apply List.mem_append_right))) r13 p13 q13) (by assumption) Et) ?_;refine b7b (o:=i * 3+0) rfl Et Et rfl rfl (by rw[r13];omega) Up ?_;rw[c4D ((i:Int)+1) hy];refine kQ0 [0,6,7,11,59,60] ?_;refine kA2 ?_;refine WL.nil (A5 ((r+1+S.length) - (i+1)) [(60,.int .i64 (i+1))] (h'':=.row (.slice a57 (r+1+S.length) c57) 53 3 (r+1+S.length) (fl I6 (s.set i ⟨(i:Int)+1,y.depth,y.text⟩))::h) (by omega) ?_ Su Sb ⟨i+1,s.set i ⟨(i:Int)+1,y.depth,y.text⟩,⟨⟨by omega,by rw[List.length_set];exact hsl⟩,c3c hbr hy _⟩,rfl,rfl,rfl⟩);exact Su;replace c61:=dF c61
 have hts:∀ x ∈ s,x.text.length<=140737488355328:=b9e hbr fun x hx=>by
  rcases List.mem_append.1 hx with q | q
  ·exact ht x (List.mem_of_mem_take q)
  ·exact(hC x q).2
 have hMs:Go.Ly.mayP s=true->(G1 s).2=(r,e):=fun q=>a5z hM he0 he2 q (b5d (by omega) hbr)
 obtain⟨u1,hu1⟩:∃ u,(G1 s).2.1=u:=⟨_,rfl⟩;obtain⟨u2,hu2⟩:∃ u,(G1 s).2.2=u:=⟨_,rfl⟩;obtain⟨q1,hq1⟩:∃ u,(G1 (R.take r)).2.1=u:=⟨_,rfl⟩;obtain⟨q2,hq2⟩:∃ u,(G1 (R.take r)).2.2=u:=⟨_,rfl⟩;refine kQ0 [0,6,7,11] ?_;refine kA1 ?_;refine xg (E1 Et) (b7R hg a57 _ c57 s hsl _ hts) ?_;rintro _ _ ⟨x3,hx,bl3,rfl,-,-,hrd,rfl⟩;rw[hu1,hu2];refine kQ6 [0,6,7,9,10,11] ?_;refine kA1 ?_;refine xf (E1 Et) (Ly7.mayR_ct a57 _ c57 s _ _ (hrd.mono Vl Sb) hts) ?_;refine kA8 ?_;refine zG (fun hc=>a1Z hc rfl rfl) ?_;refine kQ1 [0,6,87] ?_;refine wc (fun c87=>?_) fun c87=>?_
 have hc:=c87;rw[Bool.and_eq_true] at hc;obtain⟨hc1,hc2⟩:=hc;have hc3:=hMs hc1;obtain rfl:u1=r:=by rw[<- hu1,hc3]
 obtain rfl:u2=e:=by rw[<- hu2,hc3]
 simp at hc2;refine kQ0 [0,6] ?_;refine kA2 ?_;refine xG (a1E S0.und S0.size Et Et rfl (by omega)) ?_;refine xg (E1 Et) (b04 hg a c r R _ hR ht (by omega)) ?_;rintro _ _ ⟨x4,bl4,rfl,-,-,rfl⟩;rw[hq1,hq2];refine kQ6 [6,9,10] ?_;refine a7y ?_;refine kA1 ?_;refine zG (fun hc=>Q6 hc rfl rfl) ?_;refine kA2 ?_;refine A6 (GU.t rfl rfl) (fun hc=>⟨Ef,Evs.nil,b2Q hg hp _⟩) Lb ?_;refine kQ2 [4] ?_;refine wT h ?_;exact congrArg Value.bool (by rcases hcut with q | q <;> rw[q] at hq1 hq2 <;> subst hq1 hq2 <;> simp)
end
section
open Go Go.Eng Go.RowKit Go.ChangeShapes Go.WideShapes Go.ChangeAt Go.Joins
theorem Tryz.own:ownKnob Tryz.prog.godebug=none:=by kernel_rfl
theorem Tryz.laidOut:laidOutB Tryz.prog=true:=by kernel_rfl
theorem c2K:Tryz.prog.cellsOf 249=3:=by kernel_rfl
abbrev b0p : List (String × DataW Unit) := [("math/bits.deBruijn32tab", Rows.laid_math_bits_deBruijn32tab), ("math/bits.deBruijn64tab", Rows.laid_math_bits_deBruijn64tab), ("internal/strconv.uint64pow10", Rows.laid_internal_strconv_uint64pow10), ("unicode/utf8.acceptRanges", Rows.laid_unicode_utf8_acceptRanges), ("transputer/types.primitive", Rows.laid_transputer_types_primitive), ("transputer/syntax.one", Rows.laid_transputer_syntax_one), ("transputer/syntax.some", Rows.laid_transputer_syntax_some), ("transputer/syntax.all", Rows.laid_transputer_syntax_all), ("unicode/utf8.first", Rows.laid_unicode_utf8_first)]
theorem b1x {W:World} {T8:Nat} {ys:List Value} {kd sz:Int} {wd:List UInt8} {p:List MemPlace}
 (h:DataW.trod (fun _=>()) Tryz.prog W 0 (fun _=>true) false T8 249 ys=some (.agg [.lit (.int .u8 kd),.lit (.string wd),.lit (.int .i64 sz)],p)) :
 ys[0]?=some (.int .u8 kd)/\ys[1]?=some (str wd)/\ys[2]?=some (.int .i64 sz):=by
 obtain⟨f,hf⟩:=a7s b3R h;obtain⟨_,h0⟩:=hf 0 _ _ rfl rfl;obtain⟨_,h1⟩:=hf 1 _ _ rfl rfl;obtain⟨_,h2⟩:=hf 2 _ _ rfl rfl;exact⟨Eng.cell_of_cut (a6w c6n h0),Eng.cell_of_cut (c1v uu9 h1),Eng.cell_of_cut (a6w uu3 h2)⟩
theorem a3e {cs ys:List Value} {i j:Nat} {v:Value} (e:(cs.drop (i * 3)).take 3=ys) (h:ys[j]?=some v):cs[i * 3+j]?=some v:=by
 subst e;rw[List.getElem?_take] at h;split at h
 ·rwa [List.getElem?_drop] at h
 ·cases h
theorem b1D {W:World} {T8:Nat} {ys:List Value} {a b:Int} {p:List MemPlace} (h:DataW.trod (fun _=>()) Tryz.prog W 0 (fun _=>true) false T8 167 ys=some (.agg [.lit (.int .i64 a),.lit (.int .i64 b)],p)) :
 ∀ (j:Nat) (v:Value),([.int .i64 a,.int .i64 b]:List Value)[j]?=some v->ys[j]?=some v:=by
 obtain⟨f,hf⟩:=a7s U0 h;obtain⟨_,h0⟩:=hf 0 _ _ rfl rfl;obtain⟨_,h1⟩:=hf 1 _ _ rfl rfl;have e0:=Eng.cell_of_cut (a6w uu3 h0);have e1:=Eng.cell_of_cut (a6w uu3 h1);intro j v hj;match j,hj with
 | 0,hj=>cases hj;exact e0
 | 1,hj=>cases hj;exact e1
theorem c3n {W:World} (h:laidMet Tryz.prog b0p W) (hsh:W.ShapedOpen Tryz.prog):Glob (a1f W):=by
 obtain⟨_,⟨_,_,_,_,_,_,_,_,_,_,⟨_,_,_,_,_,_,_,_,_,_,⟨_,_,_,_,_,_,_,_,_,_,⟨_,_,_,_,_,_,_,_,_,_,⟨g4,t4,cs4,f4,p4,q4,hg4,ht4,hv4,hd4,⟨g5,t5,cs5,f5,p5,q5,hg5,ht5,hv5,hd5,⟨g6,t6,cs6,f6,p6,q6,hg6,ht6,hv6,hd6,⟨g7,t7,cs7,f7,p7,q7,hg7,ht7,hv7,hd7,_,_⟩,_⟩,_⟩,_⟩,_⟩,_⟩,_⟩,_⟩,_⟩:=h;obtain rfl := Option.some.inj ((show Tryz.prog.globalNamed "transputer/types.primitive" = some 4 by kernel_rfl).symm.trans hg4);obtain rfl:=Option.some.inj ((show(Tryz.prog.globals[4]?).map (·.type)=some 250 by kernel_rfl).symm.trans ht4);obtain rfl := Option.some.inj ((show Tryz.prog.globalNamed "transputer/syntax.one" = some 1 by kernel_rfl).symm.trans hg5);obtain rfl:=Option.some.inj ((show(Tryz.prog.globals[1]?).map (·.type)=some 167 by kernel_rfl).symm.trans ht5);obtain rfl := Option.some.inj ((show Tryz.prog.globalNamed "transputer/syntax.some" = some 3 by kernel_rfl).symm.trans hg6)
 obtain rfl:=Option.some.inj ((show(Tryz.prog.globals[3]?).map (·.type)=some 167 by kernel_rfl).symm.trans ht6);obtain rfl := Option.some.inj ((show Tryz.prog.globalNamed "transputer/syntax.all" = some 0 by kernel_rfl).symm.trans hg7);obtain rfl:=Option.some.inj ((show(Tryz.prog.globals[0]?).map (·.type)=some 167 by kernel_rfl).symm.trans ht7);refine⟨(Tryz.laysM144.s1_3 W hsh).imp fun _ e=>Z9 e,fun j v hj=>Z9 ?_,fun j v hj=>Z9 ?_,fun j v hj=>Z9 ?_,fun j v hj=>Z9 ?_⟩
 ·obtain⟨f,hf⟩:=b4M a7j hd4
  obtain⟨_,h0⟩:=hf 0 _ (by decide) rfl;obtain⟨_,h1⟩:=hf 1 _ (by decide) rfl;obtain⟨_,h2⟩:=hf 2 _ (by decide) rfl;rw[c2K] at h0 h1 h2;have a0:=b1x h0;have a1:=b1x h1;have a2:=b1x h2;rw[World.var?_cell hg4 hv4 j,<- Array.getElem?_toList];match j,hj with
  | 0,hj=>cases hj;exact a3e (i:=0) rfl a0.1
  | 1,hj=>cases hj;exact a3e (i:=0) rfl a0.2.1
  | 2,hj=>cases hj;exact a3e (i:=0) rfl a0.2.2
  | 3,hj=>cases hj;exact a3e (i:=1) rfl a1.1
  | 4,hj=>cases hj;exact a3e (i:=1) rfl a1.2.1
  | 5,hj=>cases hj;exact a3e (i:=1) rfl a1.2.2
  | 6,hj=>cases hj;exact a3e (i:=2) rfl a2.1
  | 7,hj=>cases hj;exact a3e (i:=2) rfl a2.2.1
  | 8,hj=>cases hj;exact a3e (i:=2) rfl a2.2.2
 ·rw[World.var?_cell hg5 hv5 j,<- Array.getElem?_toList]
  exact b1D hd5 j v hj
 ·rw[World.var?_cell hg6 hv6 j,<- Array.getElem?_toList]
  exact b1D hd6 j v hj
 ·rw[World.var?_cell hg7 hv7 j,<- Array.getElem?_toList]
  exact b1D hd7 j v hj
theorem c5j {W : World} (h : laidMet Tryz.prog b0p W) : Lib.TabIs Tryz.prog W "internal/strconv.uint64pow10" .u64 Lib.pow10Tab := by
 obtain⟨_,⟨_,_,_,_,_,_,_,_,_,_,⟨_,_,_,_,_,_,_,_,_,_,⟨g2,t2,cs2,f2,p2,q2,hg2,ht2,hv2,hd2,_,_⟩,_⟩,_⟩,_⟩:=h;have hg : Tryz.prog.globalNamed "internal/strconv.uint64pow10" = some 7 := by kernel_rfl
 have hty:(Tryz.prog.globals[7]?).map (·.type)=some 317:=by kernel_rfl
 obtain rfl:=Option.some.inj (hg.symm.trans hg2);obtain rfl:=Option.some.inj (hty.symm.trans ht2);unfold Lib.TabIs;rw[hv2,<- Lib.cells_of_tab (zs:=Lib.pow10Tab) c4k c4z (by kernel_rfl) (by kernel_rfl) hd2]
theorem c5c {W w : World} {h : List Res} (ht : Lib.TabIs Tryz.prog W "internal/strconv.uint64pow10" .u64 Lib.pow10Tab) (st : St (a1f W) h w) : Lib.TabIs Tryz.prog w "internal/strconv.uint64pow10" .u64 Lib.pow10Tab := by
 unfold Lib.TabIs World.var? at ht ⊢;cases hg : Tryz.prog.globalNamed "internal/strconv.uint64pow10" with
 | none=>rw[hg] at ht;cases ht
 | some g=>
  rw[hg] at ht;simp only[Option.bind_some] at ht ⊢;cases hb:W.heap[g]? with
  | none=>rw[hb] at ht;cases ht
  | some o=>rw[st.blk g o hb,<- hb];exact ht
theorem c5r {W:World} (h:laidMet Tryz.prog b0p W):Pow (a1f W):=fun _ _ st=>c5c (c5j h) st
noncomputable def c7W:DataW Unit->List Value
 | .lit (.int k z)=>[.int k z]
 | _=>[]
noncomputable def c7K:DataW Unit->List Value
 | .lit (.int k z)=>[.int k z]
 | .agg ds=>ds.flatMap c7W
 | _=>[]
noncomputable def c1w:DataW Unit->Array Value
 | .agg ds=>(ds.flatMap c7K).toArray
 | _=>#[]
noncomputable def b1c (g:Nat) (vs:Array Value) (hp:Array Obj):Array Obj:=hp.modify g fun
 | .cells _ t fz=>.cells vs t fz
 | o=>o
noncomputable def b05 (os:Os):World:=
 { World.holding Tryz.prog os ⟨#[],#[],[]⟩ with heap:=b1c 8 (c1w Rows.laid_math_bits_deBruijn32tab) (b1c 9 (c1w Rows.laid_math_bits_deBruijn64tab) (b1c 7 (c1w Rows.laid_internal_strconv_uint64pow10) (b1c 6 (c1w Rows.laid_unicode_utf8_acceptRanges) (b1c 5 (c1w Rows.laid_unicode_utf8_first) (b1c 4 c4u.toArray (b1c 1 a7U.toArray (b1c 3 a7f.toArray (b1c 0 c3g.toArray (World.holding Tryz.prog os ⟨#[],#[],[]⟩).heap)))))))) }
theorem a9T (os:Os) (args:Array Value):laidMet Tryz.prog b0p ((b05 os).forCall (fun _ _=>0) ⟨#[],args,[]⟩).memory:=
 laidMet_of_run' 8 (by kernel_rfl) (by kernel_rfl)
end
section
open Go Go.Eng Go.Ty Go.Xp Go.RowKit Go.ChangeShapes Go.WideShapes Go.ChangeAt Go.Joins
variable {H:Type} {enc:TypeId × Value->H} {W:World}
end
section
open Go.Xp hiding B
open Go Go.Eng Go.Ty Go.Pc Go.RowKit Go.ChangeShapes Go.WideShapes Go.ChangeAt Go.Joins
open Go.Lx (encB C9)
variable {H:Type} {enc:TypeId × Value->H} {W:World}
abbrev Wt (x:DataW H × List MemPlace) (t:TypeId):Prop:=∀ q ∈ x.1.weights Tryz.prog t,q<=reachBytes
theorem c0q {n:Int} (w:(Lit.int .i64 n).wf=true):-9223372036854775808<=n/\n<=9223372036854775807:=by
 simp[Lit.wf] at w;exact w
abbrev PsR (T8:Nat):Prop:=∀ g,g < T8->∀ {cs:List Value} {x:DataW H × List MemPlace},RdT enc Tryz.prog W true g 46 cs x->Wt x 46->∃ p:Pr,cs=prE p/\POk (a1f W) [] p
theorem PsR.less {f g:Nat} (ih:PsR (enc:=enc) (W:=W) f) (h:g<=f):PsR (enc:=enc) (W:=W) g:=fun k hk=>ih k (Nat.lt_of_lt_of_le hk h)
end
section
open Go Go.Eng Go.Ty Go.Pc Go.RowKit Go.ChangeShapes Go.WideShapes Go.ChangeAt Go.Joins
open Go.Ly (Rw I6 C6)
open Go.Sx (RwB)
variable {H:Type} {enc:TypeId × Value->H} {W:World}
theorem b6n:Tryz.prog.cellsOf 53=3:=by kernel_rfl
theorem c2x:Tryz.prog.bytesOf 53=32:=by kernel_rfl
theorem c2X {T8:Nat} {cs:List Value} {x:DataW H × List MemPlace} (hr:RdT enc Tryz.prog W true T8 53 cs x) (hw:Wt x 53):∃ r:Rw,cs=I6 r/\RwB r:=by
 obtain⟨hl,f,_,hf⟩:=b4k a9y hr;rw[b6n] at hl;match cs,hl with
 | [c0,c1,c2],_=>
  obtain⟨_,_,h0,_⟩:=hf _ (.head _);obtain⟨_,_,h1,_⟩:=hf _ (.tail _ (.head _));obtain⟨_,_,h2,k2⟩:=hf _ (.tail _ (.tail _ (.head _)));obtain⟨n0,e0,w0⟩:=c0E uu3 h0;obtain⟨n1,e1,w1⟩:=c0E uu3 h1;obtain⟨n2,e2,w2⟩:=c1S uu9 h2;obtain rfl:c0=.int .i64 n0:=List.head_eq_of_cons_eq e0;obtain rfl:c1=.int .i64 n1:=List.head_eq_of_cons_eq e1;obtain rfl:c2=str n2:=List.head_eq_of_cons_eq e2;exact⟨⟨n0,n1,n2⟩,rfl,⟨c0q w0,c0q w1⟩,Nat.le_trans (hw _ (k2 _ w2)) (by decide)⟩
theorem b6J {v:Value} {d:DataW H} {p:List MemPlace} {r:Reach} {base:Nat} (hv:Value.okWide Tryz.prog W r base 22 v) (h:DataW.Trod enc Tryz.prog W 0 (fun _=>true) true 22 v d p) (hw:∀ q ∈ d.weights Tryz.prog 22,q<=reachBytes) :
 ∃ a k c l,v=.slice a k c/\Rd (a1f W) [] a k c 3 (fl I6 l)/\(∀ x ∈ l,RwB x)/\k<=4398046511103:=by
 obtain⟨a,k,c,rfl⟩:=okWide_slice a7G hv;obtain⟨T8,hf⟩:=h;obtain⟨a',k',c',l,e,hl,hs,hp⟩:=b4o (x:=(d,p)) (Pr:=RwB) (enc':=I6) a7G b6n (by decide) C6 (fun f ys y hy hk=>c2X hy fun q hq=>hw q (hk q hq)) hf;have e:=List.head_eq_of_cons_eq (show[Value.slice a k c]=[.slice a' k' c'] from e);cases e;refine⟨a,k,c,l,rfl,Rd.ofSl hs,hp,?_⟩;rcases DataW.trod_slice a7G hf with ⟨e1,_⟩ | ⟨a',n',c',el,rs,f,_,e1,e2,_,_,_,h3,_⟩
 ·cases e1
  decide
 ·cases e1
  have hd:d=.slice (el.map (·.1)) (rs.map (·.1)):=(Prod.mk.inj e2).1;have h5:=hw ((el.length+rs.length) * 32) (by
   rw[hd];unfold DataW.weights;rw[a7G];simp only[List.length_map,c2x];exact List.mem_cons_self ..)
  unfold reachBytes at h5;omega
end
end Go.Proofs.YtmhkeomphdddaaaGreatDoor
