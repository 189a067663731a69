import Derived.Test.YtchddhcajpagjaaGreatPwE
import Derived.Laws.StructEq
import Derived.ChangeKeysEq
set_option linter.all false
namespace Go.PW
open Go.RowKit
inductive LK where
 | b | i (k:IntKind) | s
 deriving DecidableEq
def LK.fits:LK->Zd->Bool
 | .b,.bool _=>true
 | .i k,.int k' _=>decide (k=k')
 | .s,.str _=>true
 | _,_=>false
def fits:List LK->List Zd->Bool
 | [],[]=>true
 | k::ks,t::ts=>k.fits t&&fits ks ts
 | _,_=>false
def Zja:Zd->Value
 | .bool b => .bool b
 | .int k n => .int k n
 | .str s => .string ⟨s.toArray⟩
 | .con v=>v
 | .sl _=>undef
def Z1s:Zd->Zd->Bool
 | .bool a,.bool b=>a==b
 | .int _ a,.int _ b=>a==b
 | .str a,.str b=>a==b
 | _,_=>false
def Zac:List Zd->List Zd->Bool
 | [],[]=>true
 | a::as,b::bs=>Z1s a b&&Zac as bs
 | _,_=>false
def Z1t(P:Program)(F:TypeId->Option (List LK)):List Field->Nat->Option (List LK)
 | [],_=>some []
 | f :: fs, off => if f.name = "_" \/ f.offset ≠ off then none else
  match F f.type with
  | none=>none
  | some l=>if P.cellsOf f.type≠l.length then none else (Z1t P F fs (off+l.length)).map (l ++ ·)
def Zg2(P:Program):Nat->TypeId->Option (List LK)
 | 0,_=>none
 | d+1,t=>
  match P.underlying t with
  | some .bool=>some [.b]
  | some (.int k)=>some [.i k]
  | some .string=>some [.s]
  | some (.array n e)=>
   match Zg2 P d e with
   | some l=>if P.cellsOf e=l.length/\(P.info? e).isSome then some (List.replicate n l).flatten else none
   | none=>none
  | some (.struct fs)=>if P.stoodInHeld t then none else Z1t P (Zg2 P d) fs.toList 0
  | _=>none
def Zjb(P:Program)(t:TypeId)(xs:List Zd):Value:=
 match P.underlying t with
 | some (.struct _) | some (.array _ _) => .agg (xs.map Zja).toArray
 | _=>Zja (xs.headD default)
theorem Zsc{a b:List LK}:∀ {xs:List Zd},fits (a++b) xs=true->fits a (xs.take a.length)=true/\fits b (xs.drop a.length)=true/\a.length<=xs.length:=by
 induction a with
 | nil=>intro xs h;exact⟨by simp [fits],by simpa using h,by simp⟩
 | cons k a ih=>
  intro xs h
  cases xs with
  | nil=>simp [fits] at h
  | cons x xs=>
   simp only [List.cons_append,fits,Bool.and_eq_true] at h
   obtain⟨h1,h2,h3⟩:=ih h.2
   exact⟨by simp [fits,h.1,h1],by simpa using h2,by simpa using h3⟩
theorem Zsd{a:List LK}:∀ {xs:List Zd},fits a xs=true->xs.length=a.length:=by
 induction a with
 | nil=>intro xs h;cases xs<;>simp [fits] at h ⊢
 | cons k a ih=>
  intro xs h
  cases xs with
  | nil=>simp [fits] at h
  | cons x xs=>simp only [fits,Bool.and_eq_true] at h;simp [ih h.2]
theorem Zanw{k:IntKind}{xs:List Zd}(h:fits [.i k] xs=true):∃ a,xs=[.int k a]:=by
 cases xs with
 | nil=>simp [fits] at h
 | cons x xs=>
  simp only [fits,Bool.and_eq_true] at h
  have hn:xs=[]:=by cases xs<;>simp [fits] at h ⊢
  subst hn
  cases x<;>simp only [LK.fits,Bool.false_eq_true,false_and] at h
  rename_i k' a
  have hk:k=k':=of_decide_eq_true h.1
  subst hk
  exact⟨a,rfl⟩
theorem Zz3:∀ (as bs cs ds:List Zd),as.length=bs.length->Zac (as++cs) (bs++ds)=(Zac as bs&&Zac cs ds)
 | [],[],cs,ds,_=>by simp [Zac]
 | a::as,b::bs,cs,ds,h=>by simp [Zac,Zz3 as bs cs ds (by simpa using h),Bool.and_assoc]
 | [],_::_,_,_,h=>by simp at h
 | _::_,[],_,_,h=>by simp at h
theorem Zyw{P:Program}(w:World){t:TypeId}{l:List LK}{d:Nat}(hf:Zg2 P d t=some l)(hc:P.cellsOf t=l.length)(xs:List Zd)(off:Nat)(h:off+l.length<=xs.length) :
 (part t (xs.map Zja).toArray off).run P w = .ok (Zjb P t ((xs.drop off).take l.length)) w:=by
 cases d with
 | zero=>simp [Zg2] at hf
 | succ d=>
  have hinfo:∃ i,P.info? t=some i:=by
   unfold Zg2 at hf
   cases hu:P.underlying t with
   | none=>simp [hu] at hf
   | some _=>exact info_of_underlying hu
  obtain⟨i,hi⟩:=hinfo
  have hsz:i.size=l.length:=by simpa [Program.cellsOf,hi] using hc
  have one:l.length=1->(xs.map Zja).toArray[off]?=some (Zja (((xs.drop off).take l.length).headD default)):=by
   intro h1
   rw [h1] at h ⊢
   have hlt:off < xs.length:=by omega
   simp [List.headD_eq_head?_getD,List.head?_take,hlt]
  unfold Zg2 at hf
  cases hu:P.underlying t with
  | none=>simp [hu] at hf
  | some kd=>
   cases kd<;>simp only [hu] at hf<;>try (cases hf;done)
   case struct fs=>simp [part,isAgg,run_underlying hu,sizeOf,typeInfo,hi,hsz,Zjb,hu]
   case array n e=>simp [part,isAgg,run_underlying hu,sizeOf,typeInfo,hi,hsz,Zjb,hu]
   all_goals
    cases hf
    have:=one rfl
    simp only [part,isAgg,Sem.run_bind,run_underlying hu,Result.andThen_ok,Sem.run_pure,Bool.false_eq_true,if_false,this,Zjb,hu]
def Zanx(P:Program)(d:Nat)(t:TypeId)(l:List LK):Prop:=
 ∀ (w:World) (xs ys:List Zd),fits l xs=true->fits l ys=true->(Op.equalIn d t (Zjb P t xs) (Zjb P t ys)).run P w = .ok (Zac xs ys) w
theorem Z4n{P:Program}(D d:Nat)(IH:∀ t l,Zg2 P d t=some l->Zanx P (D+d) t l)(X Y:List Zd):∀ (fs:List Field) (off:Nat) (ks:List LK),
 Z1t P (Zg2 P d) fs off=some ks->fits ks (X.drop off)=true->fits ks (Y.drop off)=true->off<=X.length->off<=Y.length->∀ w,
 (Op.eqFields (D+d) (X.map Zja).toArray (Y.map Zja).toArray fs).run P w = .ok (Zac (X.drop off) (Y.drop off)) w
 | [],off,ks,h,hx,hy,_,_,w=>by
  simp only [Z1t,Option.some.injEq] at h
  subst h
  have h1:=Zsd hx
  have h2:=Zsd hy
  rw [List.eq_nil_of_length_eq_zero h1,List.eq_nil_of_length_eq_zero h2]
  simp [Op.eqFields,Zac]
 | f::fs,off,ks,h,hx,hy,hox,hoy,w=>by
  simp only [Z1t] at h
  split at h
  .cases h
  rename_i hn
  simp only [not_or,ne_eq,Decidable.not_not] at hn
  cases hF:Zg2 P d f.type with
  | none=>simp [hF] at h
  | some l=>
   simp only [hF] at h
   split at h
   .cases h
   rename_i hc
   simp only [ne_eq,Decidable.not_not] at hc
   cases hr:Z1t P (Zg2 P d) fs (off+l.length) with
   | none=>simp [hr] at h
   | some rs=>
    simp only [hr,Option.map_some,Option.some.injEq] at h
    subst h
    obtain⟨hx1,hx2,hx3⟩:=Zsc hx
    obtain⟨hy1,hy2,hy3⟩:=Zsc hy
    simp only [List.length_drop] at hx3 hy3
    rw [List.drop_drop] at hx2 hy2
    have hpx:=Zyw w hF hc X off (by omega)
    have hpy:=Zyw w hF hc Y off (by omega)
    have heq:=IH _ _ hF w _ _ hx1 hy1
    have ih:=Z4n D d IH X Y fs (off+l.length) rs hr hx2 hy2 (by omega) (by omega) w
    have hsplit:Zac (X.drop off) (Y.drop off)=(Zac ((X.drop off).take l.length) ((Y.drop off).take l.length)&&Zac (X.drop (off+l.length)) (Y.drop (off+l.length))):=by
     conv=>lhs;rw [<- List.take_append_drop l.length (X.drop off),<- List.take_append_drop l.length (Y.drop off)]
     rw [Zz3 _ _ _ _ (by simp;omega),List.drop_drop,List.drop_drop]
    simp only [Op.eqFields,ne_eq,hn.1,not_false_eq_true,if_true,Sem.run_bind,hn.2,hpx,hpy,heq,Result.andThen_ok]
    cases hb:Zac ((X.drop off).take l.length) ((Y.drop off).take l.length) with
    | false=>simp [hsplit,hb]
    | true=>simp [hsplit,hb,ih]
theorem Z5w{P:Program}(D d:Nat){e:TypeId}{l:List LK}(he:Zg2 P d e=some l)(hc:P.cellsOf e=l.length)(IH:Zanx P (D+d) e l)(X Y:List Zd)(w:World):∀ (n i:Nat),
 fits (List.replicate n l).flatten (X.drop (i*l.length))=true->fits (List.replicate n l).flatten (Y.drop (i*l.length))=true->i*l.length<=X.length->i*l.length<=Y.length ->
 (Op.eqItems (D+d) e (P.cellsOf e) (X.map Zja).toArray (Y.map Zja).toArray (List.range' i n)).run P w = .ok (Zac (X.drop (i*l.length)) (Y.drop (i*l.length))) w
 | 0,i,hx,hy,_,_=>by
  have h1:=Zsd hx
  have h2:=Zsd hy
  simp only [List.replicate_zero,List.flatten_nil,List.length_nil] at h1 h2
  rw [List.eq_nil_of_length_eq_zero h1,List.eq_nil_of_length_eq_zero h2]
  simp [Op.eqItems,Zac]
 | n+1,i,hx,hy,hox,hoy=>by
  rw [List.replicate_succ,List.flatten_cons] at hx hy
  obtain⟨hx1,hx2,hx3⟩:=Zsc hx
  obtain⟨hy1,hy2,hy3⟩:=Zsc hy
  simp only [List.length_drop] at hx3 hy3
  rw [List.drop_drop] at hx2 hy2
  have hpx:=Zyw w he hc X (i*l.length) (by omega)
  have hpy:=Zyw w he hc Y (i*l.length) (by omega)
  have heq:=IH w _ _ hx1 hy1
  have hmul:(i+1)*l.length=i*l.length+l.length:=by rw [Nat.add_mul,Nat.one_mul]
  have ih:=Z5w D d he hc IH X Y w n (i+1) (by rw [hmul];exact hx2) (by rw [hmul];exact hy2) (by omega) (by omega)
  rw [hmul] at ih
  have hsplit:Zac (X.drop (i*l.length)) (Y.drop (i*l.length))=(Zac ((X.drop (i*l.length)).take l.length) ((Y.drop (i*l.length)).take l.length)&&Zac (X.drop (i*l.length+l.length)) (Y.drop (i*l.length+l.length))):=by
   conv=>lhs;rw [<- List.take_append_drop l.length (X.drop (i*l.length)),<- List.take_append_drop l.length (Y.drop (i*l.length))]
   rw [Zz3 _ _ _ _ (by simp;omega),List.drop_drop,List.drop_drop]
  rw [hc] at ih ⊢
  simp only [List.range'_succ,Op.eqItems,Sem.run_bind,hpx,hpy,heq,Result.andThen_ok]
  cases hb:Zac ((X.drop (i*l.length)).take l.length) ((Y.drop (i*l.length)).take l.length) with
  | false=>simp [hsplit,hb]
  | true=>simp [hsplit,hb,ih]
theorem Z28{P:Program}(D:Nat):∀ (d:Nat) (t:TypeId) (l:List LK),Zg2 P d t=some l->Zanx P (D+d) t l
 | 0,_,_,h=>by simp [Zg2] at h
 | d+1,t,l,h=>by
  intro w xs ys hx hy
  have h0:=h
  unfold Zg2 at h
  cases hu:P.underlying t with
  | none=>simp [hu] at h
  | some kd=>
   cases kd<;>simp only [hu] at h<;>try (cases h;done)
   case bool=>
    cases h
    match xs,ys,hx,hy with
    | [.bool a],[.bool b],_,_=>simp only [Zjb,hu,List.headD_cons,Zja,Zac,Z1s,Bool.and_true];exact run_equalIn_bool' w (D+d) t a b hu
   case int k=>
    cases h
    obtain⟨a,rfl⟩:=Zanw hx
    obtain⟨b,rfl⟩:=Zanw hy
    simp only [Zjb,hu,List.headD_cons,Zja,Zac,Z1s,Bool.and_true]
    exact run_equalIn_int w (D+d) t _ _ a b hu
   case string=>
    cases h
    match xs,ys,hx,hy with
    | [.str a],[.str b],_,_=>
     simp only [Zjb,hu,List.headD_cons,Zja,Zac,Z1s,Bool.and_true]
     rw [show D+(d+1)=(D+d)+1 from rfl,run_equalIn_string w (D+d) t _ _ hu,ByteArray.toList_eq,ByteArray.toList_eq]
   case array n e=>
    cases he:Zg2 P d e with
    | none=>simp [he] at h
    | some le=>
     simp only [he] at h
     split at h
     .rename_i hc
      cases h
      obtain⟨i,hi⟩:=Option.isSome_iff_exists.1 hc.2
      simp only [Zjb,hu]
      rw [show D+(d+1)=(D+d)+1 from rfl,run_equalIn_array w (D+d) _ _ hu hi,List.range_eq_range']
      simpa using Z5w D d he hc.1 (Z28 D d e le he) xs ys w n 0 (by simpa using hx) (by simpa using hy) (by simp) (by simp)
     .cases h
   case struct fs=>
    split at h
    .cases h
    rename_i hst
    simp only [Zjb,hu]
    have hfs:P.fieldsOf t=fs:=by simp [Program.fieldsOf,hu]
    rw [show D+(d+1)=(D+d)+1 from rfl,run_equalIn_struct w (D+d) t _ _ (by rw [hfs];exact hu) (by simpa using hst),hfs]
    simpa using Z4n D d (fun t' l' h'=>Z28 D d t' l' h') xs ys fs.toList 0 l h (by simpa using hx) (by simpa using hy) (by simp) (by simp) w
end Go.PW
