import Derived.Test.YtgjokhodccacoaaDoorSRecH8
import Derived.Test.YtgjokhodccacoaaDoorSMe
import Derived.Test.YtgjokhodccacoaaDoorSRecLaid
import Derived.Test.YtgjokhodccacoaaDoorTie
import Derived.Test.YtgjokhodccacoaaDoorCards
import Derived.SevenTiedAt
import Derived.Test.YtgjokhodccacoaaDoorRows
import Derived.Test.YtgjokhodccacoaaDoorSOpn
import Derived.WalkKit
import Derived.ProofKit
import Derived.OpenShut
import Derived.ShutString
import Derived.ChangeOld
import Derived.Below
set_option linter.unusedSimpArgs false
set_option linter.unusedVariables false
namespace Go.Proofs.YtgjokhodccacoaaDoor
open Go.ChangeShapes Go.WideShapes Go.ChangeAt Go.RowKit Go.Vm
theorem rp_own:ownKnob Tryd.prog.godebug = none:=by kernel_rfl
theorem rp_laidOut:laidOutB Tryd.prog = true:=by kernel_rfl
theorem u_u16:Tryd.prog.underlying 75 = some (.int .u16):=by kernel_rfl
theorem u_u8:Tryd.prog.underlying 5 = some (.int .u8):=by kernel_rfl
theorem u_bool:Tryd.prog.underlying 4 = some .bool:=by kernel_rfl
def mkB (l:List Int):Int:=l.getD 0 0
theorem mkB_enc (l:List Int) (h:l.length = 1):eB (mkB l) = l.map (Value.int .u8):=by
 match l,h with
 | [_],_=>rfl
theorem mkB_wf (l:List Int) (h:l.length = 1) (hw : ∀ z∈l,(Lit.int .u8 z).wf = true):0≤mkB l∧mkB l≤255:=by
 match l,h,hw with
 | [a],_,hw =>
  have:=hw a (by simp)
  simp [Lit.wf,IntKind.min,IntKind.max,IntKind.signed,IntKind.bits] at this
  show 0≤a∧a≤255
  omega
def mkH (l:List Int):Int:=l.getD 0 0
theorem mkH_enc (l:List Int) (h:l.length = 1):eH (mkH l) = l.map (Value.int .u16):=by
 match l,h with
 | [_],_=>rfl
theorem mkH_wf (l:List Int) (h:l.length = 1) (hw : ∀ z∈l,(Lit.int .u16 z).wf = true):0≤mkH l∧mkH l≤65535:=by
 match l,h,hw with
 | [a],_,hw =>
  have:=hw a (by simp)
  simp [Lit.wf,IntKind.min,IntKind.max,IntKind.signed,IntKind.bits] at this
  show 0≤a∧a≤65535
  omega
theorem rp_w (A0 : Option Addr) (n0 c0 : Nat) (l0 : List Int) (A1 : Option Addr) (n1 c1 : Nat) (l1 : List Int) (W : World) (ht : Tab W) (hn0 : l0.length = n0) (r0 : Row W A0 n0 c0 (rows eB l0)) (w0 : ∀ x ∈ l0, 0 ≤ x ∧ x ≤ 255) (hn1 : l1.length = n1) (r1 : Row W A1 n1 c1 (rows eH l1)) (w1 : ∀ x ∈ l1, 0 ≤ x ∧ x ≤ 65535) :
    Calls Tryd.prog 12 #[.slice A0 n0 c0,.slice A1 n1 c1] W fun e W'=>e = .returned (.bool true)∧Below W.heap.size W W':=by
 obtain ⟨φ,κ,R,hr⟩:=rows_entry ht [(A0,n0,c0,rows eB l0),(A1,n1,c1,rows eH l1)] (fun x hx=>by
  simp only [List.mem_cons,List.not_mem_nil,or_false] at hx
  rcases hx with rfl|rfl
  ·exact ⟨r0,no_all (rows_no (f:=eB) l0)⟩
  ·exact ⟨r1,no_all (rows_no (f:=eH) l1)⟩)
 obtain ⟨e0,o0⟩:=hr 0 _ rfl
 obtain ⟨e1,o1⟩:=hr 1 _ rfl
 simp only [List.length_cons,List.length_nil,List.map_cons,List.map_nil,Nat.reduceAdd] at e0 o0 e1 o1
 refine (pieces_c n0 c0 n1 c1 l0 l1 hn0 hn1 w0 w1).enter R ?_ ?_ rfl
 ·intro x hx
  simp only [List.mem_cons,List.not_mem_nil,or_false] at hx
  rcases hx with rfl|rfl
  ·exact o0
  ·exact o1
 ·show (#[Vm.ren φ κ (.slice (some ⟨1,0,none⟩) n0 c0),Vm.ren φ κ (.slice (some ⟨2,0,none⟩) n1 c1)]:Array Value) = _
  simp only [e0,e1]
set_option maxRecDepth 100000 in
theorem rp_lifted (os : Os) (started : os.Started) (H : Type) (enc : TypeId × Value → H) :
    ReturnsInHanded {} Tryd.checked os 12 .any (fun w args=>(Rows.recordPiecesSpec.pre enc Tryd.prog Tryd.f12 [] false w args∧laidMetH Tryd.prog laidR w)∧sizedMet enc Tryd.prog Tryd.f12 (OpenSpec.ofChange Rows.recordPiecesSpec) false w args) (Rows.recordPiecesSpec.post enc Tryd.prog Tryd.f12 false true false false):=by
 refine returnsInHanded_of_change_and (C:=Tryd.checked) (X:=fun w _=>laidMetH Tryd.prog laidR w) (fun _ _ _ hh h=>h.of_heap hh) rp_own started (by kernel_rfl) Tryd.func12
  (ChangeSpec.witness_shaped (enc:=enc) (C:=Tryd.checked) (os:=os) (X:=fun w _=>laidMetH Tryd.prog laidR w) false (World.doorLaid Tryd.prog 400 os) #[.slice none 0 0,.slice none 0 0] 8 rfl (World.shaped_of_RefB (by kernel_rfl) (by kernel_rfl)) (by kernel_rfl) (by kernel_rfl) (by kernel_rfl) (door_met os _)) ?_
 intro W base args ds gs before hval0 hW _ _ hL _
 have hval : ∀ (j:Nat) t v,Tryd.f12.params[j]? = some t→args[j]? = some v→Value.okWide Tryd.prog W .any base t v:=hval0
 have hW':=hW
 obtain ⟨p,q,hA0,hV,rfl,hfz,hnd⟩:=hW
 have hA:DataW.TrodAll enc Tryd.prog W 0 (fun _=>true) true Tryd.f12.params.toList args.toList ds p:=hA0
 rw [Tryd.params12] at hA hval
 obtain ⟨v0,vs0,d0,ds0,p0,q0,hargs,rfl,rfl,g0,r0⟩:=trodAll_cons hA
 obtain ⟨v1,vs1,d1,ds1,p1,q1,rfl,rfl,rfl,g1,r1⟩:=trodAll_cons r0
 obtain ⟨rfl,rfl,rfl⟩:=trodAll_nil r1
 obtain rfl:args = #[v0,v1]:=by cases args; simp_all
 obtain ⟨rfl,rfl⟩:=trodVars_none hV
 have k0:=g0
 have lt0 : ∀ x∈p0,x.block < W.heap.size:=by obtain ⟨m,hm⟩:=k0; exact DataW.trod_lt m _ _ _ hm
 have k1:=g1
 have lt1 : ∀ x∈p1,x.block < W.heap.size:=by obtain ⟨m,hm⟩:=k1; exact DataW.trod_lt m _ _ _ hm
 obtain ⟨A0,n0,c0,rfl⟩:=okWide_slice Tryd.underlying22 (hval 0 22 v0 rfl rfl)
 obtain ⟨f0,hf0⟩:=g0
 obtain ⟨B0,m0,d0',l0,he0,hn0,hr0,hcp0,hx0⟩:=Row.of_trod mkB mkB_enc (f:=9) (ls:=[5]) Tryd.underlying22 (by kernel_rfl) rfl (by omega) (by kernel_rfl) (fun lt hlt=>by simp at hlt; subst hlt; exact u_u8) (by simpa [Value.cells] using hf0)
 have he0' : Value.slice A0 n0 c0 = .slice B0 m0 d0':=by simpa using he0
 injection he0' with x1 x2 x3
 subst x1 x2 x3
 have w0 : ∀ x∈l0,0≤x∧x≤255:=fun x hx=>by
  obtain ⟨z,hz,rfl,hw⟩:=hx0 x hx
  exact mkB_wf z hz hw
 obtain ⟨A1,n1,c1,rfl⟩:=okWide_slice Tryd.underlying82 (hval 1 82 v1 rfl rfl)
 obtain ⟨f1,hf1⟩:=g1
 obtain ⟨B1,m1,d1',l1,he1,hn1,hr1,hcp1,hx1⟩:=Row.of_trod mkH mkH_enc (f:=9) (ls:=[75]) Tryd.underlying82 (by kernel_rfl) rfl (by omega) (by kernel_rfl) (fun lt hlt=>by simp at hlt; subst hlt; exact u_u16) (by simpa [Value.cells] using hf1)
 have he1' : Value.slice A1 n1 c1 = .slice B1 m1 d1':=by simpa using he1
 injection he1' with x1 x2 x3
 subst x1 x2 x3
 have w1 : ∀ x∈l1,0≤x∧x≤65535:=fun x hx=>by
  obtain ⟨z,hz,rfl,hw⟩:=hx1 x hx
  exact mkH_wf z hz hw
 clear hA0 hval0
 refine (rp_w _ _ _ l0 _ _ _ l1 W (tab_of_laid hL) hn0 hr0 w0 hn1 hr1 w1).mono fun e W' ⟨he,bel⟩=>?_
 subst he
 exact ⟨_,rfl,_,_,_,[],_,[],hW',trodAll_mk1 (shut_bool u_bool _),(trodAll_cons_mk (Below.trod rp_laidOut (by kernel_rfl) (of_decide_eq_true (by kernel_rfl)) k0 bel lt0) (trodAll_cons_mk (Below.trod rp_laidOut (by kernel_rfl) (of_decide_eq_true (by kernel_rfl)) k1 bel lt1) trodAll_mk0)),rfl,bel.frame _,fun h=>by cases h⟩
theorem rp_over:Rows.recordPiecesRow.holds Tryd.pinned (OpenSpec.ofChange Rows.recordPiecesSpec) :=
 OpenClaim.holds_of_wide 12 Tryd.f12 rfl rfl rfl rfl rfl rfl rfl ⟨rfl,rfl,rfl,rfl,rfl⟩ rfl rfl rfl rfl rfl (by kernel_rfl) Tryd.func12 (by kernel_rfl)
  (of_decide_eq_true (by kernel_rfl)) (by unfold Func.isWrapper; first|(rw [if_pos (by decide +kernel)]; kernel_rfl)|(rw [if_neg (by decide +kernel)]; exact ⟨rfl,rfl⟩))
  (fun os started H enc _=>rp_lifted os started H enc)
theorem recordPieces_holds:Rows.RecordPiecesCardSaid :=
 Claim7.holds_tied_plain_at .later [] [.sentinel,.data] true (true,"e87fbf8d0569de18fdda475ebe8eff6b1cab71c00a2475e5fe16bbd14d38446e") true
  rp_over (fun _ h=>by cases h) (by kernel_rfl) (fun _ h=>by cases h) recordPieces_row_tie rfl ⟨rfl,rfl⟩ (by kernel_rfl) rfl
  (fun f fn hf hfn=>by
   obtain rfl:f = 12:=Option.some.inj ((show Tryd.prog.funcNamed "boule/boulelaw06.RecordPieces" = some 12 by kernel_rfl).symm.trans hf) |>.symm
   obtain rfl:fn = Tryd.f12:=(Option.some.inj (Tryd.func12.symm.trans hfn)).symm
   exact ⟨by kernel_rfl,fun j t ht=>by
    rw [Tryd.params12] at ht
    have hm:t∈[22,82]:=by simpa using Array.mem_of_getElem? ht
    have hall:([22,82].all fun u=>!Tryd.prog.wantsStandIn u) = true:=by kernel_rfl
    exact (show Tryd.prog.wantsStandIn t = false by simpa using List.all_eq_true.1 hall t hm)⟩)
  (by kernel_rfl)
end Go.Proofs.YtgjokhodccacoaaDoor
